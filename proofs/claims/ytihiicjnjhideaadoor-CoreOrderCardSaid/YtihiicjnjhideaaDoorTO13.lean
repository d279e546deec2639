/- Parts of the proof of coreOrder: PAllx8, BuildBegins. No condition beyond each lemma's own. -/
import Derived.Test.YtihiicjnjhideaaDoorTO1
import Derived.Test.YtihiicjnjhideaaDoorTO5
import Derived.Test.YtihiicjnjhideaaDoorTO9
import Derived.Test.YtihiicjnjhideaaDoorTO12
section
namespace Go.Proofs.YtihiicjnjhideaaDoor.PAll
open Go.RowKit Go.Proofs.YtihiicjnjhideaaDoorW.PrintWords Go.Proofs.YtihiicjnjhideaaDoorW.PrintLast Go.Proofs.YtihiicjnjhideaaDoorW.PrintMore
attribute [local go_sem] max2_int max_two
set_option linter.unusedVariables false
set_option linter.unusedSimpArgs false
def script_tree.f (l0 : List (S51)) (l1 : List Int) : Option (Bool) := if (l0.length : Int) > 0 then (if 0 ≤ (wrap64 ((l0.length : Int) - 1)) then (if (wrap64 ((l0.length : Int) - 1)) < (l1.length : Int) then (some ((rd l1 (wrap64 ((l0.length : Int) - 1))) == 0)) else (none)) else (none)) else (some false)
set_option maxHeartbeats 8000000 in
set_option maxRecDepth 100000 in
theorem script_tree.calls (A0 : Option Addr) (c0 : Nat) (l0 : List (S51)) (A1 : Option Addr) (c1 : Nat) (l1 : List Int) (r : Bool) (w : World) (hr0 : Kd.C k51 w A0 l0.length l0) (hc0 : l0.length ≤ c0) (hr1 : Kd.C (Kd.int .i64) w A1 l1.length l1) (hc1 : l1.length ≤ c1) (h : script_tree.f l0 l1 = some r) :
  Calls Tryd.prog 38 #[.slice A0 l0.length c0, .slice A1 l1.length c1] w fun e w' => e = .returned (.bool r) ∧ Drawn0 w w' := by
 have HR0 := aK hr0
 have HC0 := aK hc0
 clear hr0 hc0
 have HR1 := aK hr1
 have HC1 := aK hc1
 clear hr1 hc1
 have H : (if (l0.length : Int) > 0 then (if 0 ≤ (wrap64 ((l0.length : Int) - 1)) then (if (wrap64 ((l0.length : Int) - 1)) < (l1.length : Int) then (some ((rd l1 (wrap64 ((l0.length : Int) - 1))) == 0)) else (none)) else (none)) else (some false)) = some r := h
 clear h
 by_cases c3 : (l0.length : Int) > 0
 ·rw [if_pos c3] at H
  have c3b0 : decide (0 < (l0.length : Int)) = true := decide_eq_true c3
  have c3b1 : decide (0 < l0.length) = true := decide_eq_true (by omega)
  clear c3
  obtain ⟨ji4, hji4⟩ : ∃ j_ : Int, (wrap64 ((l0.length : Int) - 1)) = j_ := ⟨_, rfl⟩
  replace H : (if 0 ≤ (ji4) then (if (ji4) < (l1.length : Int) then (some ((rd l1 (ji4)) == 0)) else (none)) else (none)) = some r := by first | (rw [hji4] at H; exact H) | (simp only [hji4] at H ⊢; exact H)
  have hji4w : (IntKind.i64.wrap ((l0.length : Int) - 1)) = ji4 := (i64_w _).trans hji4
  by_cases c5 : 0 ≤ (ji4)
  ·rw [if_pos c5] at H
   have c5b0 : decide (0 ≤ (ji4)) = true := decide_eq_true c5
   clear c5
   by_cases c6 : (ji4) < (l1.length : Int)
   ·rw [if_pos c6] at H
    have c6b0 : decide ((ji4) < (l1.length : Int)) = true := decide_eq_true c6
    clear c6
    obtain rfl := Option.some.inj H
    have p127 : 0 ≤ ((ji4) : Int) := of_decide_eq_true (by first | (with_reducible assumption) | assumption)
    have q127 : (ji4) < (l1.length : Int) := of_decide_eq_true (by first | (with_reducible assumption) | assumption)
    obtain ⟨ad127, e127, hx127_0⟩ := Kd.at_int HR1.out (ji4) p127 q127
    cases e127
    replace p127 := eq_true p127
    replace q127 := eq_true q127
    go_enter Tryd.func38, Tryd.ntmps38
    go_wp2
    go_ret
    exact ⟨by first | rfl | (simp; done) | (simp only [← hji4] <;> (first | rfl | simp)) | (simp [*]; done), by repeat (first | exact Drawn0.refl _ | apply Drawn0.step)⟩
   ·rw [if_neg c6] at H
    exact absurd H (by simp)
  ·rw [if_neg c5] at H
   exact absurd H (by simp)
 ·rw [if_neg c3] at H
  have c3b0 : decide (0 < (l0.length : Int)) = false := decide_eq_false c3
  have c3b1 : decide (0 < l0.length) = false := decide_eq_false (by omega)
  clear c3
  obtain rfl := Option.some.inj H
  go_enter Tryd.func38, Tryd.ntmps38
  go_wp2
  go_ret
  exact ⟨by first | rfl | (simp; done) | (simp [*]; done), by repeat (first | exact Drawn0.refl _ | apply Drawn0.step)⟩
end Go.Proofs.YtihiicjnjhideaaDoor.PAll
end
section
namespace Go.Proofs.YtihiicjnjhideaaDoor.Build
open Go.RowKit Go.Proofs.YtihiicjnjhideaaDoorW.PrintWords Go.Proofs.YtihiicjnjhideaaDoor.PAll Go.Proofs.YtihiicjnjhideaaDoor.Core
set_option linter.unusedVariables false
set_option linter.unusedSimpArgs false
theorem flatF_len : ∀ ps : List T, ps.length ≤ (flatF ps).length
 | [] => Nat.le_refl _
 | t :: ps => by
  have := flatF_len ps
  have := flatT_pos t
  rw [flatF, List.length_append, List.length_cons]
  omega
theorem seg_len (e : List EN) (a b : Nat) : (seg e a b).length ≤ b - a := by unfold seg; rw [List.length_take]; omega
/-- From a, k parts back, b is reached. -/
def Ch (R : List Int) : Nat → Int → Int → Prop
 | 0, a, b => a = b
 | k + 1, a, b => 0 < a ∧ Ch R k (R.getD (a - 1).toNat 0) b
theorem Ch.snoc {R : List Int} : ∀ {k : Nat} {a b : Int}, Ch R k a b → 0 < b → Ch R (k + 1) a (R.getD (b - 1).toNat 0)
 | 0, a, b, h, h0 => by
  have h : a = b := h
  subst h
  exact ⟨h0, rfl⟩
 | k + 1, a, b, h, h0 => ⟨h.1, Ch.snoc h.2 h0⟩
theorem Ch.same {R R' : List Int} {i : Nat} (h1 : ∀ j, j < i → R.getD j 0 = R'.getD j 0) (h2 : ∀ j : Nat, j < i → R.getD j 0 ≤ j) : ∀ {k : Nat} {a b : Int}, a ≤ i → Ch R k a b → Ch R' k a b
 | 0, a, b, _, h => h
 | k + 1, a, b, ha, h => by
  have hp := h.1
  have hj : (a - 1).toNat < i := by omega
  have h3 := h2 _ hj
  have h4 := Ch.same h1 h2 (k := k) (a := R.getD (a - 1).toNat 0) (b := b) (by omega) h.2
  rw [h1 _ hj] at h4
  exact ⟨hp, h4⟩
/-- The parts of the node at i lead back to where its tree begins. -/
def ChAt (e : List EN) (R : List Int) (b : Int) (i : Nat) : Prop := ∀ x, e[i]? = some x → 0 ≤ b → 0 ≤ x.f1 ∧ Ch R x.f1.toNat (i : Int) b
section
variable (e : List EN) (hl : e.length ≤ 1048576)
structure Inner (L : List Int) (i : Nat) (N at_ : Int) (k : Nat) : Prop where
 lo : -1 ≤ at_
 hi : at_ ≤ i
 parts : 0 ≤ at_ → (k : Int) ≤ N ∧ N ≤ i ∧ ∃ ps, ps.length = k ∧ wfF ps ∧ flatF ps = seg e at_.toNat i
 zero : at_ = 0 → N ≤ k
 ch : 0 ≤ at_ → Ch L k (i : Int) at_
theorem Inner.kb {L : List Int} {i k : Nat} {N at_ : Int} (h : Inner e L i N at_ k) (h0 : 0 ≤ at_) : k ≤ i := by
 obtain ⟨_, _, ps, h1, _, h3⟩ := h.parts h0
 have := flatF_len ps
 have := seg_len e at_.toNat i
 rw [h3] at *
 omega
include hl in
theorem inner (L : List Int) (i : Nat) (x : EN) (hx : e[i]? = some x) (hL : L.length = e.length) (hb : ∀ j, j < i → BegAt e (L.getD j 0) j) : ∀ (d : Nat) (at_ : Int) (k : Nat), (at_ + 1).toNat ≤ d → Inner e L i x.f1 at_ k → (at_ = -1 → k ≤ 1048577) →
  ∃ b, (BegAt e b i ∧ ChAt e L b i) ∧ ∀ r, Ev (fun f => script_begins.l0 f (L.set i b) e (e.length : Int) ((i + 1 : Nat) : Int)) r → Ev (fun f => script_begins.l1 f L (i : Int) at_ (k : Int) e (e.length : Int) (i : Int) x.f0 x.f1 x.f2 x.f3 x.f4.f0 x.f4.f1 x.f4.f2 x.f4.f3 x.f5 x.f6) r := by
 have hi : i < e.length := (List.getElem?_eq_some_iff.1 hx).1
 have fin : ∀ (at_ : Int) (k : Nat), Inner e L i x.f1 at_ k → ¬ ((k : Int) < x.f1 ∧ at_ > 0) → ∃ b, (BegAt e b i ∧ ChAt e L b i) ∧ ∀ r, Ev (fun f => script_begins.l0 f (L.set i b) e (e.length : Int) ((i + 1 : Nat) : Int)) r → Ev (fun f => script_begins.j4 f L (i : Int) at_ (k : Int) e (e.length : Int) (i : Int) false x.f0 x.f1 x.f2 x.f3 x.f4.f0 x.f4.f1 x.f4.f2 x.f4.f3 x.f5 x.f6) r := by
  intro at_ k hI hn
  have hw := aK (show wrap64 ((i : Int) + 1) = ((i + 1 : Nat) : Int) by rw [w64] <;> omega)
  by_cases hz : at_ = 0 ∧ x.f1 > 0 ∧ i = 0
  ·refine ⟨-1, ⟨⟨by omega, by omega, fun h => by omega⟩, fun _ _ h => by omega⟩, fun r hr => ?_⟩
   refine Ev.step (fun _ => by rw [script_begins.j4]) ?_
   refine Ev.neg (by simp) (Ev.pos hz.1 (Ev.pos hz.2.1 (Ev.pos (by omega) (Ev.pos (by omega) (Ev.pos (by omega) ?_)))))
   rw [hw.out, Int.toNat_natCast]
   exact hr
  ·refine ⟨at_, ⟨⟨hI.lo, hI.hi, fun h0 => ?_⟩, fun x' hx' h0 => ?_⟩, fun r hr => ?_⟩
   ·obtain ⟨p1, p2, ps, p3, p4, p5⟩ := hI.parts h0
    have hk : x.f1 = (ps.length : Int) := by
     by_cases h1 : at_ = 0
     ·have := hI.zero h1; omega
     ·omega
    have := seg_tree e hx (show at_.toNat ≤ i by have := hI.hi; omega) p4 p5 hk
    exact ⟨_, this.1, this.2⟩
   ·rw [hx] at hx'
    cases hx'
    obtain ⟨p1, p2, ps, p3, p4, p5⟩ := hI.parts h0
    have hk : x.f1 = (k : Int) := by
     by_cases h1 : at_ = 0
     ·have := hI.zero h1; omega
     ·omega
    refine ⟨by omega, ?_⟩
    rw [hk, Int.toNat_natCast]
    exact hI.ch h0
   ·refine Ev.step (fun _ => by rw [script_begins.j4]) ?_
    have hset : Ev (fun f => if 0 ≤ (i : Int) then (if (i : Int) < (L.length : Int) then (script_begins.l0 f (L.set ((i : Int)).toNat at_) e (e.length : Int) (wrap64 ((i : Int) + 1))) else none) else none) r := by
     refine Ev.pos (by omega) (Ev.pos (by omega) ?_)
     rw [hw.out, Int.toNat_natCast]
     exact hr
    refine Ev.neg (by simp) (Ev.ite (fun h1 => Ev.ite (fun h2 => Ev.neg (fun h3 => hz ⟨h1, h2, by omega⟩) hset) (fun _ => hset)) (fun _ => hset))
 intro d
 induction d with
 | zero =>
  intro at_ k hd hI hk1
  have h1 : at_ = -1 := by have := hI.lo; omega
  obtain ⟨b, hb1, hb2⟩ := fin at_ k hI (by omega)
  refine ⟨b, hb1, fun r hr => ?_⟩
  refine Ev.step (fun _ => by rw [script_begins.l1]) ?_
  refine Ev.ite (fun _ => ?_) (fun _ => hb2 r hr)
  rw [show decide (at_ > 0) = false from decide_eq_false (by omega)]
  exact hb2 r hr
 | succ d ih =>
  intro at_ k hd hI hk1
  by_cases hc : (k : Int) < x.f1 ∧ at_ > 0
  ·obtain ⟨hc1, hc2⟩ := hc
   obtain ⟨p1, p2, ps, p3, p4, p5⟩ := hI.parts (by omega)
   have hkb := hI.kb e (by omega)
   obtain ⟨a, ha⟩ : ∃ a : Nat, at_ = (a : Int) + 1 := ⟨at_.toNat - 1, by omega⟩
   have hai : a < i := by have := hI.hi; omega
   have hB := hb a hai
   have hwa := aK (show wrap64 (at_ - 1) = (a : Int) by rw [ha, show (a : Int) + 1 - 1 = (a : Int) by omega, w64] <;> omega)
   have hwk := aK (show wrap64 ((k : Int) + 1) = ((k + 1 : Nat) : Int) by rw [w64] <;> omega)
   have hwn := aK (show wrap64 (x.f1 - 1) = x.f1 - 1 by rw [w64] <;> omega)
   obtain ⟨v, hv⟩ : ∃ v, L.getD a 0 = v := ⟨_, rfl⟩
   have hrd := aK (show rd L (a : Int) = v by rw [rd, Int.toNat_natCast]; exact hv)
   have hvv := aK hv
   rw [hv] at hB
   clear hv
   have hbad : Inner e L i x.f1 (-1) (k + 1) := ⟨by omega, by omega, fun h => by omega, fun h => by omega, fun h => by omega⟩
   have hgood : (v = 0 → ¬ (k : Int) < x.f1 - 1) → Inner e L i x.f1 v (k + 1) := fun hz => by
    refine ⟨hB.lo, by have := hB.hi; omega, fun h0 => ⟨by omega, p2, ?_⟩, fun h0 => by have := hz h0; omega, fun h0 => ?_⟩
    rotate_left
    ·have hc := (hI.ch (by omega)).snoc (by omega)
     rw [show (at_ - 1).toNat = a by omega, hvv.out] at hc
     exact hc
    obtain ⟨t, ht1, ht2⟩ := hB.tree h0
    have := seg_more e (a := v.toNat) (b := a + 1) (i := i) (by have := hB.hi; omega) (by omega) p4 (by rw [p5, ha]; rfl) ht1 ht2
    exact ⟨t :: ps, by simp [p3], this.1, this.2⟩
   by_cases hz : v = 0 ∧ (k : Int) < x.f1 - 1
   ·obtain ⟨b, hb1, hb2⟩ := ih (-1) (k + 1) (by omega) hbad (fun _ => by omega)
    refine ⟨b, hb1, fun r hr => ?_⟩
    refine Ev.step (fun _ => by rw [script_begins.l1]) (Ev.pos hc1 ?_)
    rw [show decide (at_ > 0) = true from decide_eq_true hc2]
    refine Ev.step (fun _ => by rw [script_begins.j4]) (Ev.pos rfl ?_)
    rw [hwa.out, hrd.out, hwk.out, hwn.out]
    exact Ev.pos (by omega) (Ev.pos (by omega) (Ev.pos hz.1 (Ev.pos hz.2 (hb2 r hr))))
   ·obtain ⟨b, hb1, hb2⟩ := ih v (k + 1) (by have := hB.hi; have := hB.lo; omega) (hgood (fun h1 h2 => hz ⟨h1, h2⟩)) (fun _ => by omega)
    refine ⟨b, hb1, fun r hr => ?_⟩
    refine Ev.step (fun _ => by rw [script_begins.l1]) (Ev.pos hc1 ?_)
    rw [show decide (at_ > 0) = true from decide_eq_true hc2]
    refine Ev.step (fun _ => by rw [script_begins.j4]) (Ev.pos rfl ?_)
    rw [hwa.out, hrd.out, hwk.out, hwn.out]
    exact Ev.pos (by omega) (Ev.pos (by omega) (Ev.ite (fun h1 => Ev.neg (fun h2 => hz ⟨h1, h2⟩) (hb2 r hr)) (fun _ => hb2 r hr)))
  ·obtain ⟨b, hb1, hb2⟩ := fin at_ k hI hc
   refine ⟨b, hb1, fun r hr => ?_⟩
   refine Ev.step (fun _ => by rw [script_begins.l1]) ?_
   refine Ev.ite (fun h1 => ?_) (fun _ => hb2 r hr)
   rw [show decide (at_ > 0) = false from decide_eq_false (fun h2 => hc ⟨h1, h2⟩)]
   exact hb2 r hr
include hl in
theorem outer : ∀ (d i : Nat) (L : List Int), i + d = e.length → L.length = e.length → (∀ j, j < i → BegAt e (L.getD j 0) j ∧ ChAt e L (L.getD j 0) j) →
  ∃ R, Ev (fun f => script_begins.l0 f L e (e.length : Int) (i : Int)) R ∧ R.length = e.length ∧ ∀ j, j < e.length → BegAt e (R.getD j 0) j ∧ ChAt e R (R.getD j 0) j
 | 0, i, L, hid, hL, hb => ⟨L, by
   refine Ev.step (fun _ => by rw [script_begins.l0]) ?_
   exact Ev.neg (by omega) (Ev.some_ rfl), hL, fun j hj => hb j (by omega)⟩
 | d + 1, i, L, hid, hL, hb => by
  have hi : i < e.length := by omega
  obtain ⟨x, hx⟩ : ∃ x, e[i]? = some x := ⟨_, List.getElem?_eq_getElem hi⟩
  have hrd := aK (show rd_T51 e (i : Int) = x by rw [rd_T51, Int.toNat_natCast, List.getD_eq_getElem?_getD, hx]; rfl)
  have next : ∀ (at_ : Int), Inner e L i x.f1 at_ 0 → ∃ R, Ev (fun f => script_begins.l1 f L (i : Int) at_ 0 e (e.length : Int) (i : Int) x.f0 x.f1 x.f2 x.f3 x.f4.f0 x.f4.f1 x.f4.f2 x.f4.f3 x.f5 x.f6) R ∧ R.length = e.length ∧ ∀ j, j < e.length → BegAt e (R.getD j 0) j ∧ ChAt e R (R.getD j 0) j := by
   intro at_ hI
   obtain ⟨b, hb1, hb2⟩ := inner e hl L i x hx hL (fun j hj => (hb j hj).1) (at_ + 1).toNat at_ 0 (Nat.le_refl _) hI (fun _ => by omega)
   have hsame : ∀ j, j ≠ i → (L.set i b).getD j 0 = L.getD j 0 := fun j hji => by
    rw [List.getD_eq_getElem?_getD, List.getElem?_set, if_neg (fun e => hji e.symm), ← List.getD_eq_getElem?_getD]
   have hself : (L.set i b).getD i 0 = b := by
    rw [List.getD_eq_getElem?_getD, List.getElem?_set, if_pos rfl, if_pos (by omega)]
    rfl
   have hch : ∀ (j : Nat) (v : Int), j ≤ i → ChAt e L v j → ChAt e (L.set i b) v j := fun j v hj h y hy h0 =>
    ⟨(h y hy h0).1, Ch.same (i := j) (fun q hq => (hsame q (by omega)).symm) (fun q hq => (hb q (by omega)).1.hi) (Int.le_refl _) (h y hy h0).2⟩
   obtain ⟨R, hR1, hR2⟩ := outer d (i + 1) (L.set i b) (by omega) (by rw [List.length_set]; exact hL) (fun j hj => by
    by_cases hji : j = i
    ·subst hji
     rw [hself]
     exact ⟨hb1.1, hch _ _ (Nat.le_refl _) hb1.2⟩
    ·rw [hsame j hji]
     exact ⟨(hb j (by omega)).1, hch j _ (by omega) (hb j (by omega)).2⟩)
   exact ⟨R, hb2 R hR1, hR2⟩
  by_cases hN : x.f1 < 0 ∨ x.f1 > (i : Int)
  ·obtain ⟨R, hR1, hR2⟩ := next (-1) ⟨by omega, by omega, fun h => by omega, fun h => by omega, fun h => by omega⟩
   refine ⟨R, ?_, hR2⟩
   refine Ev.step (fun _ => by rw [script_begins.l0]) (Ev.pos (by omega) (Ev.pos (by omega) (Ev.pos (by omega) ?_)))
   rw [hrd.out]
   have hj : Ev (fun f => script_begins.j1 f L (i : Int) (i : Int) e (e.length : Int) (i : Int) true x.f0 x.f1 x.f2 x.f3 x.f4.f0 x.f4.f1 x.f4.f2 x.f4.f3 x.f5 x.f6) R := by
    refine Ev.step (fun _ => by rw [script_begins.j1]) (Ev.pos rfl ?_)
    exact Ev.step (fun _ => by rw [script_begins.j2]) hR1
   refine Ev.ite (fun _ => hj) (fun h => ?_)
   rw [show decide (x.f1 > (i : Int)) = true from decide_eq_true (by omega)]
   exact hj
  ·obtain ⟨R, hR1, hR2⟩ := next (i : Int) ⟨by omega, Int.le_refl _, fun h => ⟨by omega, by omega, [], rfl, by rw [wfF]; trivial, by rw [flatF, Int.toNat_natCast, seg, Nat.sub_self, List.take_zero]⟩, fun h => by omega, fun _ => rfl⟩
   refine ⟨R, ?_, hR2⟩
   refine Ev.step (fun _ => by rw [script_begins.l0]) (Ev.pos (by omega) (Ev.pos (by omega) (Ev.pos (by omega) ?_)))
   rw [hrd.out]
   refine Ev.neg (by omega) ?_
   rw [show decide (x.f1 > (i : Int)) = false from decide_eq_false (by omega)]
   refine Ev.step (fun _ => by rw [script_begins.j1]) (Ev.neg (by simp) ?_)
   exact Ev.step (fun _ => by rw [script_begins.j2]) hR1
include hl in
theorem begins_any : ∃ R, Ev (fun f => script_begins.f f e) R ∧ R.length = e.length ∧ ∀ j, j < e.length → BegAt e (R.getD j 0) j ∧ ChAt e R (R.getD j 0) j := by
 obtain ⟨R, h1, h2⟩ := outer e hl e.length 0 (List.replicate e.length 0) (by omega) (by simp) (fun j hj => by omega)
 refine ⟨R, ?_, h2⟩
 unfold script_begins.f
 refine Ev.pos (by omega) (Ev.pos (by omega) ?_)
 rw [Int.toNat_natCast]
 exact h1
include hl in
theorem tree_any (R : List Int) (hR : R.length = e.length) (hb : ∀ j, j < e.length → BegAt e (R.getD j 0) j ∧ ChAt e R (R.getD j 0) j) : ∃ v, script_tree.f e R = some v ∧ (v = true → ∃ t, wfT t ∧ flatT t = e) := by
 unfold script_tree.f
 by_cases h0 : e.length = 0
 ·exact ⟨false, by rw [if_neg (by omega)], fun h => by cases h⟩
 ·have hw : wrap64 ((e.length : Int) - 1) = ((e.length - 1 : Nat) : Int) := by rw [w64] <;> omega
  rw [if_pos (by omega), hw, if_pos (by omega), if_pos (by omega)]
  refine ⟨_, rfl, fun h => ?_⟩
  rw [rd, Int.toNat_natCast] at h
  have hz : R.getD (e.length - 1) 0 = 0 := by simpa using h
  have hB := (hb (e.length - 1) (by omega)).1
  rw [hz] at hB
  obtain ⟨t, h1, h2⟩ := hB.tree (by omega)
  refine ⟨t, h1, ?_⟩
  rw [h2, show e.length - 1 + 1 = e.length by omega]
  unfold seg
  simp
end
end Go.Proofs.YtihiicjnjhideaaDoor.Build
end
