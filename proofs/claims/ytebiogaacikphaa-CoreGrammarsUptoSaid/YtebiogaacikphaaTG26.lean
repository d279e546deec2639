/- Parts of the proof of coreGrammars: FreeTexts. No condition beyond each lemma's own. -/
import Derived.Test.YtebiogaacikphaaTG13
import Derived.Test.YtebiogaacikphaaTG25
section
namespace Go.Proofs.Ytebiogaacikphaa.Pack
open Go.RowKit Go.Proofs.YtebiogaacikphaaW.PrintWords Go.Proofs.Ytebiogaacikphaa.PAll
set_option linter.unusedVariables false
set_option linter.unusedSimpArgs false
set_option linter.unnecessarySimpa false
def wordS (i : Nat) : ByteArray := (dowelbook_word.f (i : Int)).getD ⟨#[]⟩
theorem word_lit (i : Nat) (w : World) : Calls Try.prog 98 #[.int .i64 (i : Int)] w fun e w' => e = .returned (.string (wordS i)) ∧ Below w.heap.size w w' :=
 dowelbook_word.calls (i : Int) (wordS i) w (by unfold wordS dowelbook_word.f; rfl)
def reps (q : Nat) (m : List Value) : List Value := (List.replicate q m).flatten
theorem reps_succ (q : Nat) (m : List Value) : reps (q + 1) m = reps q m ++ m := by
 unfold reps
 rw [List.replicate_succ', List.flatten_append]
 simp
theorem reps_zero (m : List Value) : reps 0 m = [] := rfl
theorem reps_get (q : Nat) (m : List Value) (s : Nat) (hm : m.length = s) : ∀ k i u, k < q → m[i]? = some u → (reps q m)[k * s + i]? = some u := by
 induction q with
 | zero => intro k i u hk; omega
 | succ q ih =>
  intro k i u hk hu
  have hlt := (List.getElem?_eq_some_iff.1 hu).1
  have hl : (reps q m).length = q * s := by
   unfold reps
   clear ih hk
   induction q with
   | zero => simp
   | succ q ih2 => rw [List.replicate_succ, List.flatten_cons, List.length_append, ih2, hm, Nat.succ_mul]; omega
  rw [reps_succ]
  rcases Nat.lt_or_ge k q with h | h
  ·rw [List.getElem?_append_left (by rw [hl]; have : (k + 1) * s ≤ q * s := Nat.mul_le_mul_right s h; rw [Nat.succ_mul] at this; omega)]
   exact ih k i u h hu
  ·obtain rfl : k = q := by omega
   rw [List.getElem?_append_right (by rw [hl]; omega), hl, Nat.add_sub_cancel_left]
   exact hu
/-- While N lists are grown by K, one by one, and each is put into a list of its own. -/
structure PG (N K : Nat) (v0 : Nat → Value) (n0 : Nat → Nat) (full more : Nat → List Value) (i q : Nat) (v : Nat → Value) (ns : Nat → Nat) (cs : Nat → List Value) : Prop where
 lo : ∀ j, j < i → ns j = n0 j + K ∧ cs j = full j ++ reps K (more j)
 at_ : i < N → ns i = n0 i + q ∧ cs i = full i ++ reps q (more i)
 at0 : i < N → q = 0 → v i = v0 i
 hi : ∀ j, i < j → j < N → v j = v0 j ∧ ns j = n0 j ∧ cs j = full j
 out : ns N = i ∧ cs N = (List.range i).map v
 le : i ≤ N
section
variable {N K : Nat} {v0 v : Nat → Value} {n0 ns : Nat → Nat} {full more cs : Nat → List Value} {i q : Nat} {x' : Value}
theorem PG.more_ (h : PG N K v0 n0 full more i q v ns cs) (hi : i < N) : PG N K v0 n0 full more i (q + 1) (upd v i x') (upd ns i (ns i + 1)) (upd cs i (cs i ++ more i)) := by
 refine ⟨fun j hj => ?_, fun _ => ?_, fun _ h0 => by omega, fun j hj hjN => ?_, ?_, h.le⟩
 ·rw [upd_ne _ _ _ (by omega), upd_ne _ _ _ (by omega)]; exact h.lo j hj
 ·rw [upd_self, upd_self, (h.at_ hi).1, (h.at_ hi).2, reps_succ, List.append_assoc]; exact ⟨by omega, rfl⟩
 ·rw [upd_ne _ _ _ (by omega), upd_ne _ _ _ (by omega), upd_ne _ _ _ (by omega)]; exact h.hi j hj hjN
 ·rw [upd_ne _ _ _ (by omega), upd_ne _ _ _ (by omega), map_upd _ _ _ _ (Nat.le_refl _)]; exact h.out
theorem PG.done (h : PG N K v0 n0 full more i K v ns cs) (hi : i < N) : PG N K v0 n0 full more (i + 1) 0 (upd v N x') (upd ns N (ns N + 1)) (upd cs N (cs N ++ [v i])) := by
 refine ⟨fun j hj => ?_, fun hi2 => ?_, fun hi2 _ => ?_, fun j hj hjN => ?_, ?_, by omega⟩
 ·rw [upd_ne _ _ _ (by omega), upd_ne _ _ _ (by omega)]
  rcases Nat.lt_or_ge j i with h1 | h1
  ·exact h.lo j h1
  ·obtain rfl : j = i := by omega
   exact h.at_ hi
 ·rw [upd_ne _ _ _ (by omega), upd_ne _ _ _ (by omega), reps_zero, List.append_nil]
  exact (h.hi (i + 1) (by omega) hi2).2
 ·rw [upd_ne _ _ _ (by omega)]; exact (h.hi (i + 1) (by omega) hi2).1
 ·rw [upd_ne _ _ _ (by omega), upd_ne _ _ _ (by omega), upd_ne _ _ _ (by omega)]; exact h.hi j (by omega) hjN
 ·rw [upd_self, upd_self, h.out.1, h.out.2, List.range_succ, List.map_append, map_upd _ _ _ _ (by omega)]
  refine ⟨rfl, ?_⟩
  simp only [List.map_cons, List.map_nil]
  rw [upd_ne _ _ _ (by omega)]
end
/-- Lists that are nil, in a row. -/
def XT (Ap : Option Addr) (N T : Nat) (f : Nat → Nat) (W : World) : Prop := ∀ j, j < N → ∃ g, Ap = some ⟨g, 0, none⟩ ∧ W.cell? ⟨g, j, none⟩ = some nilS ∧ g < W.heap.size ∧ f g = T
theorem XT.step {Ap : Option Addr} {N T : Nat} {W1 W2 : World} {f1 f2 : Nat → Nat} {i : Nat} (hi : i < T) (h : XT Ap N T f1 W1) (s : Step W1 W2 f1 f2 i) : XT Ap N T f2 W2 := fun j hj => by
 obtain ⟨g, h1, h2, h3, h4⟩ := h j hj
 exact ⟨g, h1, by rw [World.cell?_of_block (a := ⟨g, j, none⟩) (s.same g h3 (by omega))]; exact h2, Nat.lt_of_lt_of_le h3 s.size, (s.tags g h3).trans h4⟩
def plusT (j : Nat) : List Value := [.string (wordS j ++ ⟨#[43]⟩)]
theorem idx_ss (g n m i : Nat) (hi : i < n) (W : World) : (Instr.indexAt 132 (.slice (some ⟨g, 0, none⟩) n m) (.int .i64 (i : Int))).run Try.prog W = .ok (.pointer (some ⟨g, i, none⟩)) W := by
 have := run_indexAt_own (P := Try.prog) (t := 132) (size := 1) Try.underlying132 (fun W => by kernel_rfl) g n m i hi W
 rwa [Nat.mul_one] at this
theorem idx_s (g n m i : Nat) (hi : i < n) (W : World) : (Instr.indexAt 86 (.slice (some ⟨g, 0, none⟩) n m) (.int .i64 (i : Int))).run Try.prog W = .ok (.pointer (some ⟨g, i, none⟩)) W := by
 have := run_indexAt_own (P := Try.prog) (t := 86) (size := 1) Try.underlying86 (fun W => by kernel_rfl) g n m i hi W
 rwa [Nat.mul_one] at this
def eT (N : Nat) (j : Nat) : TypeId := if j < N then 9 else 86
abbrev OT (w W : World) (f : Nat → Nat) (N : Nat) (v : Nat → Value) (ns : Nat → Nat) (cs : Nat → List Value) (Ap : Option Addr) : Prop :=
 OS w.heap.size w W f (N + 1) (eT N) (fun _ => 1) v ns cs (fun _ => nilS) (fun _ => 0) (fun _ => []) (XT Ap N (N + 2))
section
variable (w : World) (N : Nat) (Ap : Option Addr) (cp : Nat)
set_option maxHeartbeats 8000000 in
set_option maxRecDepth 100000 in
theorem freeTexts_calls (hN : N ≤ 65536) (h : ∀ j, j < N → ∃ g, Ap = some ⟨g, 0, none⟩ ∧ w.cell? ⟨g, j, none⟩ = some nilS ∧ g < w.heap.size) :
  Calls Try.prog 69 #[.slice Ap N cp] w fun x w' => x = .returned (.bool true) ∧ Below w.heap.size w w' := by
 have HNN := Aside0.mk hN
 have HO := Aside0.mk (show OT w w (fun _ => N + 2) N (fun _ => nilS) (fun _ => 0) (fun _ => []) Ap from ⟨Below.refl _ _, Nat.le_refl _, fun j hj => by obtain ⟨g, h1, h2, h3⟩ := h j hj; exact ⟨g, h1, h2, h3, rfl⟩, fun W1 W2 f1 f2 i hi hx s => hx.step (by omega) s, fun j _ => World.ownsRow_nil _ _ _ _, fun j _ => nil_tag _ _ _, fun j _ => nil_sees _, fun j _ => nil_tag _ _ _, fun j _ => ⟨[], rfl⟩⟩)
 clear h hN
 go_enter Try.func69, Try.ntmps69
 go_wp2
 go_loopw [3] (fun v3 wr => ∃ (i : Nat), v3 = .int .i64 i ∧ Aside0 (i ≤ N) ∧ Aside0 (OT w wr (fun _ => N + 2) N (fun _ => nilS) (fun _ => 0) (fun _ => []) Ap)) (fun v3 _ => N - (intOf v3).toNat)
 case atStart => exact ⟨0, rfl, ⟨by omega⟩, HO⟩
 case round =>
  clear HO
  obtain ⟨i, rfl, HI, HO⟩ := hrel
  have ib : (i : Int) ≤ 65536 := by have := HI.out; have := HNN.out; omega
  by_cases c3 : i < N
  ·have b3 : decide ((i : Int) < (N : Int)) = true := decide_eq_true (by omega)
   have b3n : decide (i < N) = true := decide_eq_true (by omega)
   obtain ⟨gp, hA, hcell, _, _⟩ := HO.out.x i c3
   subst hA
   have hix := idx_ss gp N cp i c3
   go_wp2
   go_loopw [4] (fun v4 wr => v4 = .int .i64 0 ∧ Aside0 (OT w wr (fun _ => N + 2) N (fun _ => nilS) (fun _ => 0) (fun _ => []) (some ⟨gp, 0, none⟩))) (fun v4 _ => 0)
   case atStart => exact ⟨rfl, HO⟩
   case round =>
    clear HO hcell
    obtain ⟨rfl, HO⟩ := hrel
    obtain ⟨gp2, hA, hcell, _, _⟩ := HO.out.x i c3
    cases hA
    unfold nilS at hcell
    go_wp2
    go_roundw
    case measure => simp [intOf]; omega
    case rel => exact ⟨i + 1, by go_num, ⟨by omega⟩, HO⟩
  ·have b3 : decide ((i : Int) < (N : Int)) = false := decide_eq_false (by omega)
   have b3n : decide (i < N) = false := decide_eq_false (by omega)
   have n1_ := Aside0.mk (show PG N 20 (fun _ => nilS) (fun _ => 0) (fun _ => []) plusT 0 0 (fun _ => nilS) (fun _ => 0) (fun _ => []) from ⟨fun j hj => by omega, fun _ => ⟨rfl, rfl⟩, fun _ _ => rfl, fun j _ _ => ⟨rfl, rfl, rfl⟩, ⟨rfl, rfl⟩, Nat.zero_le _⟩)
   have HP := n1_
   clear n1_ c3
   go_wp2
   go_loopw [5, 6] (fun v5 v6 wr => ∃ (i : Nat) (f : Nat → Nat) (v : Nat → Value) (ns : Nat → Nat) (cs : Nat → List Value), v6 = .int .i64 i ∧ Aside0 (v5 = v N) ∧ Aside0 (PG N 20 (fun _ => nilS) (fun _ => 0) (fun _ => []) plusT i 0 v ns cs) ∧ Aside0 (OT w wr f N v ns cs Ap)) (fun _ v6 _ => N - (intOf v6).toNat)
   case atStart => exact ⟨0, _, _, _, _, rfl, ⟨rfl⟩, HP, HO⟩
   case round =>
    clear HO HP HI
    obtain ⟨i, f, v, ns, cs, rfl, HV, HP, HO⟩ := hrel
    have ib : (i : Int) ≤ 65536 := by have := HP.out.le; have := HNN.out; omega
    obtain ⟨Ag, cg, hg⟩ := own_len (HO.out.own N (by omega))
    have hv5 := HV.out.trans hg
    subst hv5
    have HG := Aside0.mk hg
    have HNS := Aside0.mk HP.out.out.1
    rw [HNS.out] at HG
    rw [HNS.out]
    clear HV hg
    by_cases c3 : i < N
    ·have b3 : decide ((i : Int) < (N : Int)) = true := decide_eq_true (by omega)
     have b3n : decide (i < N) = true := decide_eq_true (by omega)
     obtain ⟨gp, hA, hcell, _, _⟩ := HO.out.x i c3
     subst hA
     have hix := idx_ss gp N cp i c3
     unfold nilS at hcell
     go_wp2
     go_loopw [7, 8] (fun v7 v8 wr => ∃ (q : Nat) (f : Nat → Nat) (v : Nat → Value) (ns : Nat → Nat) (cs : Nat → List Value), v8 = .int .i64 q ∧ Aside0 (q ≤ 20) ∧ Aside0 (v7 = v i) ∧ Aside0 (v N = .slice Ag i cg) ∧ Aside0 (PG N 20 (fun _ => nilS) (fun _ => 0) (fun _ => []) plusT i q v ns cs) ∧ Aside0 (OT w wr f N v ns cs (some ⟨gp, 0, none⟩))) (fun _ v8 _ => 20 - (intOf v8).toNat)
     case atStart => exact ⟨0, f, v, ns, cs, rfl, ⟨by omega⟩, ⟨(HP.out.at0 c3 rfl).symm⟩, HG, HP, HO⟩
     case round =>
      clear HO HP HG hcell hix HNS
      obtain ⟨q, f, v, ns, cs, rfl, HQ, HV, HG, HP, HO⟩ := hrel
      obtain ⟨Ax, cx, hx⟩ := own_len (HO.out.own i (by omega))
      have hns := (HP.out.at_ c3).1
      have hcs := (HP.out.at_ c3).2
      simp only [Nat.zero_add] at hns
      rw [List.nil_append] at hcs
      rw [hns] at hx
      have hv7 := HV.out.trans hx
      subst hv7
      have HVI := Aside0.mk hx; have HNS := Aside0.mk hns; have HCS := Aside0.mk hcs
      have HE := Aside0.mk (show eT N i = 9 from if_pos c3)
      have HEN := Aside0.mk (show eT N N = 86 from if_neg (by omega))
      have HX := Aside0.mk (show wr.ownsRow w.heap.size 9 1 (.slice Ax q cx) q (reps q (plusT i)) by have := HO.out.own i (by omega); rwa [HE.out, hx, hns, hcs] at this)
      clear HV hx hns hcs
      by_cases c20 : q < 20
      ·have b20 : decide ((q : Int) < 20) = true := decide_eq_true (by omega)
       go_wp2_with (first
        | (go_at_call 98; refine (word_lit i _).mono ?_; rintro xx w4 ⟨rfl, hb⟩; have n1_ := Aside0.mk (HO.out.below hb); have n2_ := Aside0.mk (own_kept HX.out (fun k e => hb.block k (own_lt HX.out k e))); clear HO HX hb; have HO := n1_; have HX := n2_; clear n1_ n2_)
        | ((with_reducible refine gate_builtin (b := .append) (xs := #[.tmp 51, .tmp 55]) rfl ?_); at_builtin; refine append_event w.heap.size rfl (.tmp 51) (.tmp 55) 86 9 (.string (⟨#[]⟩ : ByteArray)) 1 16 rfl Try.underlying86 (by kernel_rfl) rfl (by decide) (by decide) (.slice Ax q cx) q (reps q (plusT i)) (plusT i) rfl rfl rfl (by simp [plusT, Value.oneCell']) HX.out HO.out.old.size (by omega) ?_; intro v1 w5 hown hat; obtain ⟨f', n1⟩ := HO.out.append (i := i) (x' := v1) (ys := plusT i) (by omega) (by rw [HE.out, HNS.out, HCS.out]; exact hown) (by rw [HVI.out]; exact hat); have n2 := HP.out.more_ (x' := v1) c3; clear HO HP HX hown hat; have HO := Aside0.mk n1; have HP := Aside0.mk n2; clear n1 n2))
       go_roundw
       case measure => simp [intOf]; omega
       case rel => exact ⟨q + 1, f', _, _, _, by go_num, ⟨by omega⟩, ⟨(upd_self _ _ _).symm⟩, ⟨by rw [upd_ne _ _ _ (by omega)]; exact HG.out⟩, HP, HO⟩
      ·have b20 : decide ((q : Int) < 20) = false := decide_eq_false (by omega)
       have HQ20 := Aside0.mk (show q = 20 by have := HQ.out; omega)
       have HOU := Aside0.mk HP.out.out
       have HXN := Aside0.mk (show wr.ownsRow w.heap.size 86 1 (.slice Ag i cg) i ((List.range i).map v) by have := HO.out.own N (by omega); rwa [HEN.out, HG.out, HOU.out.1, HOU.out.2] at this)
       clear c20
       go_wp2_with (first
        | ((with_reducible refine gate_builtin (b := .append) (xs := #[.tmp 57, .tmp 59]) rfl ?_); at_builtin; refine append_event w.heap.size rfl (.tmp 57) (.tmp 59) 132 86 (.slice none 0 0) 1 24 rfl Try.underlying132 (by kernel_rfl) rfl (by decide) (by decide) (.slice Ag i cg) i ((List.range i).map v) [.slice Ax q cx] rfl rfl rfl (by simp [Value.oneCell']) HXN.out HO.out.old.size (by omega) ?_; intro v1 w5 hown hat; obtain ⟨f', n1⟩ := HO.out.append (i := N) (x' := v1) (ys := [v i]) (by omega) (by rw [HEN.out, HOU.out.1, HOU.out.2, HVI.out]; exact hown) (by rw [HG.out]; exact hat); have n0 := HP.out; rw [HQ20.out] at n0; have n2 := n0.done (x' := v1) c3; clear n0; clear HO HP HX HXN hown hat; have HO := Aside0.mk n1; have HP := Aside0.mk n2; clear n1 n2))
       go_roundw
       case measure => simp [intOf]; omega
       case rel => exact ⟨i + 1, f', _, _, _, by go_num, ⟨(upd_self _ _ _).symm⟩, HP, HO⟩
    ·have b3 : decide ((i : Int) < (N : Int)) = false := decide_eq_false (by omega)
     have b3n : decide (i < N) = false := decide_eq_false (by omega)
     have HM3 := Aside0.mk (show i = N by have := HP.out.le; omega)
     have hio : i = N := HM3.out
     subst hio
     have n1_ := Aside0.mk HO.out.look
     clear HO c3
     have HO := n1_
     clear n1_
     go_wp2
     go_loopw [9] (fun v9 wr => ∃ (p : Nat), v9 = .int .i64 p ∧ Aside0 (p ≤ i) ∧ Aside0 (OS w.heap.size w wr f (i + 1) (eT i) (fun _ => 1) v ns cs v ns cs (XT Ap i (i + 2)))) (fun v9 _ => i - (intOf v9).toNat)
     case atStart => exact ⟨0, rfl, ⟨by omega⟩, HO⟩
     case round =>
      clear HO
      obtain ⟨p, rfl, HPP, HO⟩ := hrel
      have pb : (p : Int) ≤ 65536 := by have := HPP.out; omega
      by_cases c3 : p < i
      ·have b3 : decide ((p : Int) < (i : Int)) = true := decide_eq_true (by omega)
       have b3n : decide (p < i) = true := decide_eq_true c3
       have HCP := Aside0.mk c3
       have hl := HP.out.lo p c3
       simp only [Nat.zero_add, List.nil_append] at hl
       have HL := Aside0.mk hl
       obtain ⟨gp, hA, _, _, _⟩ := HO.out.x p c3
       subst hA
       obtain ⟨gg, cg', hv⟩ := own_atB (by have := HO.out.own i (by omega); exact this) (by have := HP.out.out.1; omega)
       rw [HG.out, HP.out.out.1] at hv
       cases hv
       obtain ⟨gu, cu, hu⟩ := own_atB (by have := HO.out.own p (by omega); exact this) (by rw [hl.1]; omega)
       rw [hl.1] at hu
       have HU := Aside0.mk hu
       have hixl := idx_ss gp i cp p c3
       have hixg := idx_ss gg i cg p c3
       clear hl hu
       go_wp2
       go_loopw [10] (fun v10 wr => ∃ (k : Nat), v10 = .int .i64 k ∧ Aside0 (k ≤ 20) ∧ Aside0 (OS w.heap.size w wr f (i + 1) (eT i) (fun _ => 1) v ns cs v ns cs (XT (some ⟨gp, 0, none⟩) i (i + 2)))) (fun v10 _ => 20 - (intOf v10).toNat)
       case atStart => exact ⟨0, rfl, ⟨by omega⟩, HO⟩
       case round =>
        clear HO
        obtain ⟨k, rfl, HK, HO⟩ := hrel
        have km : (k : Int) ≤ 20 := by have := HK.out; omega
        obtain ⟨gp2, hA, hcell, _, _⟩ := HO.out.x p c3
        cases hA
        unfold nilS at hcell
        have hgc : wr.cell? ⟨gg, p, none⟩ = some (.slice (some ⟨gu, 0, none⟩) 20 cu) := by
         have hh := (HO.out.own i (by omega)).cells (g := gg) (by rw [HG.out]; rfl) p (v p) (by rw [HP.out.out.2, List.getElem?_map, List.getElem?_range c3]; rfl)
         rw [HU.out] at hh
         rwa [show (⟨gg, 0, none⟩ : Addr).add p = ⟨gg, p, none⟩ from (by simp [Addr.add]; omega)] at hh
        by_cases ck : k < 20
        ·have bk : decide ((k : Int) < 20) = true := decide_eq_true (by omega)
         have bk0 : decide ((k : Int) ≥ 0) = true := decide_eq_true (by omega)
         have hixu := idx_s gu 20 cu k ck
         have HY := Aside0.mk (show ∀ W : World, Below wr.heap.size wr W → W.cell? ⟨gp, p, none⟩ = some (.slice none 0 0) ∧ W.cell? ⟨gg, p, none⟩ = some (.slice (some ⟨gu, 0, none⟩) 20 cu) ∧ W.cell? ⟨gu, k, none⟩ = some (.string (wordS p ++ ⟨#[43]⟩)) from fun W hb => by
          have HW := HO.out.below hb
          obtain ⟨gp2, hA, hcell, _, _⟩ := HW.x p c3
          cases hA
          refine ⟨hcell, ?_, ?_⟩
          ·have hh := (HW.own i (by omega)).cells (g := gg) (by rw [HG.out]; rfl) p (v p) (by rw [HP.out.out.2, List.getElem?_map, List.getElem?_range c3]; rfl)
           rw [HU.out] at hh
           rwa [show (⟨gg, 0, none⟩ : Addr).add p = ⟨gg, p, none⟩ from (by simp [Addr.add]; omega)] at hh
          ·have hh := (HW.own p (by omega)).cells (g := gu) (by rw [HU.out]; rfl) k (.string (wordS p ++ ⟨#[43]⟩)) (by have := reps_get 20 (plusT p) 1 rfl k 0 _ ck rfl; rw [HL.out.2]; rwa [Nat.mul_one] at this)
           rwa [show (⟨gu, 0, none⟩ : Addr).add k = ⟨gu, k, none⟩ from (by simp [Addr.add]; omega)] at hh)
         have HB := Aside0.mk (Below.refl wr.heap.size wr)
         go_wp2_with (first
          | (go_at_call 98; refine (word_lit p _).mono ?_; rintro xx w4 ⟨rfl, hb⟩; have n1_ := Aside0.mk (below_step HB.out hb); clear HB hb hcell hgc; have HB := n1_; clear n1_; obtain ⟨hcell, hgc, hguc⟩ := HY.out _ HB.out))
         go_roundw
         case measure => simp [intOf]; omega
         case rel => exact ⟨k + 1, by go_num, ⟨by omega⟩, ⟨HO.out.below HB.out⟩⟩
        ·have bk : decide ((k : Int) < 20) = false := decide_eq_false (by omega)
         go_wp2
         clear hgc hcell
         go_loopw [12] (fun v12 wr => v12 = .int .i64 0 ∧ Aside0 (OS w.heap.size w wr f (i + 1) (eT i) (fun _ => 1) v ns cs v ns cs (XT (some ⟨gp, 0, none⟩) i (i + 2)))) (fun v12 _ => 0)
         case atStart => exact ⟨rfl, HO⟩
         case round =>
          clear HO
          obtain ⟨rfl, HO⟩ := hrel
          obtain ⟨gp2, hA, hcell, _, _⟩ := HO.out.x p c3
          cases hA
          unfold nilS at hcell
          go_wp2
          go_roundw
          case measure => simp [intOf]; omega
          case rel => exact ⟨p + 1, by go_num, ⟨by omega⟩, HO⟩
      ·have b3 : decide ((p : Int) < (i : Int)) = false := decide_eq_false (by omega)
       have b3n : decide (p < i) = false := decide_eq_false (by omega)
       go_wp2
       go_ret
       exact ⟨rfl, HO.out.old⟩
end
end Go.Proofs.Ytebiogaacikphaa.Pack
end
