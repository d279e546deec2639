/- Parts of the proof of packForged and packDecodes and Pack and Pack and Pack: PackRef. -/
import Derived.Test.YtebiogaacikphaaTP7
import Derived.Test.YtebiogaacikphaaTP12
import Derived.Test.YtebiogaacikphaaTP13
section
namespace Go.Proofs.Ytebiogaacikphaa.Pack
open Go.RowKit Go.Proofs.YtebiogaacikphaaW.PrintWords Go.Proofs.Ytebiogaacikphaa.PAll Go.Proofs.Ytebiogaacikphaa.Names
set_option linter.unusedVariables false
set_option linter.unusedSimpArgs false
/-- The document's reader at block g of W. -/
structure RR (w0 W : World) (g : Nat) (b : List Int) (i e : Nat) (fa fc : Int) : Prop where
  is_ : IsS110 w0 W g b i e fa fc
  old : Below w0.heap.size w0 W
  len : b.length ≤ 140737488351232
  e_ : e ≤ b.length
  at_ : i ≤ e
section
variable {w0 w W W' : World} {g : Nat} {b : List Int} {i e : Nat} {fa fc : Int}
theorem RR.lt (h : RR w0 W g b i e fa fc) : g < W.heap.size := IsS110.lt h.is_
theorem RR.ge (h : RR w0 W g b i e fa fc) : w0.heap.size ≤ g := IsS110.ge h.is_
theorem RR.below (h : RR w0 W g b i e fa fc) (hb : Below W.heap.size W W') : RR w0 W' g b i e fa fc := ⟨h.is_.below hb, below_step h.old hb, h.len, h.e_, h.at_⟩
theorem RR.drew (h : RR w0 W g b i e fa fc) (n : Nat) : RR w0 (W.drewN n) g b i e fa fc := h.below (pw_below_drewN (Below.refl _ _) n)
theorem RR.through (h : RR w0 W g b i e fa fc) {r : Option Nat} (hg : W.grownBy W' r) (hr : ∀ k, r = some k → k ≠ g ∧ w0.heap.size ≤ k) : RR w0 W' g b i e fa fc :=
  ⟨h.is_.grown hg (fun e => (hr g e.symm).1 rfl), pw_below_grown h.old r h.old.size hg (fun k hk => (hr k hk).2), h.len, h.e_, h.at_⟩
theorem RR.c1 (h : RR w0 W g b i e fa fc) : W.cell? ⟨g, 1, none⟩ = some (.int .i64 i) := by obtain ⟨_, _, h1, _⟩ := h.is_; exact (blk_cell h1 1).trans rfl
theorem RR.c3 (h : RR w0 W g b i e fa fc) : W.cell? ⟨g, 3, none⟩ = some (.int .i64 fa) := by obtain ⟨_, _, h1, _⟩ := h.is_; exact (blk_cell h1 3).trans rfl
theorem RR.c4 (h : RR w0 W g b i e fa fc) : W.cell? ⟨g, 4, none⟩ = some (.int .i64 fc) := by obtain ⟨_, _, h1, _⟩ := h.is_; exact (blk_cell h1 4).trans rfl
theorem Only.of_keep {w w' : World} {g : Nat} (h : KeepBut w w' g none) : Only w w' g := ⟨h.1, fun j hj hne => h.2 j hj hne (by simp)⟩
end
def RSt (w0 W : World) (g : Nat) (b : List Int) (e : Nat) : Except (Int × Int) (List Int) → Prop
  | .ok r => ∃ i, RR w0 W g b i e 0 0 ∧ r = (b.take e).drop i
  | .error f => ∃ i, f.2 ≠ 0 ∧ RR w0 W g b i e f.1 f.2
section
variable (w0 w : World) (g : Nat) (b : List Int) (i e : Nat) (fa fc : Int)
theorem rok_same (v : Bool) (h : RR w0 w g b i e fa fc) (hv : (fc == 0) = v) : Calls Try.prog 60 #[.pointer (some ⟨g, 0, none⟩)] w fun x w' => x = .returned (.bool v) ∧ RR w0 w' g b i e fa fc ∧ Only w w' g := by
  refine (dowelref20_Reader_ok.calls g b i e fa fc v i e fa fc w0 w h.is_ h.old (by rw [dowelref20_Reader_ok.f, hv])).mono fun x w' ⟨h1, h2, h3, h4⟩ => ⟨h1, ⟨h2, h3, h.len, h.e_, h.at_⟩, Only.of_keep h4⟩
theorem wrong_bad (q r : Int) (h : RR w0 w g b i e fa fc) (hc : fc ≠ 0) : Calls Try.prog 59 #[.pointer (some ⟨g, 0, none⟩), .int .i64 q, .int .i64 r] w fun x w' => x = .returned (.tuple #[]) ∧ RR w0 w' g b i e fa fc ∧ Only w w' g := by
  refine (dowelref20_Reader_wrong.calls g b i e fa fc q r i e fa fc w0 w h.is_ h.old (by rw [dowelref20_Reader_wrong.f, if_neg hc])).mono fun x w' ⟨h1, h2, h3, h4⟩ => ⟨h1, ⟨h2, h3, h.len, h.e_, h.at_⟩, Only.of_keep h4⟩
theorem wrong_ok (q r : Int) (h : RR w0 w g b i e 0 0) : Calls Try.prog 59 #[.pointer (some ⟨g, 0, none⟩), .int .i64 q, .int .i64 r] w fun x w' => x = .returned (.tuple #[]) ∧ RR w0 w' g b i e q r ∧ Only w w' g := by
  refine (dowelref20_Reader_wrong.calls g b i e 0 0 q r i e q r w0 w h.is_ h.old (by rw [dowelref20_Reader_wrong.f, if_pos rfl])).mono fun x w' ⟨h1, h2, h3, h4⟩ => ⟨h1, ⟨h2, h3, h.len, h.e_, h.at_⟩, Only.of_keep h4⟩
end
section
variable (b : List Int) (i e : Nat) (fa fc : Int)
theorem byte_ok (hi : i < e) (he : e ≤ b.length) (hl : b.length ≤ 140737488351232) : dowelref20_Reader_byte.f b i e 0 0 = some (b[i], ((i + 1 : Nat) : Int), (e : Int), 0, 0) := by
  have hw : wrap64 ((i : Int) + 1) = ((i + 1 : Nat) : Int) := by rw [w64] <;> omega
  have hw2 : wrap64 (((i + 1 : Nat) : Int) - 1) = (i : Int) := by rw [w64] <;> omega
  have hr := rd_nat b i (by omega)
  have h1 : (0 : Int) ≤ (i : Int) := by omega
  have h2 : (i : Int) < (b.length : Int) := by omega
  rw [dowelref20_Reader_byte.f, if_neg (by omega), dowelref20_Reader_ok.f]
  rw [Option.bind_some]
  rw [if_pos (show (((0 : Int) == 0, (i : Int), (e : Int), (0 : Int), (0 : Int)).1 = true) from rfl)]
  dsimp only
  rw [hw, hw2, if_pos h1, if_pos h2, hr]
theorem byte_short (hi : e ≤ i) : dowelref20_Reader_byte.f b i e 0 0 = some (0, (i : Int), (e : Int), (e : Int), 200) := by
  rw [dowelref20_Reader_byte.f, if_pos (by omega), dowelref20_Reader_wrong.f, if_pos rfl]
  simp only [Option.bind_some, dowelref20_Reader_ok.f]
  rw [if_neg (by decide)]
theorem byte_bad (hc : fc ≠ 0) : dowelref20_Reader_byte.f b i e fa fc = some (0, (i : Int), (e : Int), fa, fc) := by
  rw [dowelref20_Reader_byte.f]
  split
  · rw [dowelref20_Reader_wrong.f, if_neg hc]
    simp only [Option.bind_some, dowelref20_Reader_ok.f]
    rw [if_neg (by simpa using hc)]
  · simp only [Option.bind_some, dowelref20_Reader_ok.f]
    rw [if_neg (by simpa using hc)]
/-- What the reader's fields are behind a result. -/
def EndS (b : List Int) (e : Nat) (s : Int × Int × Int × Int) : Except (Int × Int) (List Int) → Prop
  | .ok r => ∃ i : Nat, s = ((i : Int), (e : Int), 0, 0) ∧ i ≤ e ∧ r = (b.take e).drop i
  | .error f => ∃ i : Nat, s = ((i : Int), (e : Int), f.1, f.2) ∧ i ≤ e ∧ f.2 ≠ 0
def pw (k : Nat) : Int := 128 ^ min k 5
theorem pw_step {k : Nat} (h : k < 5) : pw (k + 1) = pw k * 128 ∧ (128 : Int) ^ k = pw k := by
  unfold pw
  rw [show min (k + 1) 5 = k + 1 by omega, show min k 5 = k by omega, Int.pow_succ]
  exact ⟨rfl, rfl⟩
theorem pw_stay {k : Nat} (h : ¬ k < 5) : pw (k + 1) = pw k := by
  unfold pw
  rw [show min (k + 1) 5 = 5 by omega, show min k 5 = 5 by omega]
theorem pw_range (k : Nat) : 0 < pw k ∧ pw k ≤ 34359738368 := by
  unfold pw
  have h1 : (128 : Nat) ^ min k 5 ≤ 128 ^ 5 := Nat.pow_le_pow_right (by decide) (by omega)
  have h2 : ((128 ^ min k 5 : Nat) : Int) = (128 : Int) ^ min k 5 := Int.natCast_pow 128 _
  have h3 : 0 < (128 : Nat) ^ min k 5 := Nat.pow_pos (by decide)
  rw [← h2]
  generalize (128 : Nat) ^ min k 5 = m at *
  omega
theorem rcnt_loop (he : e ≤ b.length) (hl : b.length ≤ 140737488351232) (hby : ∀ x ∈ b, 0 ≤ x ∧ x < 256) (a0 : Nat) : ∀ (d i k : Nat) (n : Int), i + d = e → 0 ≤ n → n < pw k → k ≤ i →
    ∃ v s, Ev (fun z => dowelref20_Reader_count.l0 z (a0 : Int) n (pw k) (k : Int) b (i : Int) (e : Int) 0 0) (v, s) ∧ EndS b e s ((cntL e a0 k n ((b.take e).drop i)).map (·.2)) ∧ (∀ u r, cntL e a0 k n ((b.take e).drop i) = .ok (u, r) → v = u) := by
  intro d
  induction d with
  | zero =>
    intro i k n hi hn0 hn hk
    obtain rfl : i = e := by omega
    have hp := pw_range k
    refine ⟨0, ((i : Int), (i : Int), (i : Int), 200), ?_, ?_, ?_⟩
    · refine Ev.step (fun _ => by rw [dowelref20_Reader_count.l0]) ?_
      refine Ev.bind (Ev.const (by rw [dowelref20_Reader_ok.f])) (Ev.pos (by simp) ?_)
      refine Ev.bind (Ev.const (byte_short b i i (Nat.le_refl _))) ?_
      have hw : wrap64 ((k : Int) + 1) = ((k + 1 : Nat) : Int) := by rw [w64] <;> omega
      have fin : ∀ n' u', Ev (fun z => dowelref20_Reader_count.j1 z (a0 : Int) n' u' (k : Int) 0 b (i : Int) (i : Int) (i : Int) 200) (0, (i : Int), (i : Int), (i : Int), 200) := by
        intro n' u'
        refine Ev.step (fun _ => by rw [dowelref20_Reader_count.j1]) (Ev.pos (by simp) ?_)
        refine Ev.bind (Ev.const (by rw [dowelref20_Reader_ok.f])) ?_
        refine Ev.step (fun _ => by rw [dowelref20_Reader_count.j2]) (Ev.neg (by simp) ?_)
        refine Ev.step (fun _ => by rw [dowelref20_Reader_count.l0]) ?_
        refine Ev.bind (Ev.const (by rw [dowelref20_Reader_ok.f])) (Ev.neg (by simp) (Ev.some_ rfl))
      exact Ev.ite (fun _ => fin _ _) (fun _ => fin _ _)
    · rw [left_nil (Nat.le_refl _), cntL]
      exact ⟨i, rfl, Nat.le_refl _, by simp⟩
    · intro u r h
      rw [left_nil (Nat.le_refl _), cntL] at h
      cases h
  | succ d ih =>
    intro i k n hi hn0 hn hk
    have hie : i < e := by omega
    have hx := hby b[i] (List.getElem_mem _)
    have hbyte := byte_ok b i e hie he hl
    rw [left_cons hie he, cntL]
    generalize b[i] = x at *
    have hp5 := pw_range k
    have htm : Int.tmod x 128 = x % 128 := Int.tmod_eq_emod_of_nonneg hx.1
    have HWK := Aside0.mk (show wrap64 ((k : Int) + 1) = ((k + 1 : Nat) : Int) by rw [w64] <;> omega)
    have hwi : ((i + 1 : Nat) : Int) = (i : Int) + 1 := by omega
    -- what comes behind the sum
    have behind : ∀ (n' : Int), 0 ≤ n' → n' < pw (k + 1) →
        ∃ v s, Ev (fun z => dowelref20_Reader_count.j1 z (a0 : Int) n' (pw (k + 1)) (k : Int) x b ((i + 1 : Nat) : Int) (e : Int) 0 0) (v, s) ∧
          EndS b e s (Except.map (·.2) (if 128 ≤ x then cntL e a0 (k + 1) n' ((b.take e).drop (i + 1)) else if 4 < k ∨ (x = 0 ∧ 0 < k) ∨ 2147483647 < n' then .error ((a0 : Int), 204) else .ok (n', (b.take e).drop (i + 1)))) ∧
          (∀ u r, (if 128 ≤ x then cntL e a0 (k + 1) n' ((b.take e).drop (i + 1)) else if 4 < k ∨ (x = 0 ∧ 0 < k) ∨ 2147483647 < n' then .error ((a0 : Int), 204) else .ok (n', (b.take e).drop (i + 1))) = .ok (u, r) → v = u) := by
      intro n' h0 h1
      by_cases h128 : 128 ≤ x
      · obtain ⟨v, s, hev, hs, hv⟩ := ih (i + 1) (k + 1) n' (by omega) h0 h1 (by omega)
        refine ⟨v, s, ?_, by rw [if_pos h128]; exact hs, by rw [if_pos h128]; exact hv⟩
        refine Ev.step (fun _ => by rw [dowelref20_Reader_count.j1]) (Ev.neg (by omega) ?_)
        refine Ev.step (fun _ => by rw [dowelref20_Reader_count.j2]) (Ev.neg (by simp) ?_)
        rw [HWK.out]
        exact hev
      · rw [if_neg h128]
        by_cases hf : 4 < k ∨ (x = 0 ∧ 0 < k) ∨ 2147483647 < n'
        · rw [if_pos hf]
          refine ⟨n', (((i + 1 : Nat) : Int), (e : Int), (a0 : Int), 204), ?_, ⟨i + 1, rfl, by omega, by simp⟩, fun u r h => by cases h⟩
          refine Ev.step (fun _ => by rw [dowelref20_Reader_count.j1]) (Ev.pos (by omega) ?_)
          refine Ev.bind (Ev.const (by rw [dowelref20_Reader_ok.f])) ?_
          refine Ev.step (fun _ => by rw [dowelref20_Reader_count.j2]) (Ev.pos (by simp) ?_)
          dsimp only
          have hwr : dowelref20_Reader_wrong.f b ((i + 1 : Nat) : Int) (e : Int) 0 0 (a0 : Int) 204 = some (((i + 1 : Nat) : Int), (e : Int), (a0 : Int), 204) := by rw [dowelref20_Reader_wrong.f, if_pos rfl]
          refine Ev.ite (fun _ => Ev.bind (Ev.const hwr) (Ev.some_ rfl)) (fun c1 => ?_)
          refine Ev.ite (fun _ => Ev.bind (Ev.const hwr) (Ev.some_ rfl)) (fun c2 => ?_)
          refine Ev.pos (by omega) (Ev.pos (by omega) (Ev.bind (Ev.const hwr) (Ev.some_ rfl)))
        · rw [if_neg hf]
          refine ⟨n', (((i + 1 : Nat) : Int), (e : Int), 0, 0), ?_, ⟨i + 1, rfl, by omega, rfl⟩, fun u r h => by injection h with h; injection h⟩
          refine Ev.step (fun _ => by rw [dowelref20_Reader_count.j1]) (Ev.pos (by omega) ?_)
          refine Ev.bind (Ev.const (by rw [dowelref20_Reader_ok.f])) ?_
          refine Ev.step (fun _ => by rw [dowelref20_Reader_count.j2]) (Ev.pos (by simp) ?_)
          dsimp only
          refine Ev.neg (by omega) (Ev.neg (by omega) ?_)
          exact Ev.ite (fun _ => Ev.neg (by omega) (Ev.some_ rfl)) (fun _ => Ev.some_ rfl)
    by_cases k5 : k < 5
    · obtain ⟨hpk1, hpk⟩ := pw_step k5
      have hm1 : 0 ≤ x % 128 * pw k := Int.mul_nonneg (by omega) (by omega)
      have hm2 : x % 128 * pw k ≤ 127 * pw k := Int.mul_le_mul_of_nonneg_right (by omega) (by omega)
      have E1 := Aside0.mk (show wrap64 (Int.tmod x 128) = x % 128 by rw [htm, w64] <;> omega)
      have E2 := Aside0.mk (show wrap64 (x % 128 * pw k) = x % 128 * pw k by rw [w64] <;> omega)
      have E3 := Aside0.mk (show wrap64 (n + x % 128 * pw k) = n + x % 128 * pw k by rw [w64] <;> omega)
      have E4 := Aside0.mk (show wrap64 (pw k * 128) = pw (k + 1) by rw [hpk1, w64] <;> omega)
      obtain ⟨v, s, hev, hs, hv⟩ := behind (n + x % 128 * pw k) (by omega) (by rw [hpk1]; omega)
      rw [if_pos k5, hpk]
      refine ⟨v, s, ?_, hs, hv⟩
      refine Ev.step (fun _ => by rw [dowelref20_Reader_count.l0]) ?_
      refine Ev.bind (Ev.const (by rw [dowelref20_Reader_ok.f])) (Ev.pos rfl ?_)
      dsimp only
      refine Ev.bind (Ev.const hbyte) (Ev.pos (by omega) ?_)
      dsimp only
      rw [E1.out, E2.out, E3.out, E4.out]
      exact hev
    · have hpk1 := pw_stay k5
      obtain ⟨v, s, hev, hs, hv⟩ := behind n hn0 (by rw [hpk1]; exact hn)
      rw [if_neg k5]
      refine ⟨v, s, ?_, hs, hv⟩
      refine Ev.step (fun _ => by rw [dowelref20_Reader_count.l0]) ?_
      refine Ev.bind (Ev.const (by rw [dowelref20_Reader_ok.f])) (Ev.pos rfl ?_)
      dsimp only
      refine Ev.bind (Ev.const hbyte) (Ev.neg (by omega) ?_)
      rw [hpk1] at hev
      exact hev
end
theorem RSt.of {w0 w' : World} {g : Nat} {b : List Int} {e : Nat} {s : Int × Int × Int × Int} {res : Except (Int × Int) (List Int)} (h : EndS b e s res) (his : IsS110 w0 w' g b s.1 s.2.1 s.2.2.1 s.2.2.2) (hb : Below w0.heap.size w0 w') (hl : b.length ≤ 140737488351232) (he : e ≤ b.length) : RSt w0 w' g b e res := by
  match res, h with
  | .ok r, ⟨i, hs, hi, hr⟩ => subst hs; exact ⟨i, ⟨his, hb, hl, he, hi⟩, hr⟩
  | .error f, ⟨i, hs, hi, hf⟩ => subst hs; exact ⟨i, hf, ⟨his, hb, hl, he, hi⟩⟩
theorem rcount_ev (b : List Int) (i e : Nat) (hi : i ≤ e) (he : e ≤ b.length) (hl : b.length ≤ 140737488351232) (hby : ∀ x ∈ b, 0 ≤ x ∧ x < 256) :
    ∃ v s, Ev (fun z => dowelref20_Reader_count.f z b (i : Int) (e : Int) 0 0) (v, s) ∧ EndS b e s ((cntL e i 0 0 ((b.take e).drop i)).map (·.2)) ∧ (∀ u r, cntL e i 0 0 ((b.take e).drop i) = .ok (u, r) → v = u) := by
  obtain ⟨v, s, h1, h2, h3⟩ := rcnt_loop b e he hl hby i (e - i) i 0 0 (by omega) (by omega) (by decide) (Nat.zero_le _)
  exact ⟨v, s, h1, h2, h3⟩
theorem rcount_ok (w0 w : World) (g : Nat) (b : List Int) (i e : Nat) (h : RR w0 w g b i e 0 0) (hby : ∀ x ∈ b, 0 ≤ x ∧ x < 256) : Calls Try.prog 58 #[.pointer (some ⟨g, 0, none⟩)] w fun x w' => ∃ v, x = .returned (.int .i64 v) ∧ RSt w0 w' g b e ((cntL e i 0 0 ((b.take e).drop i)).map (·.2)) ∧ Only w w' g ∧ (∀ u r, cntL e i 0 0 ((b.take e).drop i) = .ok (u, r) → v = u) := by
  obtain ⟨v, s, ⟨k, hev⟩, hs, hv⟩ := rcount_ev b i e h.at_ h.e_ h.len hby
  refine (dowelref20_Reader_count.calls k g b i e 0 0 v s.1 s.2.1 s.2.2.1 s.2.2.2 w0 w h.is_ h.old (hev k (Nat.le_refl _))).mono fun x w' ⟨h1, h2, h3, h4⟩ => ?_
  exact ⟨v, h1, RSt.of hs h2 h3 h.len h.e_, Only.of_keep h4, hv⟩
theorem rcount_bad_ev (b : List Int) (i e fa fc : Int) (hc : fc ≠ 0) : Ev (fun z => dowelref20_Reader_count.f z b i e fa fc) (0, i, e, fa, fc) := by
  unfold dowelref20_Reader_count.f
  refine Ev.step (fun _ => by rw [dowelref20_Reader_count.l0]) ?_
  refine Ev.bind (Ev.const (by rw [dowelref20_Reader_ok.f])) (Ev.neg ?_ (Ev.some_ rfl))
  simpa using hc
theorem rcount_bad (w0 w : World) (g : Nat) (b : List Int) (i e : Nat) (fa fc : Int) (h : RR w0 w g b i e fa fc) (hc : fc ≠ 0) : Calls Try.prog 58 #[.pointer (some ⟨g, 0, none⟩)] w fun x w' => x = .returned (.int .i64 0) ∧ RR w0 w' g b i e fa fc ∧ Only w w' g := by
  obtain ⟨k, hev⟩ := rcount_bad_ev b i e fa fc hc
  exact (dowelref20_Reader_count.calls k g b i e fa fc 0 i e fa fc w0 w h.is_ h.old (hev k (Nat.le_refl _))).mono fun x w' ⟨h1, h2, h3, h4⟩ => ⟨h1, ⟨h2, h3, h.len, h.e_, h.at_⟩, Only.of_keep h4⟩
/-- An own name is one of no ':' and no '~'. -/
theorem more_plain {r : List UInt8} (h : isOwn r = true) : more r = 0 := by
  unfold more
  split
  · simp [isOwn] at h
  · rfl
theorem tilde_plain {r : List UInt8} (h : isOwn r = true) : tilde r = 0 := by
  unfold tilde
  split
  · simp [isOwn] at h
  · rfl
theorem isOwn_drop {r : List UInt8} (h : isOwn r = true) (n : Nat) : isOwn (r.drop n) = true := by
  unfold isOwn at *
  rw [List.all_eq_true] at *
  exact fun x hx => h x (List.mem_of_mem_drop hx)
theorem inName_plain {c : UInt8} (h : inName c = true) : (c != 58 && c != 126) = true := by
  by_cases h1 : c = 58
  · subst h1; revert h; decide
  · by_cases h2 : c = 126
    · subst h2; revert h; decide
    · simp [h1, h2]
theorem run_all : ∀ l : List UInt8, run inName l = l.length → isOwn l = true
  | [], _ => rfl
  | c :: l, h => by
    rw [run] at h
    split at h
    · rename_i hc
      rw [List.length_cons] at h
      have := run_all l (by omega)
      rw [isOwn, List.all_cons, inName_plain hc]
      exact this
    · simp at h
theorem ownLen_all {l : List UInt8} (h : ownLen l = l.length) : isOwn l = true := by
  cases l with
  | nil => rfl
  | cons c l =>
    rw [ownLen] at h
    split at h
    · rename_i hc
      rw [List.length_cons] at h
      have := run_all l (by omega)
      rw [isOwn, List.all_cons, inName_plain (by simp [inName, hc])]
      exact this
    · simp at h
theorem ownName_iff (l : List UInt8) : (isOwn l && isName l) = (decide (l ≠ []) && decide (l.length ≤ 64) && decide (ownLen l = l.length)) := by
  unfold isName
  by_cases h : isOwn l = true
  · have h1 : namedLen l = ownLen l := by
      unfold namedLen
      split
      · omega
      · rw [more_plain (isOwn_drop h _), tilde_plain (isOwn_drop h _)]; rfl
    rw [h, h1, Bool.true_and]
  · have h2 : ¬ ownLen l = l.length := fun e => h (ownLen_all e)
    have h0 : isOwn l = false := by simpa using h
    rw [h0, Bool.false_and, decide_eq_false h2, Bool.and_false]
theorem refOwn_ev (s : ByteArray) (hs : s.size ≤ 140737488351232) : Ev (fun k => dowelref04_Own.f k s) (okName s) := by
  unfold dowelref04_Own.f okName
  rw [ownName_iff, ByteArray.toList_eq, size_list]
  have hl : s.data.toList.length ≤ 140737488351232 := by rw [← size_list]; exact hs
  have hev := refown_ev s hl 0 (Nat.zero_le _)
  generalize hL : s.data.toList = L at *
  refine Ev.ite (fun h0 => Ev.some_ ?_) (fun h0 => ?_)
  · rw [decide_eq_false (fun h => h h0)]; rfl
  · rw [decide_eq_true h0]
    refine Ev.ite (fun h1 => ?_) (fun h1 => Ev.some_ ?_)
    · refine Ev.bind hev (Ev.some_ ?_)
      rw [decide_eq_true (by omega : L.length ≤ 64), List.drop_zero, Nat.zero_add]
      rw [Bool.true_and, Bool.true_and]
      by_cases e : ownLen L = L.length
      · rw [e]; simp
      · rw [decide_eq_false e]; simp; omega
    · rw [decide_eq_false (by omega)]; simp
section
variable (w0 w : World) (g : Nat) (b : List Int) (i e : Nat) (fa fc : Int)
theorem rbyte_ok (h : RR w0 w g b i e 0 0) (hi : i < e) (hb : i < b.length) : Calls Try.prog 93 #[.pointer (some ⟨g, 0, none⟩)] w fun x w' => x = .returned (.int .u8 b[i]) ∧ RR w0 w' g b (i + 1) e 0 0 ∧ Only w w' g := by
  exact (dowelref20_Reader_byte.calls g b i e 0 0 b[i] ((i + 1 : Nat) : Int) e 0 0 w0 w h.is_ h.old (byte_ok b i e hi h.e_ h.len)).mono fun x w' ⟨h1, h2, h3, h4⟩ => ⟨h1, ⟨h2, h3, h.len, h.e_, hi⟩, Only.of_keep h4⟩
theorem rbyte_short (h : RR w0 w g b i e 0 0) (hi : e ≤ i) : Calls Try.prog 93 #[.pointer (some ⟨g, 0, none⟩)] w fun x w' => x = .returned (.int .u8 0) ∧ RR w0 w' g b i e e 200 ∧ Only w w' g := by
  exact (dowelref20_Reader_byte.calls g b i e 0 0 0 i e e 200 w0 w h.is_ h.old (byte_short b i e hi)).mono fun x w' ⟨h1, h2, h3, h4⟩ => ⟨h1, ⟨h2, h3, h.len, h.e_, h.at_⟩, Only.of_keep h4⟩
theorem rbyte_bad (h : RR w0 w g b i e fa fc) (hc : fc ≠ 0) : Calls Try.prog 93 #[.pointer (some ⟨g, 0, none⟩)] w fun x w' => x = .returned (.int .u8 0) ∧ RR w0 w' g b i e fa fc ∧ Only w w' g := by
  exact (dowelref20_Reader_byte.calls g b i e fa fc 0 i e fa fc w0 w h.is_ h.old (byte_bad b i e fa fc hc)).mono fun x w' ⟨h1, h2, h3, h4⟩ => ⟨h1, ⟨h2, h3, h.len, h.e_, h.at_⟩, Only.of_keep h4⟩
end
end Go.Proofs.Ytebiogaacikphaa.Pack
end
