/- Parts of the proof of coreGrammars: GramForm. No condition beyond each lemma's own. -/
import Derived.Test.YtebiogaacikphaaTG24
import Derived.Test.YtebiogaacikphaaTG34
section
namespace Go.Proofs.Ytebiogaacikphaa.Core
open Go.RowKit Go.Proofs.YtebiogaacikphaaW.PrintWords Go.Proofs.Ytebiogaacikphaa.PAll Go.Proofs.Ytebiogaacikphaa.Pack
set_option linter.unusedVariables false
set_option linter.unusedSimpArgs false
/-- How many rules there are in the answer, and its code. -/
def cntG (l : List Rule) (st : Int) : Nat := if checkB l st = false then 0 else if sizeL l > 4096 then 0 else if ∃ k, k < l.length ∧ 100 < nstG l k then 0 else l.length
def cdG (l : List Rule) (st : Int) : Int := (refOut l st).2.2
theorem cnt_le (l : List Rule) (st : Int) : cntG l st ≤ l.length := by
  unfold cntG
  split
  · omega
  · split
    · omega
    · split
      · omega
      · exact Nat.le_refl _
theorem refOut_eq (l : List Rule) (st : Int) : refOut l st = ([], rulesOut l (cntG l st), cdG l st) := by
  unfold cdG refOut cntG
  split
  · rfl
  · split
    · rfl
    · split
      · rfl
      · rfl
theorem cnt_right (l : List Rule) (st : Int) : cntG l st ≤ 256 ∧ ∀ k, k < cntG l st → (nods l k).length ≤ 4096 := by
  unfold cntG
  cases hc : checkB l st with
  | false => simp
  | true =>
    obtain ⟨h1, h2, _⟩ := check_parts l st hc
    rw [if_neg (by simp)]
    split
    · exact ⟨by omega, fun k hk => by omega⟩
    · split
      · exact ⟨by omega, fun k hk => by omega⟩
      · refine ⟨by omega, fun k hk => ?_⟩
        have := body_size l k hk
        rw [nods_len]
        omega
theorem GrAll.form {w w' : World} {l : List Rule} {st : Int} {e : Ending} (h : GrAll w w' l st e) (hb : Below w.heap.size w w') :
    ∃ vr bv s, e = .returned (.tuple #[.agg #[.slice none 0 0, vr], .int .i64 (cdG l st)]) ∧ GAt w.heap.size w' vr bv s l (cntG l st) := by
  have hnil : GAt w.heap.size w' (.slice none 0 0) (fun _ => .slice none 0 0) (fun _ => w.heap.size) l 0 := GAt.nil hb.size
  rcases h with ⟨h1, rfl⟩ | ⟨h1, h2, rfl⟩ | ⟨h1, h2, h3⟩
  · exact ⟨.slice none 0 0, fun _ => .slice none 0 0, fun _ => w.heap.size, by rw [cdG, refOut, if_pos h1], by rw [cntG, if_pos h1]; exact hnil⟩
  · exact ⟨.slice none 0 0, fun _ => .slice none 0 0, fun _ => w.heap.size, by rw [cdG, refOut, if_neg (by simp [h1]), if_pos h2], by rw [cntG, if_neg (by simp [h1]), if_pos h2]; exact hnil⟩
  · rcases h3 with ⟨h3, rfl⟩ | ⟨h3, vr, bv, s, rfl, hg⟩
    · exact ⟨.slice none 0 0, fun _ => .slice none 0 0, fun _ => w.heap.size, by rw [cdG, refOut, if_neg (by simp [h1]), if_neg h2, if_pos h3], by rw [cntG, if_neg (by simp [h1]), if_neg h2, if_pos h3]; exact hnil⟩
    · exact ⟨vr, bv, s, by rw [cdG, refOut, if_neg (by simp [h1]), if_neg h2, if_neg h3], by rw [cntG, if_neg (by simp [h1]), if_neg h2, if_neg h3]; exact hg⟩
theorem rulesOut_len (l : List Rule) (n : Nat) : (rulesOut l n).length = n := by simp [rulesOut]
theorem rulesOut_parts (l : List Rule) (n : Nat) (h : ∀ k, k < n → (nods l k).length ≤ 4096) : ∀ r ∈ rulesOut l n, r.f1 = [] ∧ r.f2.length ≤ 1048576 := by
  intro r hr
  obtain ⟨k, hk, rfl⟩ := List.mem_map.1 hr
  exact ⟨rfl, by have := h k (List.mem_range.1 hk); show (nods l k).length ≤ 1048576; omega⟩
/-- The rules of an answer, read. -/
theorem GAt.reads {base : Nat} {W : World} {vr : Value} {bv : Nat → Value} {s : Nat → Nat} {l : List Rule} {n : Nat} (h : GAt base W vr bv s l n) (hn : n ≤ 256) (hb : ∀ k, k < n → (nods l k).length ≤ 4096) :
    ∃ A c, vr = .slice A n c ∧ n ≤ c ∧ Kd.C k125 W A n (rulesOut l n) := by
  have hrow := h.row
  rcases hrow.2 with ⟨hv, h0⟩ | ⟨g, cap, cur, hv, h1, h2, h3, h4, h5, h6⟩
  · exact ⟨none, 0, by rw [hv, h0], by omega, ⟨rulesOut_len l n, by omega, fun hp => absurd hp (by omega)⟩⟩
  · refine ⟨some ⟨g, 0, none⟩, cap, hv, h3, ⟨rulesOut_len l n, by omega, fun _ => ⟨_, rfl, fun j r hj => ?_⟩⟩⟩
    have hjn : j < n := by have := (List.getElem?_eq_some_iff.1 hj).1; rwa [rulesOut_len] at this
    obtain rfl : r = ruleOut l j := by
      rw [rulesOut, List.getElem?_map, List.getElem?_range hjn] at hj
      exact (Option.some.inj hj).symm
    obtain ⟨A2, c2, e2, l2, r2⟩ := nod_reads (h.bod j hjn) (by have := hb j hjn; omega)
    refine ⟨[.string (ruleOut l j).f0, .slice none (ruleOut l j).f1.length 0, .slice A2 (ruleOut l j).f2.length c2], rfl, k125_mk W (ruleOut l j) (by exact Nat.le_refl 0) (Kd.C_nil _ _) l2 r2, fun i u hu => ?_⟩
    have hget := flat_at (enc := fun (k : Nat) => [.string (rd_T30 l (k : Int)).f0, .slice none 0 0, bv k]) (size := 3) (fun _ => rfl) (List.range n) j j (List.getElem?_range hjn) i u (by rw [e2]; exact hu)
    exact hrow.cells (g := g) (by rw [hv]; rfl) (j * 3 + i) u hget
theorem own_lower {W : World} {b b' s n : Nat} {e : TypeId} {v : Value} {xs : List Value} (h : W.ownsRow b e s v n xs) (hb : b' ≤ b) : W.ownsRow b' e s v n xs :=
  ⟨h.1, h.2.imp id (fun ⟨g, cap, cur, a, c, r⟩ => ⟨g, cap, cur, a, Nat.le_trans hb c, r⟩)⟩
/-- Whose block it is. -/
noncomputable def whose (M : Nat) (o : Nat → Option Nat) (b : Nat) : Nat := by
  classical
  exact if h : ∃ j, j < M ∧ o j = some b then Classical.choose h else M + 5
theorem whose_at {M : Nat} {o : Nat → Option Nat} (hi : ∀ i j b, i < M → j < M → o i = some b → o j = some b → i = j) {j b : Nat} (hj : j < M) (h : o j = some b) : whose M o b = j := by
  classical
  have h0 : ∃ j, j < M ∧ o j = some b := ⟨j, hj, h⟩
  unfold whose
  rw [dif_pos h0]
  have := Classical.choose_spec h0
  exact hi _ _ b this.1 hj this.2 h
theorem whose_no {M : Nat} {o : Nat → Option Nat} {b : Nat} (h : ∀ j, j < M → o j ≠ some b) : whose M o b = M + 5 := by
  classical
  unfold whose
  rw [dif_neg (fun ⟨j, hj, e⟩ => h j hj e)]
section
variable {b1 b2 g n : Nat} {W : World} {v1 v2 : Value} {w1 w2 : Nat → Value} {s1 s2 : Nat → Nat} {l : List Rule}
theorem GAt.blk_lo (h : GAt b1 W v1 w1 s1 l n) {k b : Nat} (hk : k < n) (hb : (w1 k).ownBlock = some b) : s1 k ≤ b ∧ b < s1 (k + 1) := ⟨own_base (h.bod k hk) b hb, h.hi k hk b hb⟩
theorem GAt.blk_inj (h : GAt b1 W v1 w1 s1 l n) {i j b : Nat} (hi : i < n) (hj : j < n) (h1 : (w1 i).ownBlock = some b) (h2 : (w1 j).ownBlock = some b) : i = j := by
  have p1 := h.blk_lo hi h1
  have p2 := h.blk_lo hj h2
  rcases Nat.lt_trichotomy i j with e | e | e
  · have := h.mono_le (i + 1) j (by omega) (by omega); omega
  · exact e
  · have := h.mono_le (j + 1) i (by omega) (by omega); omega
/-- The lists of both answers: their bodies, then their rows. -/
def VV (n : Nat) (v1 v2 : Value) (w1 w2 : Nat → Value) (j : Nat) : Value := if j < n then w1 j else if j < 2 * n then w2 (j - n) else if j = 2 * n + 2 then v1 else if j = 2 * n + 3 then v2 else nilS
theorem VV_1 {j : Nat} (h : j < n) : VV n v1 v2 w1 w2 j = w1 j := if_pos h
theorem VV_2 {j : Nat} (h : ¬ j < n) (h2 : j < 2 * n) : VV n v1 v2 w1 w2 j = w2 (j - n) := by rw [VV, if_neg h, if_pos h2]
theorem VV_3 : VV n v1 v2 w1 w2 (2 * n + 2) = v1 := by rw [VV, if_neg (by omega), if_neg (by omega), if_pos rfl]
theorem VV_4 : VV n v1 v2 w1 w2 (2 * n + 3) = v2 := by rw [VV, if_neg (by omega), if_neg (by omega), if_neg (by omega), if_pos rfl]
/-- What kind a list of the family is: 0 a body of the first, 1 of the second, 2 the first row, 3 the second. -/
theorem VV_inj (h1 : GAt b1 W v1 w1 s1 l n) (h2 : GAt b2 W v2 w2 s2 l n) (hsep : ∀ b, (v1.ownBlock = some b ∨ ∃ k, k < n ∧ (w1 k).ownBlock = some b) → b < b2) :
    ∀ i j b, i < 2 * n + 4 → j < 2 * n + 4 → (VV n v1 v2 w1 w2 i).ownBlock = some b → (VV n v1 v2 w1 w2 j).ownBlock = some b → i = j := by
  have hw2 : ∀ k b, k < n → (w2 k).ownBlock = some b → b2 ≤ b := fun k b hk hb => by
    have := (h2.blk_lo hk hb).1
    have := h2.mono_le 0 k (by omega) (by omega)
    have := h2.lo
    omega
  have key : ∀ i j b, i < j → j < 2 * n + 4 → (VV n v1 v2 w1 w2 i).ownBlock = some b → (VV n v1 v2 w1 w2 j).ownBlock = some b → False := by
    intro i j b hij hj e1 e2
    by_cases ci : i < n
    · rw [VV_1 ci] at e1
      have l1 := hsep b (.inr ⟨i, ci, e1⟩)
      by_cases cj : j < n
      · rw [VV_1 cj] at e2
        have := h1.blk_inj ci cj e1 e2
        omega
      · by_cases cj2 : j < 2 * n
        · rw [VV_2 cj cj2] at e2
          have := hw2 _ b (by omega) e2
          omega
        · by_cases cj3 : j = 2 * n + 2
          · subst cj3
            rw [VV_3] at e2
            exact own_apart h1.row (h1.bod i ci) (by decide) e2 e1
          · by_cases cj4 : j = 2 * n + 3
            · subst cj4
              rw [VV_4] at e2
              have := own_base h2.row b e2
              omega
            · rw [VV, if_neg cj, if_neg cj2, if_neg cj3, if_neg cj4] at e2
              simp [nilS, Value.ownBlock] at e2
    · by_cases ci2 : i < 2 * n
      · rw [VV_2 ci ci2] at e1
        have l1 := hw2 _ b (by omega) e1
        by_cases cj2 : j < 2 * n
        · rw [VV_2 (by omega) cj2] at e2
          have := h2.blk_inj (by omega) (by omega) e1 e2
          omega
        · by_cases cj3 : j = 2 * n + 2
          · subst cj3
            rw [VV_3] at e2
            have := hsep b (.inl e2)
            omega
          · by_cases cj4 : j = 2 * n + 3
            · subst cj4
              rw [VV_4] at e2
              exact own_apart h2.row (h2.bod (i - n) (by omega)) (by decide) e2 e1
            · rw [VV, if_neg (by omega), if_neg cj2, if_neg cj3, if_neg cj4] at e2
              simp [nilS, Value.ownBlock] at e2
      · by_cases ci3 : i = 2 * n + 2
        · subst ci3
          rw [VV_3] at e1
          have := hsep b (.inl e1)
          obtain rfl : j = 2 * n + 3 := by omega
          rw [VV_4] at e2
          have := own_base h2.row b e2
          omega
        · by_cases ci4 : i = 2 * n + 3
          · omega
          · rw [VV, if_neg ci, if_neg ci2, if_neg ci3, if_neg ci4] at e1
            simp [nilS, Value.ownBlock] at e1
  intro i j b hi hj e1 e2
  rcases Nat.lt_trichotomy i j with e | e | e
  · exact (key i j b e hj e1 e2).elim
  · exact e
  · exact (key j i b e hi e2 e1).elim
/-- What FreeGrammars asks. -/
theorem XG.of {A1 A2 : Option Addr} {c1 c2 : Nat} (h1 : GAt b1 W (.slice A1 n c1) w1 s1 l n) (h2 : GAt b2 W (.slice A2 n c2) w2 s2 l n) (hb : b1 ≤ b2) (hsep : ∀ b, ((Value.slice A1 n c1).ownBlock = some b ∨ ∃ k, k < n ∧ (w1 k).ownBlock = some b) → b < b2) (hrow : RowAt W g 61 [nilS, .slice A1 n c1, nilS, .slice A2 n c2]) :
    ∃ f : Nat → Nat, XG b1 g n (fun i => if i = 0 then A1 else A2) (fun i => if i = 0 then c1 else c2) (fun k => (rd_T30 l (k : Int)).f0) (fun m => if m < n then w1 m else w2 (m - n)) (2 * n + 2) f W ∧
      (∀ m, m < 2 * n → W.ownsRow b1 122 10 (if m < n then w1 m else w2 (m - n)) (nods l (if m < n then m else m - n)).length ((nods l (if m < n then m else m - n)).flatMap nodCells)) ∧ ∀ m, m < 2 * n → Tag W f (if m < n then w1 m else w2 (m - n)) m := by
  have hinj := VV_inj h1 h2 hsep
  have hg1 : ∀ b, (Value.slice A1 n c1).ownBlock = some b → b ≠ g := fun b e e2 => own_row_ne h1.row hrow (by decide) (by rw [e, e2])
  have hg2 : ∀ b, (Value.slice A2 n c2).ownBlock = some b → b ≠ g := fun b e e2 => own_row_ne h2.row hrow (by decide) (by rw [e, e2])
  have hall : ∀ j, j < 2 * n + 4 → (VV n (.slice A1 n c1) (.slice A2 n c2) w1 w2 j).ownBlock ≠ some g := by
    intro j hj e
    by_cases c1 : j < n
    · rw [VV_1 c1] at e
      exact own_row_ne (h1.bod j c1) hrow (by decide) e
    · by_cases c2 : j < 2 * n
      · rw [VV_2 c1 c2] at e
        exact own_row_ne (h2.bod (j - n) (by omega)) hrow (by decide) e
      · by_cases c3 : j = 2 * n + 2
        · subst c3; rw [VV_3] at e; exact hg1 g e rfl
        · by_cases c4 : j = 2 * n + 3
          · subst c4; rw [VV_4] at e; exact hg2 g e rfl
          · rw [VV, if_neg c1, if_neg c2, if_neg c3, if_neg c4] at e
            simp [nilS, Value.ownBlock] at e
  refine ⟨whose (2 * n + 4) (fun j => (VV n (.slice A1 n c1) (.slice A2 n c2) w1 w2 j).ownBlock), ⟨hrow, ?_, fun i hi => ?_, fun i hi => ?_⟩, fun m hm => ?_, fun m hm => ?_⟩
  · rw [whose_no hall]
  · obtain rfl | rfl : i = 0 ∨ i = 1 := by omega
    · simp only [if_pos, Nat.zero_mul, Nat.zero_add]
      have e : (List.range n).flatMap (fun (k : Nat) => [Value.string (rd_T30 l (k : Int)).f0, nilS, if k < n then w1 k else w2 (k - n)]) = (List.range n).flatMap fun (k : Nat) => [.string (rd_T30 l (k : Int)).f0, .slice none 0 0, w1 k] :=
        flatMap_same _ (fun k hk => by rw [if_pos (List.mem_range.1 hk)]; rfl)
      rw [e]
      exact h1.row
    · simp only [if_neg (show ¬ (1 : Nat) = 0 by omega), Nat.one_mul]
      have e : (List.range n).flatMap (fun (k : Nat) => [Value.string (rd_T30 l (k : Int)).f0, nilS, if n + k < n then w1 (n + k) else w2 (n + k - n)]) = (List.range n).flatMap fun (k : Nat) => [.string (rd_T30 l (k : Int)).f0, .slice none 0 0, w2 k] :=
        flatMap_same _ (fun k hk => by rw [if_neg (by omega), Nat.add_sub_cancel_left]; rfl)
      rw [e]
      exact own_lower h2.row hb
  · intro b hb'
    refine ⟨?_, ?_⟩
    · obtain rfl | rfl : i = 0 ∨ i = 1 := by omega
      · exact own_lt h1.row b hb'
      · exact own_lt h2.row b hb'
    · obtain rfl | rfl : i = 0 ∨ i = 1 := by omega
      · exact whose_at hinj (j := 2 * n + 2) (by omega) (by rw [VV_3]; exact hb')
      · exact whose_at hinj (j := 2 * n + 3) (by omega) (by rw [VV_4]; exact hb')
  · by_cases c : m < n
    · simp only [if_pos c]
      exact own_lower (h1.bod m c) (Nat.le_trans h1.lo (h1.mono_le 0 m (by omega) (by omega)))
    · simp only [if_neg c]
      exact own_lower (h2.bod (m - n) (by omega)) (Nat.le_trans hb (Nat.le_trans h2.lo (h2.mono_le 0 (m - n) (by omega) (by omega))))
  · intro b hb'
    by_cases c : m < n
    · rw [if_pos c] at hb'
      exact ⟨own_lt (h1.bod m c) b hb', whose_at hinj (j := m) (by omega) (by rw [VV_1 c]; exact hb')⟩
    · rw [if_neg c] at hb'
      exact ⟨own_lt (h2.bod (m - n) (by omega)) b hb', whose_at hinj (j := m) (by omega) (by rw [VV_2 c hm]; exact hb')⟩
end
end Go.Proofs.Ytebiogaacikphaa.Core
end
