/- Parts of the proof of packBack and packOne and packCuts and packSpoilt and packSmall: Spoilt. No condition beyond each lemma's own. -/
import Derived.Test.YtebiogaacikphaaTQ20
import Derived.Test.YtebiogaacikphaaTQ29
section
namespace Go.Proofs.Ytebiogaacikphaa.Pack
open Go.RowKit Go.Proofs.YtebiogaacikphaaW.PrintWords Go.Proofs.Ytebiogaacikphaa.PAll Go.Proofs.Ytebiogaacikphaa.Names
set_option linter.unusedVariables false
theorem flat_nums (d : List Int) : d.flatMap (fun x => [Value.int .u8 x]) = nums .u8 d := by
  induction d with
  | nil => rfl
  | cons x d ih => rw [List.flatMap_cons, ih]; rfl
/-- Is bit i changed, when k of the burst's bits, from bit on, are done? -/
def flipAt (bit u k i : Nat) : Bool := decide (bit ≤ i ∧ i < bit + k) && u.testBit (i - bit)
structure SP (w W : World) (g cap L : Nat) (b d : List Int) (bit u k : Nat) (ch : Bool) : Prop where
  bel : Below w.heap.size w W
  own : W.ownsRow w.heap.size 5 1 (.slice (some ⟨g, 0, none⟩) L cap) L (nums .u8 d)
  len : d.length = L
  bytes : ByteL d
  bits : ∀ i, (bitsL d)[i]? = (bitsL b)[i]?.map fun y => y != flipAt bit u k i
  chg : ch = true ↔ ∃ j, j < k ∧ u.testBit j = true ∧ bit + j < 8 * L
section
variable {w W W' : World} {g cap L : Nat} {b d : List Int} {bit u k : Nat} {ch : Bool}
theorem flip_same {i : Nat} (h : i ≠ bit + k) : flipAt bit u (k + 1) i = flipAt bit u k i := by
  unfold flipAt
  have e : decide (bit ≤ i ∧ i < bit + (k + 1)) = decide (bit ≤ i ∧ i < bit + k) := by
    by_cases c : bit ≤ i ∧ i < bit + k
    · rw [decide_eq_true c, decide_eq_true (by omega)]
    · rw [decide_eq_false c, decide_eq_false (by omega)]
  rw [e]
theorem flip_here : flipAt bit u (k + 1) (bit + k) = u.testBit k ∧ flipAt bit u k (bit + k) = false := by
  unfold flipAt
  rw [decide_eq_true (show bit ≤ bit + k ∧ bit + k < bit + (k + 1) by omega), decide_eq_false (show ¬ (bit ≤ bit + k ∧ bit + k < bit + k) by omega), Nat.add_sub_cancel_left]
  simp
theorem SP.below (h : SP w W g cap L b d bit u k ch) (hb : Below W.heap.size W W') : SP w W' g cap L b d bit u k ch :=
  ⟨below_step h.bel hb, own_kept h.own (fun q hq => hb.block q (own_lt h.own q hq)), h.len, h.bytes, h.bits, h.chg⟩
/-- A bit that isn't changed. -/
theorem SP.skip (h : SP w W g cap L b d bit u k ch) (hno : ¬ (u.testBit k = true ∧ bit + k < 8 * L)) : SP w W g cap L b d bit u (k + 1) ch := by
  refine ⟨h.bel, h.own, h.len, h.bytes, fun i => ?_, h.chg.trans ⟨fun ⟨j, h1, h2⟩ => ⟨j, by omega, h2⟩, fun ⟨j, h1, h2⟩ => ?_⟩⟩
  · by_cases e : i = bit + k
    · subst e
      have hi := h.bits (bit + k)
      obtain ⟨e1, e2⟩ := flip_here (bit := bit) (u := u) (k := k)
      by_cases t : u.testBit k = true
      · have hnl : ¬ bit + k < 8 * L := fun hlt => hno ⟨t, hlt⟩
        have hl : (bitsL d).length ≤ bit + k := by rw [bitsL_length, h.len]; omega
        rw [List.getElem?_eq_none hl] at hi ⊢
        cases hb : (bitsL b)[bit + k]? with
        | none => rfl
        | some y => rw [hb] at hi; cases hi
      · rw [e1, show u.testBit k = false by simpa using t]
        rw [e2] at hi
        exact hi
    · rw [flip_same e]
      exact h.bits i
  · by_cases e : j = k
    · subst e
      exact absurd h2 hno
    · exact ⟨j, by omega, h2⟩
/-- A bit that is changed. -/
theorem SP.flip (h : SP w W g cap L b d bit u k ch) (hyes : u.testBit k = true) {j r : Nat} (hr : r < 8) (hp : bit + k = 8 * j + r) {x : Int} (hx : d[j]? = some x) {cs : List Value} (hrow : RowAt W g 5 cs)
    (h1 : RowAt W' g 5 (cs.take j ++ [.int .u8 ((x.toNat ^^^ 2 ^ r : Nat) : Int)] ++ cs.drop (j + 1))) (hg : W.grownBy W' (some g)) : SP w W' g cap L b (d.set j ((x.toNat ^^^ 2 ^ r : Nat) : Int)) bit u (k + 1) true := by
  have hjl := (List.getElem?_eq_some_iff.1 hx).1
  obtain ⟨f1, f2⟩ := flip_bit h.bytes j r hr x hx
  refine ⟨pw_below_grown h.bel (some g) h.bel.size hg (fun q hq => by injection hq with hq; subst hq; exact own_base h.own g rfl), ?_, by rw [List.length_set]; exact h.len, f1, fun i => ?_, ⟨fun _ => ⟨k, by omega, hyes, by have := h.len; omega⟩, fun _ => rfl⟩⟩
  · have ho := h.own
    rw [← flat_nums] at ho
    have := own_set (enc := fun x : Int => [Value.int .u8 x]) (size := 1) (fun _ => rfl) ho h.len (k := j) (by rw [← h.len]; exact hjl) ((x.toNat ^^^ 2 ^ r : Nat) : Int) hrow (by rw [Nat.mul_one]; exact h1)
    rw [flat_nums] at this
    exact this
  · rw [f2 i, h.bits i, Option.map_map]
    congr 1
    funext y
    show ((y != flipAt bit u k i) != decide (i = 8 * j + r)) = (y != flipAt bit u (k + 1) i)
    by_cases e : i = bit + k
    · subst e
      obtain ⟨e1, e2⟩ := flip_here (bit := bit) (u := u) (k := k)
      rw [e1, e2, hyes, decide_eq_true hp]
      cases y <;> rfl
    · rw [flip_same e, decide_eq_false (by omega)]
      simp
/-- Its cell. -/
theorem SP.cell (h : SP w W g cap L b d bit u k ch) {j : Nat} {x : Int} (hx : d[j]? = some x) : W.cell? ⟨g, j, none⟩ = some (.int .u8 x) := by
  have := h.own.cells (g := g) rfl j (.int .u8 x) (by rw [nums, List.getElem?_map, hx]; rfl)
  rwa [Go.Proofs.YtebiogaacikphaaW.PrintWords.add_plain] at this
theorem SP.row (h : SP w W g cap L b d bit u k ch) : ∃ cs, RowAt W g 5 cs ∧ L ≤ cs.length := by
  rcases h.own.2 with ⟨hv, _⟩ | ⟨g', cap', cur, hv, h2, h3, h4, h5, h6, h7⟩
  · cases hv
  · cases hv
    exact ⟨cur.toList, ⟨cur, h3, rfl⟩, by rw [Array.length_toList, h6]; omega⟩
/-- When all is done. -/
theorem SP.done (h : SP w W g cap L b d bit u 32 ch) (hL : b.length = L) (hbb : ByteL b) (p : List Ins) (hp : decodeL b = .ok p) (hch : ch = true) (h4 : 4 ≤ L) :
    ∃ f, decodeL d = .error f ∧ ((f.2 = 202 ∧ 0 ≤ f.1 ∧ f.1 < 5) ∨ (f.2 = 203 ∧ f.1 = ((L - 4 : Nat) : Int))) := by
  have hs := spoilt_told (b := b) (d := d) bit p hbb h.bytes (h.len.trans hL.symm) hp (fun i hi => ?_) ?_
  · rw [h.len] at hs
    exact hs
  · rw [h.bits i]
    have hf : flipAt bit u 32 i = false := by unfold flipAt; rw [decide_eq_false (by omega)]; rfl
    rw [hf]
    cases (bitsL b)[i]? with
    | none => rfl
    | some y => cases y <;> rfl
  · obtain ⟨j, h1, h2, h3⟩ := h.chg.1 hch
    intro e
    have hi := h.bits (bit + j)
    rw [e] at hi
    have hlt : bit + j < (bitsL b).length := by rw [bitsL_length, hL]; exact h3
    rw [List.getElem?_eq_getElem hlt] at hi
    have hf : flipAt bit u 32 (bit + j) = true := by unfold flipAt; rw [decide_eq_true (by omega), Nat.add_sub_cancel_left, h2]; rfl
    rw [hf] at hi
    simp at hi
theorem SP.start {v : Value} (hb : Below w.heap.size w W) (h : W.ownsRow w.heap.size 5 1 (.slice (some ⟨g, 0, none⟩) b.length cap) b.length (nums .u8 b)) (hby : ByteL b) : SP w W g cap b.length b b bit u 0 false := by
  refine ⟨hb, h, rfl, hby, fun i => ?_, ⟨fun h => (by cases h), fun h => by obtain ⟨j, h1, _⟩ := h; omega⟩⟩
  have hf : flipAt bit u 0 i = false := by unfold flipAt; rw [decide_eq_false (by omega)]; rfl
  rw [hf]
  cases (bitsL b)[i]? with
  | none => rfl
  | some y => cases y <;> rfl
end
theorem u32_of_wf {x : Int} (h : (Lit.int .u32 x).wf = true) : 0 ≤ x ∧ x < 4294967296 := by
  have h' : IntKind.u32.min ≤ x ∧ x ≤ IntKind.u32.max := by simpa [Lit.wf] using h
  have h1 : IntKind.u32.min = 0 := by decide
  have h2 : IntKind.u32.max = 4294967295 := by decide
  omega
/-- What the code reckons of the burst. -/
theorem burst_bit (u k : Nat) (hu : u < 4294967296) : Go.bits .and .u32 ((u : Int) / 2 ^ k) 1 = if u.testBit k then 1 else 0 := by
  have hd : (u : Int) / 2 ^ k = ((u / 2 ^ k : Nat) : Int) := by rw [Int.natCast_ediv, Int.natCast_pow]; rfl
  have hlt : u / 2 ^ k < 2 ^ 32 := Nat.lt_of_le_of_lt (Nat.div_le_self _ _) (by omega)
  rw [hd]
  have hb := Bits.bits_and .u32 rfl (u / 2 ^ k) 1 hlt (by decide)
  rw [show (1 : Int) = ((1 : Nat) : Int) from rfl, hb, Nat.and_one_is_mod]
  have ht : u.testBit k = decide ((u / 2 ^ k) % 2 = 1) := by
    rw [Nat.testBit, Nat.shiftRight_eq_div_pow, Nat.one_and_eq_mod_two]
    have := Nat.mod_two_eq_zero_or_one (u / 2 ^ k)
    rcases this with h | h <;> rw [h] <;> rfl
  rw [ht]
  have := Nat.mod_two_eq_zero_or_one (u / 2 ^ k)
  rcases this with h | h <;> rw [h] <;> rfl
theorem xor_bit {x : Int} (hx : 0 ≤ x ∧ x < 256) {r : Nat} (hr : r < 8) : Go.bits .xor .u8 x ((2 ^ r : Nat) : Int) = ((x.toNat ^^^ 2 ^ r : Nat) : Int) := by
  obtain ⟨m, rfl⟩ := Int.eq_ofNat_of_zero_le hx.1
  have hp : 2 ^ r < 2 ^ 8 := Nat.pow_lt_pow_right (by decide) hr
  exact Bits.bits_xor .u8 rfl m (2 ^ r) (by show _ < 2 ^ 8; omega) hp
theorem pow_wrap {r : Nat} (hr : r < 8) : IntKind.u8.wrap ((2 : Int) ^ r) = ((2 ^ r : Nat) : Int) := by
  have hp : 2 ^ r < 2 ^ 8 := Nat.pow_lt_pow_right (by decide) hr
  have e : (2 : Int) ^ r = ((2 ^ r : Nat) : Int) := by rw [Int.natCast_pow]; rfl
  rw [e]
  exact Bits.wrap_u .u8 rfl _ hp
end Go.Proofs.Ytebiogaacikphaa.Pack
end
