/- Parts of the proof of coreGrammars: GramKit. No condition beyond each lemma's own. -/
import Derived.Test.YtebiogaacikphaaTG9
import Derived.Test.YtebiogaacikphaaTG13
section
namespace Go.Proofs.Ytebiogaacikphaa.Core
open Go.RowKit Go.Proofs.YtebiogaacikphaaW.PrintWords Go.Proofs.Ytebiogaacikphaa.PAll Go.Proofs.Ytebiogaacikphaa.Pack
set_option linter.unusedVariables false
set_option linter.unusedSimpArgs false
abbrev Nod := S122
def nodCells (y : Nod) : List Value := [.int .i64 y.f0, .int .i64 y.f1, .string y.f2, .bool y.f3, .int .u64 y.f4.f0, .int .u64 y.f4.f1, .int .u64 y.f4.f2, .int .u64 y.f4.f3, .int .i64 y.f5, .int .i64 y.f6]
theorem nodCells_len (y : Nod) : (nodCells y).length = 10 := rfl
def opN (a : Int) : Int := if a = 1 then 2 else if a = 2 then 4 else if a = 3 then 5 else if a = 4 then 6 else if a = 5 then 7 else if a = 6 then 9 else if a = 7 then 13 else if a = 8 then 14 else 0
/-- A node, said. -/
def nodOf (l : List Rule) (x : Node) : Nod := ⟨opN x.f0, ar x.f0, if x.f0 = 2 then (rd_T30 l x.f2).f0 else x.f3, false, x.f1, 0, 0⟩
def body (l : List Rule) (k : Nat) : List Node := (rd_T30 l (k : Int)).f1
def nods (l : List Rule) (k : Nat) : List Nod := (body l k).map (nodOf l)
theorem nods_len (l : List Rule) (k : Nat) : (nods l k).length = (body l k).length := by simp [nods]
theorem own_apart {w : World} {b1 b2 n1 n2 s1 s2 : Nat} {e1 e2 : TypeId} {v1 v2 : Value} {x1 x2 : List Value} (h1 : w.ownsRow b1 e1 s1 v1 n1 x1) (h2 : w.ownsRow b2 e2 s2 v2 n2 x2) (hne : e1 ≠ e2) {q : Nat} (a1 : v1.ownBlock = some q) (a2 : v2.ownBlock = some q) : False := by
  obtain ⟨c0, e0⟩ := own_typed h1 q a1
  obtain ⟨c1, e1⟩ := own_typed h2 q a2
  rw [e0] at e1
  injection e1 with e1
  injection e1 with _ e1
  exact hne e1
theorem own_row_ne {w : World} {b n s g : Nat} {e t : TypeId} {v : Value} {xs cs : List Value} (h : w.ownsRow b e s v n xs) (hr : RowAt w g t cs) (hne : e ≠ t) : v.ownBlock ≠ some g := by
  obtain ⟨cur, hh, _⟩ := hr
  intro e
  exact own_ne h hh hne e.symm
theorem flatMap_same {α β : Type} {f g : α → List β} : ∀ (l : List α), (∀ x ∈ l, f x = g x) → l.flatMap f = l.flatMap g
  | [], _ => rfl
  | x :: l, h => by
    rw [List.flatMap_cons, List.flatMap_cons, h x (by simp), flatMap_same l (fun y hy => h y (by simp [hy]))]
theorem flat_at {α : Type} {enc : α → List Value} {size : Nat} (hs : ∀ x, (enc x).length = size) : ∀ (l : List α) (j : Nat) (x : α), l[j]? = some x → ∀ i u, (enc x)[i]? = some u → (l.flatMap enc)[j * size + i]? = some u
  | [], _, _, h, _, _, _ => by simp at h
  | y :: l, 0, x, h, i, u, hi => by
    simp only [List.getElem?_cons_zero, Option.some.injEq] at h
    subst h
    have hl := (List.getElem?_eq_some_iff.1 hi).1
    rw [List.flatMap_cons, Nat.zero_mul, Nat.zero_add, List.getElem?_append_left hl]
    exact hi
  | y :: l, j + 1, x, h, i, u, hi => by
    have ih := flat_at hs l j x (by simpa using h) i u hi
    rw [List.flatMap_cons, List.getElem?_append_right (by rw [hs, Nat.succ_mul]; omega), hs, show (j + 1) * size + i - size = j * size + i by rw [Nat.succ_mul]; omega]
    exact ih
theorem nod_reads {W : World} {base : Nat} {v : Value} {l : List Nod} (h : W.ownsRow base 122 10 v l.length (l.flatMap nodCells)) (hl : l.length ≤ 9223372036854775807) : ∃ A c, v = .slice A l.length c ∧ l.length ≤ c ∧ Kd.C k122 W A l.length l := by
  rcases h.2 with ⟨hv, h0⟩ | ⟨g, cap, cur, hv, h1, h2, h3, h4, h5, h6⟩
  · exact ⟨none, 0, by rw [hv, h0], by omega, ⟨rfl, hl, fun hp => absurd hp (by omega)⟩⟩
  · refine ⟨some ⟨g, 0, none⟩, cap, hv, h3, ⟨rfl, hl, fun _ => ⟨_, rfl, fun j p hj => ⟨nodCells p, rfl, k122_mk W p, fun i u hi => ?_⟩⟩⟩⟩
    have hget := flat_at (enc := nodCells) (size := 10) nodCells_len l j p hj i u hi
    have := h.cells (g := g) (by rw [hv]; rfl) (j * 10 + i) u hget
    exact this
/-- The rules that were made so far: their row, their bodies, each in memory of its own time. -/
structure GAt (base : Nat) (W : World) (vr : Value) (bv : Nat → Value) (s : Nat → Nat) (l : List Rule) (i : Nat) : Prop where
  row : W.ownsRow base 125 3 vr i ((List.range i).flatMap fun (k : Nat) => [.string (rd_T30 l (k : Int)).f0, .slice none 0 0, bv k])
  bod : ∀ k, k < i → W.ownsRow (s k) 122 10 (bv k) (nods l k).length ((nods l k).flatMap nodCells)
  hi : ∀ k, k < i → ∀ b, (bv k).ownBlock = some b → b < s (k + 1)
  mono : ∀ k, k < i → s k ≤ s (k + 1)
  lo : base ≤ s 0
  top : s i ≤ W.heap.size
section
variable {base : Nat} {W W' W1 : World} {vr : Value} {bv : Nat → Value} {s : Nat → Nat} {l : List Rule} {i : Nat}
theorem GAt.below (h : GAt base W vr bv s l i) (hb : Below W.heap.size W W') : GAt base W' vr bv s l i :=
  ⟨own_kept h.row (fun k e => hb.block k (own_lt h.row k e)), fun k hk => own_kept (h.bod k hk) (fun b e => hb.block b (own_lt (h.bod k hk) b e)), h.hi, h.mono, h.lo, Nat.le_trans h.top hb.size⟩
theorem GAt.nil (h : base ≤ W.heap.size) : GAt base W (.slice none 0 0) (fun _ => .slice none 0 0) (fun _ => base) l 0 :=
  ⟨World.ownsRow_nil _ _ _ _, fun k hk => absurd hk (by omega), fun k hk => absurd hk (by omega), fun k hk => absurd hk (by omega), Nat.le_refl _, h⟩
/-- Another block is changed, of another type. -/
theorem GAt.put (h : GAt base W vr bv s l i) {g : Nat} {e : TypeId} {cs : List Value} (hr : RowAt W g e cs) (h1 : 125 ≠ e) (h2 : 122 ≠ e) (hg : W.grownBy W' (some g)) : GAt base W' vr bv s l i :=
  ⟨own_kept h.row (fun k e => hg.block k (own_lt h.row k e) (fun e2 => own_row_ne h.row hr h1 (by rw [e, e2]))), fun k hk => own_kept (h.bod k hk) (fun b e => hg.block b (own_lt (h.bod k hk) b e) (fun e2 => own_row_ne (h.bod k hk) hr h2 (by rw [e, e2]))), h.hi, h.mono, h.lo, Nat.le_trans h.top hg.size⟩
theorem GAt.mono_le (h : GAt base W vr bv s l i) : ∀ a b, a ≤ b → b ≤ i → s a ≤ s b := by
  intro a b hab hb
  induction b with
  | zero => rw [show a = 0 by omega]; exact Nat.le_refl _
  | succ b ih =>
    rcases Nat.lt_or_ge a (b + 1) with hlt | hge
    · exact Nat.le_trans (ih (by omega) (by omega)) (h.mono b (by omega))
    · rw [show a = b + 1 by omega]
      exact Nat.le_refl _
/-- One rule more. -/
theorem GAt.add (h : GAt base W vr bv s l i) {ve vr' : Value} (hw : W.ownsRow (s i) 122 10 ve (nods l i).length ((nods l i).flatMap nodCells))
    (hr : W1.ownsRow base 125 3 vr' (i + 1) ((List.range i).flatMap (fun (k : Nat) => [.string (rd_T30 l (k : Int)).f0, .slice none 0 0, bv k]) ++ [.string (rd_T30 l (i : Int)).f0, .slice none 0 0, ve]))
    (hg : W.grownBy W1 vr.ownBlock) : GAt base W1 vr' (fun k => if k = i then ve else bv k) (fun k => if k = i + 1 then W.heap.size else s k) l (i + 1) := by
  refine ⟨?_, fun k hk => ?_, fun k hk b hb => ?_, fun k hk => ?_, ?_, ?_⟩
  · rw [List.range_succ, List.flatMap_append]
    have e1 : (List.range i).flatMap (fun (k : Nat) => [Value.string (rd_T30 l (k : Int)).f0, Value.slice none 0 0, if k = i then ve else bv k]) = (List.range i).flatMap (fun (k : Nat) => [Value.string (rd_T30 l (k : Int)).f0, Value.slice none 0 0, bv k]) := by
      refine flatMap_same _ (fun k hk => ?_)
      rw [if_neg (by have := List.mem_range.1 hk; omega)]
    rw [e1]
    simpa using hr
  · by_cases e : k = i
    · subst e
      simp only [if_true, if_neg (show ¬ k = k + 1 by omega)]
      exact own_kept hw (fun b e => hg.block b (own_lt hw b e) (fun e2 => own_apart h.row hw (by decide) e2.symm e))
    · simp only [if_neg e, if_neg (show ¬ k = i + 1 by omega)]
      exact own_kept (h.bod k (by omega)) (fun b e => hg.block b (own_lt (h.bod k (by omega)) b e) (fun e2 => own_apart h.row (h.bod k (by omega)) (by decide) e2.symm e))
  · by_cases e : k = i
    · subst e
      simp only [if_true] at hb ⊢
      exact own_lt hw b hb
    · simp only [if_neg e, if_neg (show ¬ k + 1 = i + 1 by omega)] at hb ⊢
      exact h.hi k (by omega) b hb
  · by_cases e : k = i
    · subst e
      simp only [if_true, if_neg (show ¬ k = k + 1 by omega)]
      exact h.top
    · simp only [if_neg (show ¬ k = i + 1 by omega), if_neg (show ¬ k + 1 = i + 1 by omega)]
      exact h.mono k (by omega)
  · simp only [if_neg (show ¬ 0 = i + 1 by omega)]
    exact h.lo
  · simp only [if_true]
    exact hg.size
end
end Go.Proofs.Ytebiogaacikphaa.Core
end
