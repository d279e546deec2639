/- Parts of the proof of packForged and packDecodes and Pack and Pack and Pack: Free, FreeInss, FreeWalk, Kept. -/
import Derived.IntWalk
import Derived.WalkKit
import Derived.Test.YtebiogaacikphaaTP8
import Derived.Test.YtebiogaacikphaaTP11
import Derived.Test.YtebiogaacikphaaTP17
import Derived.Test.YtebiogaacikphaaTP23
section
namespace Go.Proofs.YtebiogaacikphaaW.PrintWords
open Go.RowKit
set_option linter.unusedVariables false
set_option linter.unusedSimpArgs false
/-- v's block lies in the heap and is i's. -/
def Tag (W : World) (f : Nat → Nat) (v : Value) (i : Nat) : Prop := ∀ k, v.ownBlock = some k → k < W.heap.size ∧ f k = i
/-- v is read as these cells. -/
def Sees (W : World) (v : Value) (n : Nat) (xs : List Value) : Prop := ∃ A c, v = .slice A n c ∧ (0 < n → ∃ g, A = some ⟨g, 0, none⟩ ∧ ∀ j u, xs[j]? = some u → W.cell? ⟨g, j, none⟩ = some u)
/-- A step that changes i's blocks alone. -/
structure Step (W W' : World) (f f' : Nat → Nat) (i : Nat) : Prop where
  size : W.heap.size ≤ W'.heap.size
  tags : ∀ k, k < W.heap.size → f' k = f k
  same : ∀ k, k < W.heap.size → f k ≠ i → W'.heap[k]? = W.heap[k]?
section
variable {W W' : World} {f f' : Nat → Nat} {i j : Nat} {v : Value} {base size n : Nat} {e : TypeId} {xs : List Value}
theorem Tag.step (h : Tag W f v j) (s : Step W W' f f' i) : Tag W' f' v j := fun k hk => ⟨Nat.lt_of_lt_of_le (h k hk).1 s.size, (s.tags k (h k hk).1).trans (h k hk).2⟩
theorem own_step (h : W.ownsRow base e size v n xs) (t : Tag W f v j) (hne : j ≠ i) (s : Step W W' f f' i) : W'.ownsRow base e size v n xs := by
  refine ⟨h.1, ?_⟩
  rcases h.2 with hn | ⟨g, cap, cur, rfl, hb, hgg, rest⟩
  · exact .inl hn
  · refine .inr ⟨g, cap, cur, rfl, hb, ?_, rest⟩
    obtain ⟨h1, h2⟩ := t g rfl
    rw [s.same g h1 (by rw [h2]; exact hne)]
    exact hgg
theorem Sees.step (h : Sees W v n xs) (t : Tag W f v j) (hne : j ≠ i) (s : Step W W' f f' i) : Sees W' v n xs := by
  obtain ⟨A, c, rfl, h0⟩ := h
  refine ⟨A, c, rfl, fun hp => ?_⟩
  obtain ⟨g, rfl, h3⟩ := h0 hp
  obtain ⟨h1, h2⟩ := t g rfl
  refine ⟨g, rfl, fun q u hq => ?_⟩
  rw [World.cell?_of_block (a := ⟨g, q, none⟩) (s.same g h1 (by rw [h2]; exact hne))]
  exact h3 q u hq
theorem RowAt.step {g : Nat} {cs : List Value} (h : RowAt W g e cs) (hne : f g ≠ i) (s : Step W W' f f' i) : RowAt W' g e cs := h.kept (s.same g h.lt hne)
theorem own_sees (h : W.ownsRow base e size v n xs) : Sees W v n xs := by
  rcases h.2 with ⟨hv, h0⟩ | ⟨g, cap, cur, hv, h1, h2, h3, h4, h5, h6⟩
  · exact ⟨none, 0, by rw [hv, h0], fun hp => absurd hp (by omega)⟩
  · refine ⟨some ⟨g, 0, none⟩, cap, hv, fun _ => ⟨g, rfl, fun q u hq => ?_⟩⟩
    have := h.cells (g := g) (by rw [hv]; rfl) q u hq
    rwa [show (⟨g, 0, none⟩ : Addr).add q = ⟨g, q, none⟩ from (by simp [Addr.add]; omega)] at this
theorem Step.below (hb : Below W.heap.size W W') : Step W W' f f i := ⟨hb.size, fun _ _ => rfl, fun k hk _ => hb.block k hk⟩
/-- A change of one block of i's, with new blocks for i. -/
theorem Step.grown {row : Option Nat} (hg : W.grownBy W' row) (hr : ∀ k, row = some k → k < W.heap.size → f k = i) : Step W W' f (fun k => if k < W.heap.size then f k else i) i :=
  ⟨hg.size, fun k hk => by rw [if_pos hk], fun k hk hne => hg.block k hk (fun h => hne (hr k h.symm hk))⟩
theorem Step.grown0 {row : Option Nat} (hg : W.grownBy W' row) (hr : ∀ k, row = some k → k < W.heap.size → f k = i) : Step W W' f f i :=
  ⟨hg.size, fun k hk => rfl, fun k hk hne => hg.block k hk (fun h => hne (hr k h.symm hk))⟩
end
section
variable {P : Program} {ops : Array Oper} {rest : List Oper} {o : Oper} {a : Act} {Q : Exit → Act → World → Prop}
theorem run_append_two (w : World) (base : Nat) (t ty e : TypeId) (i : TypeInfo) (z : Value) (size bytes : Nat) (ht : P.underlying t = some (.slice e)) (hi : P.info? e = some i) (hz : i.zero = some z)
    (hsize : i.size = size) (hby : i.bytes = bytes) (hzs : z.cells.size = size) (hsz : 0 < size)
    (v : Value) (n : Nat) (xs : List Value) (hown : w.ownsRow base e size v n xs)
    (a : Addr) (m c : Nat) (news : List Value) (hl : news.length = m * size) (hm : 0 < m) (hnews : ∀ j u, news[j]? = some u → w.cell? (a.add j) = some u) (h1 : ∀ u ∈ news, u.oneCell' = true)
    (h63 : n + m ≤ maxLen) (hbytes : (n + m) * bytes ≤ 140737488355328) (hbase : base ≤ w.heap.size) :
    ∃ v' w', (Builtin.append_ #[t, t] ty #[v, .slice (some a) m c]).run P w = .ok v' w' ∧ w'.ownsRow base e size v' (n + m) (xs ++ news) ∧
      ((v'.ownBlock = v.ownBlock ∧ w.grownBy w' v.ownBlock) ∨ (v'.ownBlock = some w.heap.size ∧ w.grownBy w' none)) := by
  subst hsize
  subst hby
  have hsmall : n + m ≤ 9223372036854775807 := by simp only [maxLen] at h63; omega
  have hlen : (xs ++ news).length = (n + m) * i.size := by rw [List.length_append, hown.1, hl, Nat.add_mul]
  have grown : ∀ (old : Nat), old < n + m → ∀ (row : Option Nat),
      (w.drew.alloc (.cells (xs.toArray ++ news.toArray ++ Builtin.zeroCells z.cells (grownCap w (n + m) old e - (n + m))) e)).ownsRow base e i.size
        (.slice (some ⟨w.heap.size, 0, none⟩) (n + m) (grownCap w (n + m) old e)) (n + m) (xs ++ news) ∧
      w.grownBy (w.drew.alloc (.cells (xs.toArray ++ news.toArray ++ Builtin.zeroCells z.cells (grownCap w (n + m) old e - (n + m))) e)) row := by
    intro old ho row
    have hge := grownCap_ge w (n + m) old e
    have hcm : grownCap w (n + m) old e ≤ maxLen := grownCap_le_maxLen w (n + m) old e h63
    refine ⟨⟨hlen, .inr ⟨w.heap.size, _, _, rfl, hbase, heap_alloc_new w.drew _, hge, hcm, ?_, ?_⟩⟩, ⟨rfl, rfl, rfl, by simp, fun k hk _ => Go.heap_alloc_old w.drew _ hk⟩⟩
    · simp only [Array.size_append, List.size_toArray, size_zeroCells, hzs, hown.1, hl, ← Nat.add_mul]
      congr 1
      omega
    · simp only [Array.toList_append, List.append_assoc]
      rw [← List.append_assoc, ← hlen]
      exact List.take_left
  rcases hown.2 with ⟨rfl, rfl⟩ | ⟨g, cap, cur, rfl, hbg, hg, hnc, hcm, hcs, htake⟩
  · have hx : xs = [] := List.eq_nil_of_length_eq_zero (by simpa using hown.1)
    subst hx
    have hr := run_append_nil (P := P) w t ty e i z ht hi hz a m c news hl hnews (by omega) (by omega) (by have hb := hbytes; simp only [Nat.zero_add] at hb; omega)
    have hgr := grown 0 (by omega) none
    simp only [Nat.zero_add, List.nil_append, Array.empty_append] at hgr ⊢
    exact ⟨_, _, hr, hgr.1, .inr ⟨rfl, hgr.2⟩⟩
  · by_cases hroom : n + m ≤ cap
    · have hfit : n * i.size + news.length ≤ cur.size := by rw [hl, hcs, ← Nat.add_mul]; exact Nat.mul_le_mul_right _ hroom
      have hr := run_append_room (P := P) w t ty e i ht hi g n cap cur hg a m c news hl hnews h1 hroom hfit
      refine ⟨_, _, hr, ⟨hlen, .inr ⟨g, cap, _, rfl, hbg, setRow_heap w g cur _ e _ hg, hroom, hcm, ?_, ?_⟩⟩, .inl ⟨rfl, ⟨rfl, rfl, rfl, by simp, fun k _ hk => setRow_other w g k _ (fun e => hk (by simp [Value.ownBlock, e]))⟩⟩⟩
      · simp only [List.size_toArray, List.length_append, List.length_take, List.length_drop, Array.length_toList]
        omega
      · rw [htake, ← hlen]
        exact List.take_left
    · have holds : ∀ j u, xs[j]? = some u → w.cell? ((⟨g, 0, none⟩ : Addr).add j) = some u := hown.cells (g := g) rfl
      have hr := run_append_grow (P := P) w t ty e i z ht hi hz ⟨g, 0, none⟩ n cap xs hown.1 holds a m c news hl hnews (by omega) (by omega) (growslice_fits (by omega) hbytes)
      have hgr := grown cap (by omega) none
      exact ⟨_, _, hr, hgr.1, .inr ⟨rfl, hgr.2⟩⟩
/-- An append of one element, that was laid into a block of its own just ahead: whose block changes. -/
theorem append_event {W : World} (base : Nat) (hgd : o.guard = none) (s x : Operand) (t e : TypeId) (z : Value) (size bytes : Nat)
    (ho : o.op = .call { callee := .builtin .append, args := #[s, x], argTypes := #[t, t] })
    (ht : P.underlying t = some (.slice e)) (hinfo : (P.info? e).map (fun i => (i.zero, i.size, i.bytes)) = some (some z, size, bytes)) (hz : z.cells.size = size) (hs0 : 0 < size) (hb0 : 0 < bytes)
    (v : Value) (n : Nat) (xs ys : List Value) (hs : a.eval s = v) (hx : a.eval x = .slice (some ⟨W.heap.size, 0, none⟩) 1 1) (hys : ys.length = size) (h1 : ∀ u ∈ ys, u.oneCell' = true)
    (HO : W.ownsRow base e size v n xs) (hbase : base ≤ W.heap.size) (hl : (n + 1) * bytes ≤ 140737488355328)
    (h : ∀ v1 w1, w1.ownsRow base e size v1 (n + 1) (xs ++ ys) → ((v1.ownBlock = v.ownBlock ∧ W.grownBy w1 v.ownBlock) ∨ ((∃ b, v1.ownBlock = some b ∧ W.heap.size ≤ b) ∧ W.grownBy w1 none)) → wpList P ops Q rest (a.put o.dst v1) w1) :
    wpList P ops Q (o :: rest) a (W.alloc (.cells ys.toArray e)) := by
  obtain ⟨i0, hi, hzz⟩ := Option.map_eq_some_iff.1 hinfo
  simp only [Prod.mk.injEq] at hzz
  obtain ⟨hz0, hz1, hz2⟩ := hzz
  have hlen : n + 1 ≤ 140737488355328 := Nat.le_trans (Nat.le_mul_of_pos_right _ hb0) hl
  refine wpList_plain hgd fun K hK => ?_
  obtain ⟨v', w', hr, h2, h3⟩ := run_append_two (P := P) (W.alloc (.cells ys.toArray e)) base t o.type e i0 z size bytes ht hi hz0 hz1 hz2 hz hs0 v n xs (HO.alloc _) ⟨W.heap.size, 0, none⟩ 1 1 ys (by rw [hys]; simp) (by decide)
    (by simpa using World.news_of_block (cs := ys.toArray) (t := e) (fr := (0, 0)) (heap_alloc_new W (.cells ys.toArray e))) h1 (by simp only [maxLen]; omega) hl (by simp; omega)
  unfold Oper.wp execOp
  simp only [ho, resolve, invoke, builtin, Sem.run_bind, Sem.run_pure, Result.andThen_ok, List.map_toArray, List.map_cons, List.map_nil, hs, hx, hr]
  refine hK _ _ (h v' w' h2 ?_)
  rcases h3 with ⟨h3, h4⟩ | ⟨h3, h4⟩
  · exact .inl ⟨h3, World.grownBy.trans (World.grownBy_alloc W _ _) h4⟩
  · exact .inr ⟨⟨_, h3, by simp⟩, World.grownBy.trans (World.grownBy_alloc W _ _) h4⟩
end
section
variable {W W1 : World} {g c base size n : Nat} {e : TypeId} {v : Value} {xs : List Value} {α : Type} {enc : α → List Value}
theorem flat_len (hs : ∀ x, (enc x).length = size) : ∀ l : List α, (l.flatMap enc).length = l.length * size
  | [] => by simp
  | x :: l => by rw [List.flatMap_cons, List.length_append, hs, flat_len hs l, List.length_cons, Nat.add_mul, Nat.one_mul]; omega
theorem flat_set (hs : ∀ x, (enc x).length = size) (y : α) : ∀ (l : List α) (k : Nat), k < l.length → (l.flatMap enc).take (k * size) ++ enc y ++ (l.flatMap enc).drop (k * size + size) = (l.set k y).flatMap enc
  | [], k, h => by simp at h
  | x :: l, 0, h => by
    rw [Nat.zero_mul, Nat.zero_add, List.take_zero, List.nil_append, List.set_cons_zero, List.flatMap_cons, List.flatMap_cons, List.drop_append_of_le_length (by rw [hs]; exact Nat.le_refl _), List.drop_of_length_le (by rw [hs]; exact Nat.le_refl _), List.nil_append]
  | x :: l, k + 1, h => by
    have ih := flat_set hs y l k (by simpa using h)
    rw [List.set_cons_succ, List.flatMap_cons, List.flatMap_cons, ← ih]
    have e1 : (k + 1) * size = (enc x).length + k * size := by rw [hs, Nat.add_mul, Nat.one_mul]; omega
    rw [e1, List.take_length_add_append, show (enc x).length + k * size + size = (enc x).length + (k * size + size) by omega, List.drop_length_add_append]
    simp only [List.append_assoc]
/-- The row behind an own slice. -/
theorem own_row (h : W.ownsRow base e size (.slice (some ⟨g, 0, none⟩) n c) n xs) : ∃ cs, RowAt W g e cs ∧ n * size ≤ cs.length ∧ cs.take (n * size) = xs := by
  rcases h.2 with ⟨hv, _⟩ | ⟨g', cap, cur, hv, h1, h2, h3, h4, h5, h6⟩
  · cases hv
  · cases hv
    refine ⟨cur.toList, ⟨cur, h2, rfl⟩, ?_, h6⟩
    rw [Array.length_toList, h5]
    exact Nat.mul_le_mul_right _ h3
theorem own_set (hs : ∀ x, (enc x).length = size) {l : List α} (h : W.ownsRow base e size (.slice (some ⟨g, 0, none⟩) n c) n (l.flatMap enc)) (hn : l.length = n) {k : Nat} (hk : k < n) (y : α) {cs : List Value} (hr : RowAt W g e cs)
    (h1 : RowAt W1 g e (cs.take (k * size) ++ enc y ++ cs.drop (k * size + (enc y).length))) : W1.ownsRow base e size (.slice (some ⟨g, 0, none⟩) n c) n ((l.set k y).flatMap enc) := by
  have hks : k * size + size ≤ n * size := by rw [show k * size + size = (k + 1) * size by rw [Nat.add_mul, Nat.one_mul]]; exact Nat.mul_le_mul_right _ hk
  rcases h.2 with ⟨hv, _⟩ | ⟨g', cap, cur, hv, h2, h3, h4, h5, h6, h7⟩
  · cases hv
  · cases hv
    obtain ⟨cur2, h8, rfl⟩ := hr
    rw [h3] at h8
    cases h8
    obtain ⟨cur3, h9, h10⟩ := h1
    have hlen : n * size ≤ cur.toList.length := by rw [Array.length_toList, h6]; exact Nat.mul_le_mul_right _ h4
    refine ⟨by rw [flat_len hs, List.length_set, hn], .inr ⟨g, c, cur3, rfl, h2, h9, h4, h5, ?_, ?_⟩⟩
    · rw [← Array.length_toList, h10, hs]
      simp only [List.length_append, List.length_take, List.length_drop, hs]
      rw [Array.length_toList, h6] at hlen ⊢
      omega
    · have e1 : (List.take (n * size) cur.toList).take (k * size) = cur.toList.take (k * size) := by rw [List.take_take, Nat.min_eq_left (by omega)]
      have e2 : (List.take (n * size) cur.toList).drop (k * size + size) = (cur.toList.drop (k * size + size)).take (n * size - (k * size + size)) := by rw [List.drop_take]
      rw [h10, ← flat_set hs y l k (by omega), ← h7, hs, e1, e2, List.append_assoc, List.append_assoc]
      have e3 : (cur.toList.take (k * size)).length = k * size := by rw [List.length_take]; omega
      have e4 : n * size = (cur.toList.take (k * size)).length + ((enc y).length + (n * size - (k * size + size))) := by rw [e3, hs]; omega
      rw [show List.take (n * size) (List.take (k * size) cur.toList ++ (enc y ++ List.drop (k * size + size) cur.toList)) = List.take ((cur.toList.take (k * size)).length + ((enc y).length + (n * size - (k * size + size)))) (List.take (k * size) cur.toList ++ (enc y ++ List.drop (k * size + size) cur.toList)) from by rw [← e4]]
      rw [List.take_length_add_append, List.take_length_add_append]
end
end Go.Proofs.YtebiogaacikphaaW.PrintWords
end
section
namespace Go.Proofs.Ytebiogaacikphaa.Pack
open Go.RowKit Go.Proofs.YtebiogaacikphaaW.PrintWords Go.Proofs.Ytebiogaacikphaa.PAll
set_option linter.unusedVariables false
set_option linter.unusedSimpArgs false
set_option linter.unnecessarySimpa false
def markI (i : Nat) : Ins := { zIns with f1 := -1 - (i : Int) }
def moreI (i : Nat) : Ins := { zIns with f1 := -100000 - (i : Int) }
theorem cells_ins {W : World} {g : Nat} {e : TypeId} {y : Ins} (h : RowAt W g e (insCells y)) : W.cell? ⟨g, 0, none⟩ = some (.int .i64 y.f0) ∧ W.cell? ⟨g, 1, none⟩ = some (.int .i64 y.f1) ∧ W.cell? ⟨g, 2, none⟩ = some (.int .u64 y.f2.f0) ∧ W.cell? ⟨g, 3, none⟩ = some (.int .u64 y.f2.f1) ∧ W.cell? ⟨g, 4, none⟩ = some (.int .u64 y.f2.f2) ∧ W.cell? ⟨g, 5, none⟩ = some (.int .u64 y.f2.f3) ∧ W.cell? ⟨g, 6, none⟩ = some (.string y.f3) :=
  ⟨h.cell 0, h.cell 1, h.cell 2, h.cell 3, h.cell 4, h.cell 5, h.cell 6⟩
/-- The k-th instruction that is seen. -/
theorem sees_ins {W : World} {v : Value} {n k : Nat} {l : List Ins} {y : Ins} (h : Sees W v n (l.flatMap insCells)) (hk : k < n) (hy : l[k]? = some y) : ∃ g c, v = .slice (some ⟨g, 0, none⟩) n c ∧ W.cell? ⟨g, k * 7, none⟩ = some (.int .i64 y.f0) ∧ W.cell? ⟨g, k * 7 + 1, none⟩ = some (.int .i64 y.f1) ∧ W.cell? ⟨g, k * 7 + 2, none⟩ = some (.int .u64 y.f2.f0) ∧ W.cell? ⟨g, k * 7 + 3, none⟩ = some (.int .u64 y.f2.f1) ∧ W.cell? ⟨g, k * 7 + 4, none⟩ = some (.int .u64 y.f2.f2) ∧ W.cell? ⟨g, k * 7 + 5, none⟩ = some (.int .u64 y.f2.f3) ∧ W.cell? ⟨g, k * 7 + 6, none⟩ = some (.string y.f3) := by
  obtain ⟨A, c, rfl, h0⟩ := h
  obtain ⟨g, rfl, h1⟩ := h0 (by omega)
  have hc : ∀ i u, (insCells y)[i]? = some u → W.cell? ⟨g, k * 7 + i, none⟩ = some u := fun i u hi => h1 _ u (flat_get l k y hy i u hi)
  exact ⟨g, c, rfl, hc 0 _ rfl, hc 1 _ rfl, hc 2 _ rfl, hc 3 _ rfl, hc 4 _ rfl, hc 5 _ rfl, hc 6 _ rfl⟩
theorem mark_lit (i : Nat) (hi : i < 3) (w : World) : Calls Try.prog 62 #[.int .i64 i] w fun e w' => e = .returned (.agg #[.int .i64 (markI i).f0, .int .i64 (markI i).f1, .int .u64 (markI i).f2.f0, .int .u64 (markI i).f2.f1, .int .u64 (markI i).f2.f2, .int .u64 (markI i).f2.f3, .string (markI i).f3]) ∧ Below w.heap.size w w' :=
  dowelbook_inssMark.calls i _ _ _ _ _ _ _ w (by rw [dowelbook_inssMark.f]; simp only [markI]; rw [show wrap64 ((-1 : Int) - (i : Int)) = -1 - (i : Int) by rw [w64] <;> omega]; rfl)
theorem more_lit (i : Nat) (hi : i < 3) (w : World) : Calls Try.prog 63 #[.int .i64 i] w fun e w' => e = .returned (.agg #[.int .i64 (moreI i).f0, .int .i64 (moreI i).f1, .int .u64 (moreI i).f2.f0, .int .u64 (moreI i).f2.f1, .int .u64 (moreI i).f2.f2, .int .u64 (moreI i).f2.f3, .string (moreI i).f3]) ∧ Below w.heap.size w w' :=
  dowelbook_inssMore.calls i _ _ _ _ _ _ _ w (by rw [dowelbook_inssMore.f]; simp only [moreI]; rw [show wrap64 ((-100000 : Int) - (i : Int)) = -100000 - (i : Int) by rw [w64] <;> omega]; rfl)
section
variable {base gl : Nat} {w W W' W1 : World} {f f' : Nat → Nat} {As : Nat → Option Addr} {ns Cs : Nat → Nat} {cs : Nat → List Ins} {lo i : Nat} {vg : Value} {us : Nat → Value}
/-- While all are written full. -/
structure F1 (base : Nat) (w W : World) (f : Nat → Nat) (gl : Nat) (As : Nat → Option Addr) (ns Cs : Nat → Nat) (cs : Nat → List Ins) : Prop where
  old : Below base w W
  bs : base ≤ w.heap.size
  row : RowAt W gl 39 [.slice (As 0) (ns 0) (Cs 0), .slice (As 1) (ns 1) (Cs 1), .slice (As 2) (ns 2) (Cs 2)]
  rowt : f gl = 3
  own : ∀ j, j < 3 → W.ownsRow base 78 7 (.slice (As j) (ns j) (Cs j)) (ns j) ((cs j).flatMap insCells)
  tag : ∀ j, j < 3 → Tag W f (.slice (As j) (ns j) (Cs j)) j
  len : ∀ j, j < 3 → (cs j).length = ns j
theorem F1.below (h : F1 base w W f gl As ns Cs cs) (hb : Below W.heap.size W W') : F1 base w W' f gl As ns Cs cs := by
  have s : Step W W' f f 9 := Step.below hb
  exact ⟨h.old.trans (hb.mono (Nat.le_trans h.bs h.old.size)), h.bs, h.row.step (by rw [h.rowt]; decide) s, h.rowt, fun j hj => own_step (h.own j hj) (h.tag j hj) (by omega) s, fun j hj => (h.tag j hj).step s, h.len⟩
theorem F1.put (h : F1 base w W f gl As ns Cs cs) (hi : i < 3) {k : Nat} (hk : k < ns i) (y : Ins) {g : Nat} (hA : As i = some ⟨g, 0, none⟩) {full : List Value} (hr : RowAt W g 78 full)
    (h1 : RowAt W1 g 78 (full.take (k * 7) ++ insCells y ++ full.drop (k * 7 + (insCells y).length))) (hg : W.grownBy W1 (some g)) : F1 base w W1 f gl As ns Cs (fun j => if j = i then (cs i).set k y else cs j) := by
  have ht := h.tag i hi g (by rw [hA]; rfl)
  have s : Step W W1 f f i := Step.grown0 hg (fun k e _ => by injection e with e; rw [← e]; exact ht.2)
  have hob : base ≤ g := own_base (h.own i hi) g (by rw [hA]; rfl)
  refine ⟨pw_below_grown h.old (some g) (Nat.le_trans h.bs h.old.size) hg (fun k e => by injection e with e; omega), h.bs, h.row.step (by rw [h.rowt]; omega) s, h.rowt, fun j hj => ?_, fun j hj => (h.tag j hj).step s, fun j hj => ?_⟩
  · by_cases e : j = i
    · subst e
      simp only [if_true]
      have := h.own j hj
      rw [hA] at this ⊢
      exact own_set insCells_len this (h.len j hj) hk y hr h1
    · simp only [if_neg e]
      exact own_step (h.own j hj) (h.tag j hj) e s
  · by_cases e : j = i
    · subst e
      simp only [if_true, List.length_set]
      exact h.len j hj
    · simp only [if_neg e]
      exact h.len j hj
def full (ns : Nat → Nat) (j : Nat) : List Ins := List.replicate (ns j) (markI j)
/-- While all are grown, one by one. -/
structure F2 (base : Nat) (w W : World) (f : Nat → Nat) (gl : Nat) (As : Nat → Option Addr) (ns Cs : Nat → Nat) (lo i : Nat) (vg : Value) (us : Nat → Value) : Prop where
  old : Below base w W
  bs : base ≤ w.heap.size
  row : RowAt W gl 39 [.slice (As 0) (ns 0) (Cs 0), .slice (As 1) (ns 1) (Cs 1), .slice (As 2) (ns 2) (Cs 2)]
  rowt : f gl = 3
  own : ∀ j, lo ≤ j → j < 3 → W.ownsRow base 78 7 (.slice (As j) (ns j) (Cs j)) (ns j) ((full ns j).flatMap insCells)
  sees : ∀ j, j < 3 → Sees W (.slice (As j) (ns j) (Cs j)) (ns j) ((full ns j).flatMap insCells)
  tag : ∀ j, j < 3 → Tag W f (.slice (As j) (ns j) (Cs j)) j
  gown : W.ownsRow base 39 1 vg i ((List.range i).map us)
  gtag : Tag W f vg 4
  uown : ∀ j, j < i → W.ownsRow base 78 7 (us j) (ns j + 20) ((full ns j ++ List.replicate 20 (moreI j)).flatMap insCells)
  utag : ∀ j, j < i → Tag W f (us j) j
  i3 : i ≤ 3
theorem F1.next (h : F1 base w W f gl As ns Cs cs) (hm : ∀ j, j < 3 → cs j = full ns j) : F2 base w W f gl As ns Cs 0 0 (.slice none 0 0) (fun _ => .slice none 0 0) :=
  ⟨h.old, h.bs, h.row, h.rowt, fun j _ hj => hm j hj ▸ h.own j hj, fun j hj => own_sees (hm j hj ▸ h.own j hj), h.tag, World.ownsRow_nil _ _ _ _, fun k hk => by simp [Value.ownBlock] at hk, fun j hj => absurd hj (by omega), fun j hj => absurd hj (by omega), by omega⟩
theorem F2.below (h : F2 base w W f gl As ns Cs lo i vg us) (hb : Below W.heap.size W W') : F2 base w W' f gl As ns Cs lo i vg us := by
  have s : Step W W' f f 9 := Step.below hb
  have := h.i3
  exact ⟨h.old.trans (hb.mono (Nat.le_trans h.bs h.old.size)), h.bs, h.row.step (by rw [h.rowt]; decide) s, h.rowt, fun j h1 hj => own_step (h.own j h1 hj) (h.tag j hj) (by omega) s, fun j hj => (h.sees j hj).step (h.tag j hj) (by omega) s, fun j hj => (h.tag j hj).step s, own_step h.gown h.gtag (by omega) s, h.gtag.step s, fun j hj => own_step (h.uown j hj) (h.utag j hj) (by omega) s, fun j hj => (h.utag j hj).step s, h.i3⟩
theorem F2.low (h : F2 base w W f gl As ns Cs lo i vg us) {lo' : Nat} (hl : lo ≤ lo') : F2 base w W f gl As ns Cs lo' i vg us :=
  ⟨h.old, h.bs, h.row, h.rowt, fun j h1 hj => h.own j (by omega) hj, h.sees, h.tag, h.gown, h.gtag, h.uown, h.utag, h.i3⟩
/-- One instruction more behind the i-th list. -/
theorem F2.more (h : F2 base w W f gl As ns Cs (i + 1) i vg us) (hi : i < 3) {x x' : Value} {q : Nat} (hx : W.ownsRow base 78 7 x (ns i + q) ((full ns i ++ List.replicate q (moreI i)).flatMap insCells)) (ht : Tag W f x i)
    (hx' : W1.ownsRow base 78 7 x' (ns i + q + 1) ((full ns i ++ List.replicate q (moreI i)).flatMap insCells ++ insCells (moreI i)))
    (hat : (x'.ownBlock = x.ownBlock ∧ W.grownBy W1 x.ownBlock) ∨ ((∃ b, x'.ownBlock = some b ∧ W.heap.size ≤ b) ∧ W.grownBy W1 none)) :
    ∃ f', F2 base w W1 f' gl As ns Cs (i + 1) i vg us ∧ W1.ownsRow base 78 7 x' (ns i + (q + 1)) ((full ns i ++ List.replicate (q + 1) (moreI i)).flatMap insCells) ∧ Tag W1 f' x' i := by
  have hx2 : W1.ownsRow base 78 7 x' (ns i + (q + 1)) ((full ns i ++ List.replicate (q + 1) (moreI i)).flatMap insCells) := by
    rw [List.replicate_succ', ← List.append_assoc, List.flatMap_append, ← Nat.add_assoc]
    simpa using hx'
  obtain ⟨row, hg, hrow⟩ : ∃ row, W.grownBy W1 row ∧ (∀ k, row = some k → x.ownBlock = some k) := by
    rcases hat with ⟨_, hg⟩ | ⟨_, hg⟩
    · exact ⟨_, hg, fun k e => e⟩
    · exact ⟨_, hg, fun k e => by cases e⟩
  have s : Step W W1 f (fun k => if k < W.heap.size then f k else i) i := Step.grown hg (fun k e _ => (ht k (hrow k e)).2)
  have hgl := h.row.lt
  have hsee : Sees W1 (.slice (As i) (ns i) (Cs i)) (ns i) ((full ns i).flatMap insCells) := by
    by_cases hsame : ∃ k, x'.ownBlock = some k ∧ (Value.slice (As i) (ns i) (Cs i)).ownBlock = some k
    · obtain ⟨k, h1, h2⟩ := hsame
      refine ⟨As i, Cs i, rfl, fun hp => ?_⟩
      obtain ⟨A, c, hv, hs⟩ := h.sees i hi
      cases hv
      obtain ⟨g, hA, _⟩ := hs hp
      rw [hA] at h2
      have hgk : g = k := by simpa [Value.ownBlock] using h2
      subst hgk
      refine ⟨g, hA, fun j u hu => ?_⟩
      have := hx2.cells (g := g) h1 j u (by
        rw [List.flatMap_append, List.getElem?_append_left (List.getElem?_eq_some_iff.1 hu).1]
        exact hu)
      rwa [show (⟨g, 0, none⟩ : Addr).add j = ⟨g, j, none⟩ from (by simp [Addr.add]; omega)] at this
    · obtain ⟨A, c, hv, hs⟩ := h.sees i hi
      refine ⟨A, c, hv, fun hp => ?_⟩
      obtain ⟨g, rfl, hs2⟩ := hs hp
      have hob : (Value.slice (As i) (ns i) (Cs i)).ownBlock = some g := by rw [hv]; rfl
      have hgs := (h.tag i hi g hob).1
      refine ⟨g, rfl, fun j u hu => ?_⟩
      have hne : x'.ownBlock ≠ some g := fun e => hsame ⟨g, e, hob⟩
      have hb : W1.heap[g]? = W.heap[g]? := by
        rcases hat with ⟨h1, hg⟩ | ⟨_, hg⟩
        · exact hg.block g hgs (fun e => hne (by rw [h1, ← e]))
        · exact hg.block g hgs (by simp)
      rw [World.cell?_of_block (a := ⟨g, j, none⟩) hb]
      exact hs2 j u hu
  have hob : ∀ k, row = some k → base ≤ k := fun k e => own_base hx k (hrow k e)
  refine ⟨_, ⟨pw_below_grown h.old row (Nat.le_trans h.bs h.old.size) hg hob, h.bs, h.row.step (by rw [h.rowt]; omega) s, by rw [if_pos hgl]; exact h.rowt, fun j h1 hj => own_step (h.own j h1 hj) (h.tag j hj) (by omega) s, fun j hj => ?_, fun j hj => (h.tag j hj).step s, own_step h.gown h.gtag (by omega) s, h.gtag.step s, fun j hj => own_step (h.uown j hj) (h.utag j hj) (by omega) s, fun j hj => (h.utag j hj).step s, h.i3⟩, hx2, fun k hk => ⟨own_lt hx2 k hk, ?_⟩⟩
  · by_cases e : j = i
    · subst e; exact hsee
    · exact (h.sees j hj).step (h.tag j hj) e s
  · show (if k < W.heap.size then f k else i) = i
    by_cases e : k < W.heap.size
    · rw [if_pos e]
      rcases hat with ⟨h1, _⟩ | ⟨⟨b, h1, h2⟩, _⟩
      · exact (ht k (by rw [← h1]; exact hk)).2
      · rw [h1] at hk
        injection hk with hk
        omega
    · rw [if_neg e]
/-- The i-th is grown. -/
theorem F2.done (h : F2 base w W f gl As ns Cs (i + 1) i vg us) (hi : i < 3) {x vg' : Value} (hx : W.ownsRow base 78 7 x (ns i + 20) ((full ns i ++ List.replicate 20 (moreI i)).flatMap insCells)) (ht : Tag W f x i)
    (hg' : W1.ownsRow base 39 1 vg' (i + 1) ((List.range i).map us ++ [x]))
    (hat : (vg'.ownBlock = vg.ownBlock ∧ W.grownBy W1 vg.ownBlock) ∨ ((∃ b, vg'.ownBlock = some b ∧ W.heap.size ≤ b) ∧ W.grownBy W1 none)) :
    ∃ f', F2 base w W1 f' gl As ns Cs (i + 1) (i + 1) vg' (fun j => if j = i then x else us j) := by
  obtain ⟨row, hg, hrow⟩ : ∃ row, W.grownBy W1 row ∧ (∀ k, row = some k → vg.ownBlock = some k) := by
    rcases hat with ⟨_, hg⟩ | ⟨_, hg⟩
    · exact ⟨_, hg, fun k e => e⟩
    · exact ⟨_, hg, fun k e => by cases e⟩
  have s : Step W W1 f (fun k => if k < W.heap.size then f k else 4) 4 := Step.grown hg (fun k e _ => (h.gtag k (hrow k e)).2)
  have hgl := h.row.lt
  have hob : ∀ k, row = some k → base ≤ k := fun k e => own_base h.gown k (hrow k e)
  refine ⟨_, ⟨pw_below_grown h.old row (Nat.le_trans h.bs h.old.size) hg hob, h.bs, h.row.step (by rw [h.rowt]; omega) s, by rw [if_pos hgl]; exact h.rowt, fun j h1 hj => own_step (h.own j h1 hj) (h.tag j hj) (by omega) s, fun j hj => (h.sees j hj).step (h.tag j hj) (by omega) s, fun j hj => (h.tag j hj).step s, ?_, fun k hk => ⟨own_lt hg' k hk, ?_⟩, fun j hj => ?_, fun j hj => ?_, by omega⟩⟩
  · rw [List.range_succ, List.map_append]
    have e1 : (List.range i).map (fun j => if j = i then x else us j) = (List.range i).map us := by
      refine List.map_congr_left (fun j hj => ?_)
      rw [if_neg (by have := List.mem_range.1 hj; omega)]
    rw [e1]
    simpa using hg'
  · show (if k < W.heap.size then f k else 4) = 4
    by_cases e : k < W.heap.size
    · rw [if_pos e]
      rcases hat with ⟨h1, _⟩ | ⟨⟨b, h1, h2⟩, _⟩
      · exact (h.gtag k (by rw [← h1]; exact hk)).2
      · rw [h1] at hk
        injection hk with hk
        omega
    · rw [if_neg e]
  · by_cases e : j = i
    · subst e
      rw [if_pos rfl]
      exact own_step hx ht (by omega) s
    · rw [if_neg e]
      exact own_step (h.uown j (by omega)) (h.utag j (by omega)) (by omega) s
  · by_cases e : j = i
    · subst e
      rw [if_pos rfl]
      exact ht.step s
    · rw [if_neg e]
      exact (h.utag j (by omega)).step s
end
end Go.Proofs.Ytebiogaacikphaa.Pack
end
section
namespace Go.Proofs.Ytebiogaacikphaa.Pack
open Go.RowKit Go.Proofs.YtebiogaacikphaaW.PrintWords Go.Proofs.Ytebiogaacikphaa.PAll
set_option linter.unusedVariables false
set_option linter.unusedSimpArgs false
set_option linter.unnecessarySimpa false
attribute [local go_sem high] eqA78
section
variable {base gl : Nat} {w W : World} {f : Nat → Nat} {As : Nat → Option Addr} {ns Cs : Nat → Nat} {cs : Nat → List Ins} {lo i n : Nat} {vg : Value} {us : Nat → Value}
theorem row3 (h : RowAt W gl 39 [.slice (As 0) (ns 0) (Cs 0), .slice (As 1) (ns 1) (Cs 1), .slice (As 2) (ns 2) (Cs 2)]) (hi : i < 3) : W.cell? ⟨gl, i, none⟩ = some (.slice (As i) (ns i) (Cs i)) := by
  rw [h.cell i]
  obtain rfl | rfl | rfl : i = 0 ∨ i = 1 ∨ i = 2 := by omega
  · rfl
  · rfl
  · rfl
theorem F1.blk (h : F1 base w W f gl As ns Cs cs) (hi : i < 3) {k : Nat} (hk : k < ns i) : ∃ g, As i = some ⟨g, 0, none⟩ := by
  rcases (h.own i hi).2 with ⟨hv, h0⟩ | ⟨g, cap, cur, hv, _⟩
  · omega
  · injection hv with hv
    exact ⟨g, hv⟩
theorem idx_row (gl n m i : Nat) (hi : i < n) (W : World) : (Instr.indexAt 53 (.slice (some ⟨gl, 0, none⟩) n m) (.int .i64 (i : Int))).run Try.prog W = .ok (.pointer (some ⟨gl, i, none⟩)) W := by
  have := run_indexAt_own (P := Try.prog) (t := 53) (size := 1) Try.underlying53 (fun W => by kernel_rfl) gl n m i hi W
  rwa [Nat.mul_one] at this
theorem idx_ins (g n m k : Nat) (hk : k < n) (W : World) : (Instr.indexAt 39 (.slice (some ⟨g, 0, none⟩) n m) (.int .i64 (k : Int))).run Try.prog W = .ok (.pointer (some ⟨g, k * 7, none⟩)) W :=
  run_indexAt_own (P := Try.prog) (t := 39) (size := 7) Try.underlying39 (fun W => by kernel_rfl) g n m k hk W
theorem F2.gat {cg gg m : Nat} (h : F2 base w W f gl As ns Cs lo m (.slice (some ⟨gg, 0, none⟩) m cg) us) (hi : i < m) : W.cell? ⟨gg, i, none⟩ = some (us i) := by
  have := h.gown.cells (g := gg) rfl i (us i) (by rw [List.getElem?_map, List.getElem?_range hi]; rfl)
  rwa [show (⟨gg, 0, none⟩ : Addr).add i = ⟨gg, i, none⟩ from (by simp [Addr.add]; omega)] at this
theorem sees_at {g n c k : Nat} {l : List Ins} {y : Ins} (h : Sees W (.slice (some ⟨g, 0, none⟩) n c) n (l.flatMap insCells)) (hk : k < n) (hy : l[k]? = some y) : W.cell? ⟨g, k * 7, none⟩ = some (.int .i64 y.f0) ∧ W.cell? ⟨g, k * 7 + 1, none⟩ = some (.int .i64 y.f1) ∧ W.cell? ⟨g, k * 7 + 2, none⟩ = some (.int .u64 y.f2.f0) ∧ W.cell? ⟨g, k * 7 + 3, none⟩ = some (.int .u64 y.f2.f1) ∧ W.cell? ⟨g, k * 7 + 4, none⟩ = some (.int .u64 y.f2.f2) ∧ W.cell? ⟨g, k * 7 + 5, none⟩ = some (.int .u64 y.f2.f3) ∧ W.cell? ⟨g, k * 7 + 6, none⟩ = some (.string y.f3) := by
  obtain ⟨g', c', hv, h1⟩ := sees_ins h hk hy
  cases hv
  exact h1
theorem put_insf {P : Program} {ops : Array Oper} {Q : Exit → Act → World → Prop} {rest : List Oper} {a : Act} {o : Oper} {W : World} (hgd : o.guard = none) (hN : o.dst = none) (t : TypeId) (p x : Operand) (ho : o.op = .store t p x) {g : Nat} {e : TypeId} {z : Ins} {f0 f1 a0 a1 a2 a3 : Int} {s : ByteArray} (hp : a.eval p = .pointer (some ⟨g, 0, none⟩)) (hx : a.eval x = .agg #[.int .i64 f0, .int .i64 f1, .int .u64 a0, .int .u64 a1, .int .u64 a2, .int .u64 a3, .string s])
    (hb : RowAt W g e (insCells z)) (hi : (P.info? t).map (·.size) = some 7)
    (h : ∀ w1, RowAt w1 g e (insCells ⟨f0, f1, ⟨a0, a1, a2, a3⟩, s⟩) → W.grownBy w1 (some g) → wpList P ops Q rest a w1) : wpList P ops Q (o :: rest) a W :=
  put_event hgd hN t p x ho (off := 0) (u := .agg #[.int .i64 f0, .int .i64 f1, .int .u64 a0, .int .u64 a1, .int .u64 a2, .int .u64 a3, .string s]) (seg := insCells ⟨f0, f1, ⟨a0, a1, a2, a3⟩, s⟩) hp hx hb rfl (by rw [hi]; rfl) (by simp [insCells]) (by simp [insCells, Value.oneCell']) (fun w1 h1 h2 => h w1 h1 h2)
theorem own_at {e : TypeId} {size : Nat} {v : Value} {xs : List Value} (h : W.ownsRow base e size v n xs) (hp : 0 < n) : ∃ g c, v = .slice (some ⟨g, 0, none⟩) n c := by
  rcases h.2 with ⟨_, h0⟩ | ⟨g, cap, cur, hv, _⟩
  · omega
  · exact ⟨g, cap, hv⟩
theorem want_at (ns : Nat → Nat) (i k : Nat) (h : k < ns i + 20) : (full ns i ++ List.replicate 20 (moreI i))[k]? = some (if k < ns i then markI i else moreI i) := by
  by_cases e : k < ns i
  · rw [if_pos e, List.getElem?_append_left (by rw [full, List.length_replicate]; exact e), full, List.getElem?_replicate, if_pos e]
  · rw [if_neg e, List.getElem?_append_right (by rw [full, List.length_replicate]; omega), List.getElem?_replicate, full, List.length_replicate, if_pos (by omega)]
theorem full_at (ns : Nat → Nat) (i k : Nat) (h : k < ns i) : (full ns i)[k]? = some (markI i) := by rw [full, List.getElem?_replicate, if_pos h]
theorem full_of {l : List Ins} {n : Nat} {y : Ins} (hl : l.length = n) (h : ∀ m, m < n → l[m]? = some y) : l = List.replicate n y := by
  refine List.ext_getElem? (fun m => ?_)
  by_cases hm : m < n
  · rw [h m hm, List.getElem?_replicate, if_pos hm]
  · rw [List.getElem?_eq_none (by omega), List.getElem?_eq_none (by rw [List.length_replicate]; omega)]
end
section
variable (base gl : Nat) (w : World) (f : Nat → Nat) (As : Nat → Option Addr) (ns Cs : Nat → Nat) (cs : Nat → List Ins)
set_option maxHeartbeats 4000000 in
set_option maxRecDepth 100000 in
theorem free_calls (h : F1 base w w f gl As ns Cs cs) (hn : ∀ j, j < 3 → ns j ≤ 1048576) :
    Calls Try.prog 28 #[.slice (some ⟨gl, 0, none⟩) 3 3] w fun x w' => x = .returned (.bool true) ∧ Below base w w' := by
  have HN := Aside0.mk hn
  have HF := Aside0.mk h
  clear h hn
  go_enter Try.func28, Try.ntmps28
  go_wp2
  go_loopw [3] (fun v3 wr => ∃ (i : Nat) (cs : Nat → List Ins), v3 = .int .i64 i ∧ Aside0 (i ≤ 3 ∧ ∀ j, j < i → cs j = full ns j) ∧ Aside0 (F1 base w wr f gl As ns Cs cs)) (fun v3 _ => 3 - (intOf v3).toNat)
  case atStart => exact ⟨0, cs, rfl, ⟨by omega, fun j hj => absurd hj (by omega)⟩, HF⟩
  case round =>
    clear HF
    obtain ⟨i, cs, rfl, HI, HF⟩ := hrel
    by_cases c3 : i < 3
    · have b3 : decide ((i : Int) < 3) = true := decide_eq_true (by omega)
      go_wp2
      go_loopw [4] (fun v4 wr => ∃ (k : Nat) (cs : Nat → List Ins), v4 = .int .i64 k ∧ Aside0 (k ≤ ns i ∧ (∀ j, j < i → cs j = full ns j) ∧ ∀ m, m < k → (cs i)[m]? = some (markI i)) ∧ Aside0 (F1 base w wr f gl As ns Cs cs)) (fun v4 _ => ns i - (intOf v4).toNat)
      case atStart => exact ⟨0, cs, rfl, ⟨Nat.zero_le _, HI.out.2, fun m hm => absurd hm (by omega)⟩, HF⟩
      case round =>
        clear HF HI
        obtain ⟨k, cs, rfl, HI, HF⟩ := hrel
        have hcell := row3 HF.out.row c3
        have hix := idx_row gl 3 3 i c3
        have hn := HN.out i c3
        by_cases ck : k < ns i
        · have bk : decide ((k : Int) < (ns i : Int)) = true := decide_eq_true (by omega)
          obtain ⟨g, hA⟩ := HF.out.blk c3 ck
          have hixk : ∀ W : World, (Instr.indexAt 39 (.slice (As i) (ns i) (Cs i)) (.int .i64 (k : Int))).run Try.prog W = .ok (.pointer (some ⟨g, k * 7, none⟩)) W := fun W => by rw [hA]; exact idx_ins g (ns i) (Cs i) k ck W
          have HA := Aside0.mk hA
          have HLEN := Aside0.mk (HF.out.len i c3)
          clear hA
          go_wp2
          refine wp_region_held_drew (S := fun W => ∃ cs', F1 base w W f gl As ns Cs cs') (by kernel_rfl) ⟨_, HF.out.below (below_drew (Below.refl _ _))⟩ (fun hH => ?_)
          have n1_ := HF.out.below (below_drew (Below.refl wr.heap.size wr))
          (clear HF; have HF := Aside0.mk n1_; clear n1_)
          clear hcell
          generalize wr.drew = w5 at *
          refine wpAnyH_take (i := 0) (oi := _) (v := .slice (some ⟨gl, 0, none⟩) 3 3) rfl (by kernel_rfl) (by kernel_rfl) (by kernel_rfl) (fun _ _ _ h => h) (Or.inl ⟨by rfl, fun w hw => by go_simp⟩) hH ?_; simp only [List.getElem_toArray, List.getElem_cons_zero, List.getElem_cons_succ, Act.put, List.setIfInBounds_toArray, List.set_cons_zero, List.set_cons_succ]
          refine wpAnyH_take (i := 1) (oi := _) (v := .int .i64 (i : Int)) rfl (by kernel_rfl) (by kernel_rfl) (by kernel_rfl) (fun _ _ _ h => h) (Or.inl ⟨by rfl, fun w hw => by go_simp⟩) hH ?_; simp only [List.getElem_toArray, List.getElem_cons_zero, List.getElem_cons_succ, Act.put, List.setIfInBounds_toArray, List.set_cons_zero, List.set_cons_succ]
          refine wpAnyH_take (i := 2) (oi := _) (v := .pointer (some ⟨gl, i, none⟩)) rfl (by kernel_rfl) (by kernel_rfl) (by kernel_rfl) (fun _ _ _ h => h) (Or.inl ⟨by rfl, fun w hw => by have := hix w; go_simp⟩) hH ?_; simp only [List.getElem_toArray, List.getElem_cons_zero, List.getElem_cons_succ, Act.put, List.setIfInBounds_toArray, List.set_cons_zero, List.set_cons_succ]
          refine wpAnyH_take (i := 3) (oi := _) (v := .slice (As i) (ns i) (Cs i)) rfl (by kernel_rfl) (by kernel_rfl) (by kernel_rfl) (fun _ _ _ h => h) (Or.inl ⟨by rfl, fun w hw => by obtain ⟨_, hw2⟩ := hw; have := row3 hw2.row c3; go_simp⟩) hH ?_; simp only [List.getElem_toArray, List.getElem_cons_zero, List.getElem_cons_succ, Act.put, List.setIfInBounds_toArray, List.set_cons_zero, List.set_cons_succ]
          refine wpAnyH_take (i := 4) (oi := _) (v := .int .i64 (k : Int)) rfl (by kernel_rfl) (by kernel_rfl) (by kernel_rfl) (fun _ _ _ h => h) (Or.inl ⟨by rfl, fun w hw => by go_simp⟩) hH ?_; simp only [List.getElem_toArray, List.getElem_cons_zero, List.getElem_cons_succ, Act.put, List.setIfInBounds_toArray, List.set_cons_zero, List.set_cons_succ]
          refine wpAnyH_take (i := 5) (oi := _) (v := .int .i64 (i : Int)) rfl (by kernel_rfl) (by kernel_rfl) (by kernel_rfl) (fun _ _ _ h => h) (Or.inl ⟨by rfl, fun w hw => by go_simp⟩) hH ?_; simp only [List.getElem_toArray, List.getElem_cons_zero, List.getElem_cons_succ, Act.put, List.setIfInBounds_toArray, List.set_cons_zero, List.set_cons_succ]
          refine wpAnyH_ready (rs := [6]) (by kernel_rfl) (by simp) ?_; refine AllReadyH.cons (o := _) rfl (fun K hK => ?_) AllReadyH.nil
          refine rstep_call (w1 := w5) (by rfl) (by go_simp) (mark_lit i c3 w5) ?_
          rintro _ w6 ⟨rfl, hb6⟩
          refine ⟨_, rfl, ?_⟩
          have n1_ := HF.out.below hb6
          (clear HF; have HF := Aside0.mk n1_; clear n1_)
          clear hH
          have hH : ∃ cs', F1 base w w6 f gl As ns Cs cs' := ⟨_, HF.out⟩
          refine hK.out _ _ hH (fun _ => ?_)
          clear hK K hb6
          simp only [List.getElem_toArray, List.getElem_cons_zero, List.getElem_cons_succ, Act.put, List.setIfInBounds_toArray, List.set_cons_zero, List.set_cons_succ]
          refine wpAnyH_take (i := 7) (oi := _) (v := .pointer (some ⟨g, k * 7, none⟩)) rfl (by kernel_rfl) (by kernel_rfl) (by kernel_rfl) (fun _ _ _ h => h) (Or.inl ⟨by rfl, fun w hw => by have := hixk w; go_simp⟩) hH ?_; simp only [List.getElem_toArray, List.getElem_cons_zero, List.getElem_cons_succ, Act.put, List.setIfInBounds_toArray, List.set_cons_zero, List.set_cons_succ]
          obtain ⟨fl, hr, hfl, _⟩ := own_row (by have := HF.out.own i c3; rw [HA.out] at this; exact this)
          refine wpAnyH_ready (rs := [8]) (by kernel_rfl) (by simp) ?_; refine AllReadyH.cons (o := _) rfl (fun K hK => ?_) AllReadyH.nil
          refine rstep_store (by rfl) 78 (.tmp 34) (.tmp 33) rfl (g := g) (off := k * 7) (cs := fl) (seg := insCells (markI i)) rfl rfl hr rfl (by kernel_rfl) (by rw [insCells_len]; omega) (by simp [insCells, Value.oneCell']) ?_
          intro w7 hrow hgr
          have n1_ := HF.out.put c3 ck (markI i) HA.out hr hrow hgr
          (clear HF; have HF := Aside0.mk n1_; clear n1_)
          clear hH hr hrow hgr
          have hH : ∃ cs', F1 base w w7 f gl As ns Cs cs' := ⟨_, HF.out⟩
          refine hK.out _ _ hH (fun _ => ?_)
          clear hK K
          simp only [List.getElem_toArray, List.getElem_cons_zero, List.getElem_cons_succ, Act.put, List.setIfInBounds_toArray, List.set_cons_zero, List.set_cons_succ]
          refine wpAnyH_done (by kernel_rfl) ?_ _
          clear hH hix hixk
          go_wp2
          go_roundw
          case measure => simp [intOf]; omega
          case rel =>
            refine ⟨k + 1, _, by go_num, ⟨by omega, fun j hj => ?_, fun m hm => ?_⟩, HF⟩
            · show (if j = i then (cs i).set k (markI i) else cs j) = _
              rw [if_neg (by omega)]
              exact HI.out.2.1 j hj
            · show (if i = i then (cs i).set k (markI i) else cs i)[m]? = _
              rw [if_pos rfl, List.getElem?_set]
              by_cases e : k = m
              · rw [if_pos e, if_pos (by have := HLEN.out; omega)]
              · rw [if_neg e]
                exact HI.out.2.2 m (by omega)
        · have bk : decide ((k : Int) < (ns i : Int)) = false := decide_eq_false (by omega)
          have hfull : cs i = full ns i := full_of (HF.out.len i c3) (fun m hm => HI.out.2.2 m (by have := HI.out.1; omega))
          have HFU := Aside0.mk hfull
          clear hfull
          go_wp2
          go_roundw
          case measure => simp [intOf]; omega
          case rel =>
            refine ⟨i + 1, cs, by go_num, ⟨by omega, fun j hj => ?_⟩, HF⟩
            by_cases e : j = i
            · rw [e]; exact HFU.out
            · exact HI.out.2.1 j (by omega)
    · have b3 : decide ((i : Int) < 3) = false := decide_eq_false (by omega)
      have n1_ := Aside0.mk (HF.out.next (fun j hj => HI.out.2 j (by omega)))
      clear HF HI
      have HF := n1_
      clear n1_ c3
      go_wp2
      go_loopw [5, 6] (fun v5 v6 wr => ∃ (i : Nat) (f : Nat → Nat) (us : Nat → Value), v6 = .int .i64 i ∧ Aside0 (F2 base w wr f gl As ns Cs i i v5 us)) (fun _ v6 _ => 3 - (intOf v6).toNat)
      case atStart => exact ⟨0, f, _, rfl, HF⟩
      case round =>
        clear HF
        obtain ⟨i, f, us, rfl, HF⟩ := hrel
        obtain ⟨Ag, cg, rfl⟩ := own_len HF.out.gown
        by_cases c3 : i < 3
        · have b3 : decide ((i : Int) < 3) = true := decide_eq_true (by omega)
          have hcell := row3 HF.out.row c3
          have hix := idx_row gl 3 3 i c3
          go_wp2
          go_loopw [7, 8] (fun v7 v8 wr => ∃ (q : Nat) (f : Nat → Nat), v8 = .int .i64 q ∧ Aside0 (q ≤ 20) ∧ Aside0 (F2 base w wr f gl As ns Cs (i + 1) i (.slice Ag i cg) us) ∧ Aside0 (wr.ownsRow base 78 7 v7 (ns i + q) ((full ns i ++ List.replicate q (moreI i)).flatMap insCells)) ∧ Aside0 (Tag wr f v7 i)) (fun _ v8 _ => 20 - (intOf v8).toNat)
          case atStart => exact ⟨0, f, rfl, ⟨by omega⟩, ⟨HF.out.low (by omega)⟩, ⟨by simpa using HF.out.own i (Nat.le_refl _) c3⟩, ⟨HF.out.tag i c3⟩⟩
          case round =>
            clear HF hcell hix
            obtain ⟨q, f, rfl, HQ, HF, HX, HT⟩ := hrel
            obtain ⟨Ax, cx, rfl⟩ := own_len HX.out
            have HNI := Aside0.mk (HN.out i c3)
            by_cases c20 : q < 20
            · have b20 : decide ((q : Int) < 20) = true := decide_eq_true (by omega)
              go_wp2_with (first
                | (go_at_call 63; refine (more_lit i c3 _).mono ?_; rintro xx w4 ⟨rfl, hb⟩; have n1_ := Aside0.mk (HF.out.below hb); have n2_ := Aside0.mk (own_kept HX.out (fun k hk => hb.block k (own_lt HX.out k hk))); have n3_ := Aside0.mk (HT.out.step (Step.below (i := 9) hb)); clear HF HX HT hb; have HF := n1_; have HX := n2_; have HT := n3_; clear n1_ n2_ n3_)
                | ((with_reducible refine gate_builtin (b := .append) (xs := #[.tmp 49, .tmp 52]) rfl ?_); at_builtin; refine append_event base rfl (.tmp 49) (.tmp 52) 39 78 (.agg #[.int .i64 0, .int .i64 0, .int .u64 0, .int .u64 0, .int .u64 0, .int .u64 0, .string (⟨#[]⟩ : ByteArray)]) 7 64 rfl Try.underlying39 (by kernel_rfl) rfl (by decide) (by decide) (.slice Ax (ns i + q) cx) (ns i + q) ((full ns i ++ List.replicate q (moreI i)).flatMap insCells) (insCells (moreI i)) rfl rfl rfl (by simp [insCells, Value.oneCell']) HX.out (Nat.le_trans HF.out.bs HF.out.old.size) (by have := HNI.out; omega) ?_; intro v1 w5 hown hat; obtain ⟨f', n1, n2, n3⟩ := HF.out.more c3 HX.out HT.out hown hat; clear HF HX HT hown hat; have HF := Aside0.mk n1; have HX := Aside0.mk n2; have HT := Aside0.mk n3; clear n1 n2 n3))
              go_roundw
              case measure => simp [intOf]; omega
              case rel => exact ⟨q + 1, f', by go_num, ⟨by omega⟩, HF, HX, HT⟩
            · have b20 : decide ((q : Int) < 20) = false := decide_eq_false (by omega)
              have HQ20 := Aside0.mk (show q = 20 by have := HQ.out; omega)
              clear c20
              go_wp2_with (first
                | ((with_reducible refine gate_builtin (b := .append) (xs := #[.tmp 54, .tmp 56]) rfl ?_); at_builtin; refine append_event base rfl (.tmp 54) (.tmp 56) 53 39 (.slice none 0 0) 1 24 rfl Try.underlying53 (by kernel_rfl) rfl (by decide) (by decide) (.slice Ag i cg) i ((List.range i).map us) [.slice Ax (ns i + q) cx] rfl rfl rfl (by simp [Value.oneCell']) HF.out.gown (Nat.le_trans HF.out.bs HF.out.old.size) (by omega) ?_; intro v1 w5 hown hat; obtain ⟨f', n1⟩ := HF.out.done c3 (by have := HX.out; rw [HQ20.out] at this ⊢; exact this) HT.out hown hat; clear HF HX HT hown hat; have HF := Aside0.mk n1; clear n1))
              go_roundw
              case measure => simp [intOf]; omega
              case rel => exact ⟨i + 1, f', _, by go_num, HF⟩
        · have b3 : decide ((i : Int) < 3) = false := decide_eq_false (by omega)
          have HM3 := Aside0.mk (show i = 3 by have := HF.out.i3; omega)
          obtain ⟨gg, cg', hv⟩ := own_at HF.out.gown (by omega)
          cases hv
          clear c3
          go_wp2
          go_loopw [9] (fun v9 wr => ∃ (p : Nat), v9 = .int .i64 p ∧ Aside0 (p ≤ 3) ∧ Aside0 (F2 base w wr f gl As ns Cs i i (.slice (some ⟨gg, 0, none⟩) i cg) us)) (fun v9 _ => 3 - (intOf v9).toNat)
          case atStart => exact ⟨0, rfl, ⟨by omega⟩, HF⟩
          case round =>
            clear HF
            obtain ⟨p, rfl, HP, HF⟩ := hrel
            by_cases c3 : p < 3
            · have b3 : decide ((p : Int) < 3) = true := decide_eq_true (by omega)
              have hpi : p < i := by have := HM3.out; omega
              obtain ⟨m, hm⟩ : ∃ m, m = ns p + 20 := ⟨_, rfl⟩
              obtain ⟨gu, cu, hu⟩ := own_at (HF.out.uown p hpi) (by omega)
              rw [← hm] at hu
              have HM := Aside0.mk hm
              have HU := Aside0.mk hu
              have HNP := Aside0.mk (HN.out p c3)
              clear hm hu
              go_wp2
              go_loopw [10] (fun v10 wr => ∃ (k : Nat), v10 = .int .i64 k ∧ Aside0 (k ≤ m) ∧ Aside0 (F2 base w wr f gl As ns Cs i i (.slice (some ⟨gg, 0, none⟩) i cg) us)) (fun v10 _ => m - (intOf v10).toNat)
              case atStart => exact ⟨0, rfl, ⟨by omega⟩, HF⟩
              case round =>
                clear HF
                obtain ⟨k, rfl, HK, HF⟩ := hrel
                have km : (k : Int) ≤ 1048600 := by have := HK.out; have := HM.out; have := HNP.out; omega
                have hixl := idx_row gl 3 3 p c3
                have hixg := idx_row gg i cg p hpi
                have hcell := row3 HF.out.row c3
                have hgc := (HF.out.gat hpi).trans (congrArg some HU.out)
                by_cases ck : k < m
                · have bk : decide ((k : Int) < (m : Int)) = true := decide_eq_true (by omega)
                  have hixu := idx_ins gu m cu k ck
                  by_cases kn : k < ns p
                  · have b1 : decide ((k : Int) ≥ (ns p : Int)) = false := decide_eq_false (by omega)
                    have b2 : decide ((k : Int) < (ns p : Int)) = true := decide_eq_true (by omega)
                    go_wp2_with (first
                      | (go_at_call 62; refine (mark_lit p c3 _).mono ?_; rintro xx w4 ⟨rfl, hb⟩; have HB := Aside0.mk hb; clear hcell hgc hb; have hcell := row3 (HF.out.below HB.out).row c3; have hgc := ((HF.out.below HB.out).gat hpi).trans (congrArg some HU.out))
                      | ((with_reducible refine gate_dst (N := 11) rfl ?_); refine box_event (N := 11) rfl rfl (cs := #[.int .i64 0, .int .i64 0, .int .u64 0, .int .u64 0, .int .u64 0, .int .u64 0, .string (⟨#[]⟩ : ByteArray)]) (t := 78) ?hr2 ?_; (case hr2 => first | (go_simp; done) | (go_simp; rfl)); intro g11 hg11 w1 hbox hb1; have H11 := Aside0.mk (show RowAt w1 g11 78 (insCells zIns) from ⟨_, hbox, rfl⟩); have HG11 := Aside0.mk (show wr.heap.size ≤ g11 by have := HB.out.size; omega); have n1_ := Aside0.mk (below_step HB.out hb1); clear HB hcell hgc hbox hb1 hg11; have HB := n1_; clear n1_; have hcell := row3 (HF.out.below HB.out).row c3; have hgc := ((HF.out.below HB.out).gat hpi).trans (congrArg some HU.out))
                      | ((with_reducible refine gate_store (t := 78) (p := 11) rfl ?_); refine put_insf rfl rfl 78 (.tmp 11) (.tmp 74) rfl rfl rfl H11.out (by kernel_rfl) ?_; intro w5 hrow hgr; have n1_ := Aside0.mk (pw_below_grown HB.out (some g11) HB.out.size hgr (fun k hk => by injection hk with hk; have := HG11.out; omega)); clear HB H11 hcell hgc hgr; have HB := n1_; clear n1_; have H11 := Aside0.mk (show RowAt w5 g11 78 (insCells (markI p)) from hrow); clear hrow; have hcell := row3 (HF.out.below HB.out).row c3; have hgc := ((HF.out.below HB.out).gat hpi).trans (congrArg some HU.out)))
                    have hS := own_sees ((HF.out.below HB.out).uown p hpi)
                    rw [HU.out, ← HM.out] at hS
                    obtain ⟨y0, y1, y2, y3, y4, y5, y6⟩ := sees_at hS ck (y := markI p) (by rw [want_at ns p k (by have := HM.out; omega), if_pos kn])
                    obtain ⟨q0, q1, q2, q3, q4, q5, q6⟩ := cells_ins H11.out
                    obtain ⟨gv, cv, hv, z0, z1, z2, z3, z4, z5, z6⟩ := sees_ins ((HF.out.below HB.out).sees p c3) kn (full_at ns p k kn)
                    have hAp : As p = some ⟨gv, 0, none⟩ := by injection hv
                    have hixv : ∀ W : World, (Instr.indexAt 39 (.slice (As p) (ns p) (Cs p)) (.int .i64 (k : Int))).run Try.prog W = .ok (.pointer (some ⟨gv, k * 7, none⟩)) W := fun W => by rw [hAp]; exact idx_ins gv (ns p) (Cs p) k kn W
                    clear hv hAp
                    generalize markI p = y at *
                    clear hS
                    go_quiet (fail)
                    have n1_ := Aside0.mk (HF.out.below (pw_below_drewN HB.out nq))
                    clear HF HB hcell hgc H11 y0 y1 y2 y3 y4 y5 y6 q0 q1 q2 q3 q4 q5 q6
                    have HF := n1_
                    clear n1_
                    go_wp2
                    go_roundw
                    case measure => simp [intOf]; omega
                    case rel => exact ⟨k + 1, by go_num, ⟨by omega⟩, HF⟩
                  · have b1 : decide ((k : Int) ≥ (ns p : Int)) = true := decide_eq_true (by omega)
                    have b2 : decide ((k : Int) < (ns p : Int)) = false := decide_eq_false (by omega)
                    go_wp2_with (first
                      | (go_at_call 62; refine (mark_lit p c3 _).mono ?_; rintro xx w4 ⟨rfl, hb⟩; have HB := Aside0.mk hb; clear hcell hgc hb; have hcell := row3 (HF.out.below HB.out).row c3; have hgc := ((HF.out.below HB.out).gat hpi).trans (congrArg some HU.out))
                      | ((with_reducible refine gate_dst (N := 11) rfl ?_); refine box_event (N := 11) rfl rfl (cs := #[.int .i64 0, .int .i64 0, .int .u64 0, .int .u64 0, .int .u64 0, .int .u64 0, .string (⟨#[]⟩ : ByteArray)]) (t := 78) ?hr2 ?_; (case hr2 => first | (go_simp; done) | (go_simp; rfl)); intro g11 hg11 w1 hbox hb1; have H11 := Aside0.mk (show RowAt w1 g11 78 (insCells zIns) from ⟨_, hbox, rfl⟩); have HG11 := Aside0.mk (show wr.heap.size ≤ g11 by have := HB.out.size; omega); have n1_ := Aside0.mk (below_step HB.out hb1); clear HB hcell hgc hbox hb1 hg11; have HB := n1_; clear n1_; have hcell := row3 (HF.out.below HB.out).row c3; have hgc := ((HF.out.below HB.out).gat hpi).trans (congrArg some HU.out))
                      | ((with_reducible refine gate_store (t := 78) (p := 11) rfl ?_); refine put_insf rfl rfl 78 (.tmp 11) (.tmp 74) rfl rfl rfl H11.out (by kernel_rfl) ?_; intro w5 hrow hgr; have n1_ := Aside0.mk (pw_below_grown HB.out (some g11) HB.out.size hgr (fun k hk => by injection hk with hk; have := HG11.out; omega)); clear HB H11 hcell hgc hgr; have HB := n1_; clear n1_; have H11 := Aside0.mk (show RowAt w5 g11 78 (insCells (markI p)) from hrow); clear hrow; have hcell := row3 (HF.out.below HB.out).row c3; have hgc := ((HF.out.below HB.out).gat hpi).trans (congrArg some HU.out))
                      | (go_at_call 63; refine (more_lit p c3 _).mono ?_; rintro xx w4 ⟨rfl, hb⟩; have n1_ := Aside0.mk (below_step HB.out hb); have n2_ := Aside0.mk (H11.out.below hb); clear HB H11 hcell hgc hb; have HB := n1_; have H11 := n2_; clear n1_ n2_; have hcell := row3 (HF.out.below HB.out).row c3; have hgc := ((HF.out.below HB.out).gat hpi).trans (congrArg some HU.out))
                      | ((with_reducible refine gate_store (t := 78) (p := 11) rfl ?_); refine put_insf rfl rfl 78 (.tmp 11) (.tmp 83) rfl rfl rfl H11.out (by kernel_rfl) ?_; intro w5 hrow hgr; have n1_ := Aside0.mk (pw_below_grown HB.out (some g11) HB.out.size hgr (fun k hk => by injection hk with hk; have := HG11.out; omega)); clear HB H11 hcell hgc hgr; have HB := n1_; clear n1_; have H11 := Aside0.mk (show RowAt w5 g11 78 (insCells (moreI p)) from hrow); clear hrow; have hcell := row3 (HF.out.below HB.out).row c3; have hgc := ((HF.out.below HB.out).gat hpi).trans (congrArg some HU.out)))
                    have hS := own_sees ((HF.out.below HB.out).uown p hpi)
                    rw [HU.out, ← HM.out] at hS
                    obtain ⟨y0, y1, y2, y3, y4, y5, y6⟩ := sees_at hS ck (y := moreI p) (by rw [want_at ns p k (by have := HM.out; omega), if_neg kn])
                    obtain ⟨q0, q1, q2, q3, q4, q5, q6⟩ := cells_ins H11.out
                    generalize moreI p = y at *
                    clear hS
                    go_quiet (fail)
                    have n1_ := Aside0.mk (HF.out.below (pw_below_drewN HB.out nq))
                    clear HF HB hcell hgc H11 y0 y1 y2 y3 y4 y5 y6 q0 q1 q2 q3 q4 q5 q6
                    have HF := n1_
                    clear n1_
                    go_wp2
                    go_roundw
                    case measure => simp [intOf]; omega
                    case rel => exact ⟨k + 1, by go_num, ⟨by omega⟩, HF⟩
                · have bk : decide ((k : Int) < (m : Int)) = false := decide_eq_false (by omega)
                  go_wp2
                  go_roundw
                  case measure => simp [intOf]; omega
                  case rel => exact ⟨p + 1, by go_num, ⟨by omega⟩, HF⟩
            · have b3 : decide ((p : Int) < 3) = false := decide_eq_false (by omega)
              go_wp2
              go_ret
              exact ⟨rfl, HF.out.old⟩
end
end Go.Proofs.Ytebiogaacikphaa.Pack
end
section
namespace Go.Proofs.Ytebiogaacikphaa.Pack
open Go.RowKit Go.Proofs.YtebiogaacikphaaW.PrintWords Go.Proofs.Ytebiogaacikphaa.PAll
set_option linter.unusedVariables false
set_option linter.unusedSimpArgs false
theorem bytes_loop (l : List Int) (hl : l.length ≤ 140737488351232) : ∀ d i : Nat, i + d = l.length → Ev (fun k => dowelbook_Bytes.l0 k l l (i : Int)) true
  | 0, i, h => by
    refine Ev.step (fun _ => by rw [dowelbook_Bytes.l0]) ?_
    exact Ev.neg (by omega) (Ev.some_ rfl)
  | d + 1, i, h => by
    have ih := bytes_loop l hl d (i + 1) (by omega)
    refine Ev.step (fun _ => by rw [dowelbook_Bytes.l0]) ?_
    refine Ev.pos (by omega) (Ev.pos (by omega) (Ev.pos (by omega) (Ev.pos rfl ?_)))
    rw [show wrap64 ((i : Int) + 1) = ((i + 1 : Nat) : Int) by rw [w64] <;> omega]
    exact ih
theorem bytes_ev (l : List Int) (hl : l.length ≤ 140737488351232) : Ev (fun k => dowelbook_Bytes.f k l l) true := by
  unfold dowelbook_Bytes.f
  exact Ev.pos rfl (bytes_loop l hl l.length 0 (by omega))
theorem bytes_lit (A : Option Addr) (c : Nat) (A2 : Option Addr) (c2 : Nat) (l : List Int) (w : World) (h : Kd.C (Kd.int .u8) w A l.length l) (hc : l.length ≤ c) (h2 : Kd.C (Kd.int .u8) w A2 l.length l) (hc2 : l.length ≤ c2) (hl : l.length ≤ 140737488351232) :
    Calls Try.prog 37 #[.slice A l.length c, .slice A2 l.length c2] w fun e w' => e = .returned (.bool true) ∧ Drawn0 w w' := by
  obtain ⟨k, hk⟩ := bytes_ev l hl
  exact dowelbook_Bytes.calls k A c l A2 c2 l true w h hc h2 hc2 (hk k (Nat.le_refl _))
theorem szByte : ∀ W : World, (sizeOf (Try.prog.elem 37)).run Try.prog W = .ok 1 W := fun W => by kernel_rfl
set_option maxRecDepth 100000 in
theorem cut_more (g n : Nat) (W : World) : (Instr.slice 37 (.slice (some ⟨g, 0, none⟩) n (n + 2)) none (some (.int .i64 ((n + 2 : Nat) : Int))) none).run Try.prog W = .ok (.slice (some ⟨g, 0, none⟩) (n + 2) (n + 2)) W :=
  run_slice_own (P := Try.prog) (t := 37) (size := 1) (by kernel_rfl) szByte g n (n + 2) (n + 2) (Nat.le_refl _) W
theorem lent_C {w : World} {g : Nat} {l r : List Int} (h : RowAt w g 5 (l.map (Value.int .u8) ++ r.map (Value.int .u8))) (hl : l.length ≤ 9223372036854775807) : Kd.C (Kd.int .u8) w (some ⟨g, 0, none⟩) l.length l := by
  refine Kd.C_of_reads (d := (0 : Int)) (enc := Value.int .u8) (h1 := fun _ => rfl) ⟨rfl, hl, fun _ => ⟨_, rfl, fun j hj => ?_⟩⟩
  rw [show (⟨g, 0, none⟩ : Addr).add j = ⟨g, j, none⟩ from (by simp [Addr.add]; omega), h.cell j, List.getElem?_append_left (by simpa using hj), List.getElem?_map, List.getElem?_eq_getElem hj, List.getD_eq_getElem?_getD, List.getElem?_eq_getElem hj]
  rfl
section
variable (w : World) (g : Nat) (A : Option Addr) (c : Nat) (b : List Int)
set_option maxHeartbeats 2000000 in
theorem kept_calls (hrow : RowAt w g 5 (b.map (Value.int .u8) ++ [.int .u8 171, .int .u8 172])) (hr : Kd.C (Kd.int .u8) w A b.length b) (hc : b.length ≤ c) (hl : b.length ≤ 16777216) :
    Calls Try.prog 27 #[.slice (some ⟨g, 0, none⟩) b.length (b.length + 2), .slice A b.length c] w fun e w' => e = .returned (.bool true) ∧ Drawn0 w w' := by
  have h1 := hrow.cell b.length
  have h2 := hrow.cell (b.length + 1)
  rw [List.getElem?_append_right (by simp), List.length_map, Nat.sub_self] at h1
  rw [List.getElem?_append_right (by simp), List.length_map, Nat.add_sub_cancel_left] at h2
  have HR := Aside0.mk hr
  have HC := Aside0.mk hc
  have HD := Aside0.mk (lent_C (r := [171, 172]) hrow (by omega))
  clear hrow hr hc
  obtain ⟨n, hn⟩ : ∃ n, b.length = n := ⟨_, rfl⟩
  have HBL := Aside0.mk (fun W => bytes_lit (some ⟨g, 0, none⟩) (b.length + 2) A c b W)
  rw [hn] at HBL h1 h2 hl HR HC HD ⊢
  clear hn
  have hw1 : IntKind.i64.wrap ((n : Int) + 1) = ((n + 1 : Nat) : Int) := by rw [IntWalk.i64_in _ (by omega)]; omega
  have hw2 : IntKind.i64.wrap ((n : Int) + 2) = ((n + 2 : Nat) : Int) := by rw [IntWalk.i64_in _ (by omega)]; omega
  have hcut := cut_more g n
  have hi1 := idx_own g (n + 2) n (by omega)
  have hi2 := idx_own g (n + 2) (n + 1) (by omega)
  go_enter Try.func27, Try.ntmps27
  go_wp2_with (first
    | (go_at_call 37; refine (HBL.out _ HD.out (by omega) HR.out HC.out (by omega)).mono ?_; rintro xx w4 ⟨rfl, hd⟩; obtain ⟨m, rfl⟩ := hd.out; clear hd))
  go_ret
  exact ⟨rfl, ⟨_, rfl⟩⟩
end
end Go.Proofs.Ytebiogaacikphaa.Pack
end
