/- Rows of cells in blocks of the call's own, as lists of cells: make, copy and stores as events; and the readings of elements without inner memory. No condition beyond each lemma's own. -/
import Derived.Test.YtebiogaacikphaaMap
import Derived.Laws.MakeOwn
import Derived.Laws.CopyRow
import Derived.Laws.Slices
namespace Go.Proofs.YtebiogaacikphaaW.PrintWords
open Go.RowKit
/-- Block g of w is a row of these cells, of type e, of which none is frozen. -/
def RowAt (w : World) (g : Nat) (e : TypeId) (cs : List Value) : Prop := ∃ cur : Array Value, w.heap[g]? = some (.cells cur e (0, 0)) ∧ cur.toList = cs
section
variable {w w' : World} {g : Nat} {e : TypeId} {cs : List Value}
theorem RowAt.lt (h : RowAt w g e cs) : g < w.heap.size := by obtain ⟨c, h, _⟩ := h; exact blk_lt h
theorem RowAt.kept (h : RowAt w g e cs) (hb : w'.heap[g]? = w.heap[g]?) : RowAt w' g e cs := by obtain ⟨c, h, h2⟩ := h; exact ⟨c, hb.trans h, h2⟩
theorem RowAt.below (h : RowAt w g e cs) (hb : Below w.heap.size w w') : RowAt w' g e cs := h.kept (hb.block g h.lt)
theorem RowAt.grown (h : RowAt w g e cs) {row : Option Nat} (hg : w.grownBy w' row) (hne : some g ≠ row) : RowAt w' g e cs := h.kept (hg.block g h.lt hne)
theorem RowAt.cell (h : RowAt w g e cs) (i : Nat) : w.cell? ⟨g, i, none⟩ = cs[i]? := by
  obtain ⟨c, h, h2⟩ := h
  rw [blk_cell h, ← h2]
  simp
theorem RowAt.frozen (h : RowAt w g e cs) (i : Nat) : w.frozen? ⟨g, i, none⟩ = false := by obtain ⟨c, h, _⟩ := h; exact blk_frozen h i
theorem RowAt.det (h : RowAt w g e cs) {e' : TypeId} {cs' : List Value} (h' : RowAt w g e' cs') : cs = cs' ∧ e = e' := by
  obtain ⟨c, h, rfl⟩ := h
  obtain ⟨c', h', rfl⟩ := h'
  rw [h] at h'
  injection h' with h'
  injection h' with h1 h2
  exact ⟨by rw [h1], h2⟩
end
section
variable {P : Program} {ops : Array Oper} {rest : List Oper} {o : Oper} {a : Act} {Q : Exit → Act → World → Prop}
theorem madeCells_list (z : Array Value) (n : Nat) : (madeCells z (n * z.size)).toList = (List.replicate n z.toList).flatten := by
  unfold madeCells
  simp only [Array.toList_map, Array.toList_range]
  induction n with
  | zero => simp
  | succ n ih =>
    rw [Nat.succ_mul, List.range_add, List.map_append, ih, List.replicate_succ']
    simp only [List.flatten_append, List.flatten_cons, List.flatten_nil, List.append_nil]
    congr 1
    apply List.ext_getElem
    · simp
    · intro i h1 h2
      simp only [List.map_map, List.getElem_map, List.getElem_range, Function.comp, Array.getElem_toList]
      simp at h2
      rw [Nat.mul_add_mod', Nat.mod_eq_of_lt h2]
      exact getElem!_pos z i h2
/-- 'make([]T, n)': the world gets a letter. -/
theorem make_event {W : World} (hgd : o.guard = none) (t : TypeId) (l c : Operand) (hop : o.op = Op.makeSlice t l c) (n : Nat) (hl : a.eval l = .int .i64 n) (hc : a.eval c = .int .i64 n) (e : TypeId) (z : Value) (size bytes : Nat)
    (ht : P.underlying t = some (.slice e)) (hinfo : (P.info? e).map (fun i => (i.zero, i.size, i.bytes)) = some (some z, size, bytes)) (hz : z.cells.size = size) (hb : bytes * n ≤ 281474976710656) (h63 : n ≤ 9223372036854775807)
    (h : ∀ g, g = W.heap.size → ∀ w1, RowAt w1 g e (List.replicate n z.cells.toList).flatten → Below W.heap.size W w1 → wpList P ops Q rest (a.put o.dst (.slice (some ⟨g, 0, none⟩) n n)) w1) : wpList P ops Q (o :: rest) a W := by
  obtain ⟨i, hi, hzz⟩ := Option.map_eq_some_iff.1 hinfo
  simp only [Prod.mk.injEq] at hzz
  obtain ⟨h1, h2, h3⟩ := hzz
  have hb' : (i.bytes : Int) * (n : Int) ≤ 281474976710656 := by
    rw [h3, ← Int.natCast_mul]
    omega
  have hr := run_make (P := P) W t e i z ht hi h1 .i64 .i64 n n (by omega) (Int.le_refl _) hb' (by omega)
  simp only [Int.toNat_natCast] at hr
  refine wpList_plain hgd fun K hK => ?_
  unfold Oper.wp execOp
  simp only [hop, hl, hc]
  simp only [Sem.run_bind, hr, Result.andThen_ok]
  refine hK _ _ (h _ rfl _ ⟨_, heap_alloc_new W _, ?_⟩ (below_alloc (Below.refl _ _) _))
  rw [h2, ← hz, madeCells_list]
/-- A store of some cells into a row: the world gets a letter. -/
theorem put_event {W : World} (hgd : o.guard = none) (hN : o.dst = none) (t : TypeId) (p x : Operand) (ho : o.op = .store t p x) {g off : Nat} {u : Value} {e : TypeId} {cs seg : List Value} (hp : a.eval p = .pointer (some ⟨g, off, none⟩)) (hx : a.eval x = u)
    (hb : RowAt W g e cs) (hu : u.cells.toList = seg) (hi : (P.info? t).map (·.size) = some seg.length) (hfit : off + seg.length ≤ cs.length) (hone : ∀ q ∈ seg, q.oneCell' = true)
    (h : ∀ w1, RowAt w1 g e (cs.take off ++ seg ++ cs.drop (off + seg.length)) → W.grownBy w1 (some g) → wpList P ops Q rest a w1) : wpList P ops Q (o :: rest) a W := by
  obtain ⟨cur, hh, rfl⟩ := hb
  refine wpList_plain hgd fun K hK => ?_
  have hrun := run_store_run (P := P) (w := W) (g := g) (o := off) (e := e) (cur := cur) t u seg hh hu hi (by simpa using hfit) hone
  obtain ⟨cur', h1, h2, h3⟩ := setCells_row seg off W cur hh (by simpa using hfit)
  obtain ⟨s1, s2, s3, s4⟩ := setCells_same g seg off W
  unfold Oper.wp execOp
  simp only [ho, hp, hx]
  simp only [Sem.run_bind, hrun, Result.andThen_ok]
  have := hK _ _ (h _ ⟨cur', h1, h3⟩ ⟨s1, s2, s3, by rw [s4]; exact Nat.le_refl _, fun i _ hne => setCells_far _ off i (fun e => hne (by rw [e]))⟩)
  simpa [Act.put, hN, Oper.upon] using this
/-- 'copy(dst, src)' into a row, of all that src has: the world gets a letter. -/
theorem copy_event {W : World} (hgd : o.guard = none) (d s : Operand) (t t2 : TypeId) (hop : o.op = .call { callee := .builtin .copy, args := #[d, s], argTypes := #[t, t2] }) (e : TypeId) (size : Nat) (ht : P.underlying t = some (.slice e)) (hinfo : (P.info? e).map (·.size) = some size)
    {g n c m c2 : Nat} {A : Option Addr} {cs news : List Value} (hd : a.eval d = .slice (some ⟨g, 0, none⟩) n c) (hs : a.eval s = .slice A m c2) (hmn : m ≤ n) (hrow : RowAt W g e cs) (hlen : news.length = m * size) (hfit : news.length ≤ cs.length)
    (hsrc : m = 0 ∨ ∃ ad, A = some ad ∧ ∀ j u, news[j]? = some u → W.cell? (ad.add j) = some u) (hone : ∀ q ∈ news, q.oneCell' = true)
    (h : ∀ w1, RowAt w1 g e (news ++ cs.drop news.length) → W.grownBy w1 (some g) → wpList P ops Q rest (a.put o.dst (.int .i64 m)) w1) : wpList P ops Q (o :: rest) a W := by
  obtain ⟨i, hi, hsz⟩ := Option.map_eq_some_iff.1 hinfo
  have hrun : ∃ w1, (Builtin.copy_ #[t, t2] o.type #[.slice (some ⟨g, 0, none⟩) n c, .slice A m c2]).run P W = .ok (.int .i64 m) w1 ∧ RowAt w1 g e (news ++ cs.drop news.length) ∧ W.grownBy w1 (some g) := by
    obtain ⟨cur, hh, rfl⟩ := hrow
    have hmin : Nat.min m n = m := Nat.min_eq_left hmn
    rcases hsrc with h0 | ⟨ad, rfl, hcell⟩
    · subst h0
      have hnil : news = [] := List.eq_nil_of_length_eq_zero (by simpa using hlen)
      subst hnil
      have hl : ∀ (x : Addr), (loadCells x 0).run P W = .ok #[] W := fun x => by simpa using run_loadCells_list (P := P) W x [] (by simp)
      refine ⟨W, ?_, ⟨cur, hh, by simp⟩, World.grownBy.refl W _⟩
      cases A <;> simp [Builtin.copy_, run_underlying ht, Builtin.lenOf, Builtin.firstCells, sizeOf, typeInfo, hi, hl, storeCells, goInt]
    · have hl := run_loadCells_list (P := P) W ad news hcell
      have hst := run_storeCells_cells (P := P) g 0 news 0 W (fun j hj => by rw [blk_cell hh]; simp at hfit ⊢; omega) (fun j _ => blk_frozen hh _) hone
      simp only [Nat.add_zero] at hst
      obtain ⟨cur', h1, h2, h3⟩ := setCells_row news 0 W cur hh (by simpa using hfit)
      obtain ⟨s1, s2, s3, s4⟩ := setCells_same g news 0 W
      rw [hlen] at hl
      refine ⟨_, ?_, ⟨cur', h1, by rw [h3]; simp⟩, ⟨s1, s2, s3, by rw [s4]; exact Nat.le_refl _, fun i _ hne => setCells_far _ 0 i (fun e => hne (by rw [e]))⟩⟩
      rw [← hsz] at hl
      simp [Builtin.copy_, run_underlying ht, Builtin.lenOf, Builtin.firstCells, sizeOf, typeInfo, hi, hmin, hl, hst, goInt]
  obtain ⟨w1, hr, h1, h2⟩ := hrun
  refine wpList_plain hgd fun K hK => ?_
  unfold Oper.wp execOp
  simp only [hop, resolve, invoke, builtin, Sem.run_bind, Sem.run_pure, Result.andThen_ok, List.map_toArray, List.map_cons, List.map_nil, hd, hs, hr]
  exact hK _ _ (h w1 h1 h2)
end

/-- '&xs[i]' of a row of the call's own, for regions that are walked quietly. -/
theorem run_indexAt_own {P : Program} {t e : TypeId} {size : Nat} (ht : P.underlying t = some (.slice e)) (hs : ∀ W : World, (sizeOf e).run P W = .ok size W) (g n c i : Nat) (hi : i < n) (W : World) :
    (Instr.indexAt t (.slice (some ⟨g, 0, none⟩) n c) (.int .i64 (i : Int))).run P W = .ok (.pointer (some ⟨g, i * size, none⟩)) W := by
  have h1 : (0 : Int) ≤ (i : Int) ∧ (i : Int) < (n : Int) := by omega
  simp only [Instr.indexAt, asIntOf, Sem.run_bind, Sem.run_pure, Result.andThen_ok, run_underlying ht, if_pos h1, hs, Int.toNat_natCast, add_plain]
/-- 'xs[:m]' of a row of the call's own. -/
theorem run_slice_own {P : Program} {t : TypeId} {size : Nat} (ht : P.underlying t = some (.slice (P.elem t))) (hs : ∀ W : World, (sizeOf (P.elem t)).run P W = .ok size W) (g n c m : Nat) (hm : m ≤ c) (W : World) :
    (Instr.slice t (.slice (some ⟨g, 0, none⟩) n c) none (some (.int .i64 (m : Int))) none).run P W = .ok (.slice (some ⟨g, 0, none⟩) m c) W := by
  have := run_slice_h (P := P) W t (some ⟨g, 0, none⟩) n c ht .i64 (m : Int) (by omega) (by omega)
  rw [this, hs]
  simp [Result.andThen, sliced, Addr.add]
/-- A row that was made, filled from the front but for the last element, and given that. -/
theorem put_last {α : Type} (a z s : List α) (n : Nat) (ha : a.length = n) (hz : z.length = n + s.length) : (a ++ z.drop a.length).take n ++ s ++ (a ++ z.drop a.length).drop (n + s.length) = a ++ s := by
  have h1 : (a ++ z.drop a.length).length = n + s.length := by
    rw [List.length_append, List.length_drop]
    omega
  have h2 : (a ++ z.drop a.length).drop (n + s.length) = [] := List.drop_of_length_le (by omega)
  rw [h2, List.append_nil, List.take_append_of_le_length (by omega), List.take_of_length_le (by omega)]
theorem put_last_fit {α : Type} (a z s : List α) (n : Nat) (ha : a.length = n) (hz : z.length = n + s.length) : n + s.length ≤ (a ++ z.drop a.length).length := by
  rw [List.length_append, List.length_drop]
  omega

/-! ### Elements without inner memory -/
/-- Kind d's elements are just these cells. -/
structure Flat {α : Type} (d : Kd α) (f : α → List Value) : Prop where
  iff : ∀ w x cs, d.K w x cs ↔ cs = f x
theorem Flat.len {α : Type} {d : Kd α} {f : α → List Value} (F : Flat d f) (x : α) : (f x).length = d.sz := d.K_len ((F.iff default x _).2 rfl)
theorem Flat.one {α : Type} {d : Kd α} {f : α → List Value} (F : Flat d f) (x : α) : ∀ u ∈ f x, u.oneCell' = true := d.K_one ((F.iff default x _).2 rfl)
theorem Flat.all {α : Type} {d : Kd α} {f : α → List Value} (F : Flat d f) (l : List α) : (l.flatMap f).length = l.length * d.sz := by
  induction l with
  | nil => simp
  | cons x l ih => rw [List.flatMap_cons, List.length_append, ih, F.len, List.length_cons, Nat.succ_mul, Nat.add_comm]
theorem Flat.ones {α : Type} {d : Kd α} {f : α → List Value} (F : Flat d f) (l : List α) : ∀ u ∈ l.flatMap f, u.oneCell' = true := by
  intro u hu
  obtain ⟨x, _, h⟩ := List.mem_flatMap.1 hu
  exact F.one x u h
theorem Flat.get {α : Type} {d : Kd α} {f : α → List Value} (F : Flat d f) : ∀ (l : List α) (j i : Nat) (x : α), l[j]? = some x → i < d.sz → (l.flatMap f)[j * d.sz + i]? = (f x)[i]?
  | [], j, i, x, h, _ => by simp at h
  | y :: l, 0, i, x, h, hi => by
    have : y = x := by simpa using h
    subst this
    rw [List.flatMap_cons, Nat.zero_mul, Nat.zero_add, List.getElem?_append_left (by rw [F.len]; exact hi)]
  | y :: l, j + 1, i, x, h, hi => by
    rw [List.flatMap_cons, Nat.succ_mul, List.getElem?_append_right (by rw [F.len]; omega), F.len, show j * d.sz + d.sz + i - d.sz = j * d.sz + i by omega]
    exact Flat.get F l j i x (by simpa using h) hi
/-- A slice that is read, as its cells. -/
theorem Flat.cells {α : Type} {d : Kd α} {f : α → List Value} (F : Flat d f) (hs : 0 < d.sz) {w : World} {A : Option Addr} {n : Nat} {xs : List α} (h : Kd.C d w A n xs) : n = 0 ∨ ∃ ad, A = some ad ∧ ∀ j u, (xs.flatMap f)[j]? = some u → w.cell? (ad.add j) = some u := by
  rcases Nat.eq_zero_or_pos n with h0 | h0
  · exact .inl h0
  · obtain ⟨hl, _, hc⟩ := h
    obtain ⟨ad, hA, hc⟩ := hc h0
    refine .inr ⟨ad, hA, fun j u hu => ?_⟩
    have hj : j < xs.length * d.sz := by rw [← F.all]; exact (List.getElem?_eq_some_iff.1 hu).1
    have hq : j / d.sz < xs.length := (Nat.div_lt_iff_lt_mul hs).2 hj
    have hm := Nat.mod_lt j hs
    have hjj : j / d.sz * d.sz + j % d.sz = j := by rw [Nat.mul_comm]; exact Nat.div_add_mod j d.sz
    obtain ⟨c, hcl, hK, hcc⟩ := hc (j / d.sz) _ (List.getElem?_eq_getElem hq)
    have hcf := (F.iff w _ c).1 hK
    subst hcf
    have hg := F.get xs (j / d.sz) (j % d.sz) _ (List.getElem?_eq_getElem hq) hm
    rw [hjj] at hg
    have := hcc (j % d.sz) u (by rw [← hg]; exact hu)
    rwa [hjj] at this
/-- A row of such cells, as a slice that is read. -/
theorem Flat.reads {α : Type} {d : Kd α} {f : α → List Value} (F : Flat d f) {w : World} {g : Nat} {e : TypeId} {cs : List Value} (h : RowAt w g e cs) (xs : List α) (rest : List Value) (hcs : cs = xs.flatMap f ++ rest) (hm : xs.length ≤ 9223372036854775807) : Kd.C d w (some ⟨g, 0, none⟩) xs.length xs := by
  refine ⟨rfl, hm, fun _ => ⟨_, rfl, fun j p hj => ⟨f p, F.len p, (F.iff w p _).2 rfl, fun i u hu => ?_⟩⟩⟩
  have hi : i < d.sz := by rw [← F.len p]; exact (List.getElem?_eq_some_iff.1 hu).1
  have hjl : j < xs.length := (List.getElem?_eq_some_iff.1 hj).1
  have hlt : j * d.sz + i < (xs.flatMap f).length := by
    rw [F.all]
    have : (j + 1) * d.sz ≤ xs.length * d.sz := Nat.mul_le_mul_right _ hjl
    rw [Nat.succ_mul] at this
    omega
  rw [add_plain, h.cell, hcs, List.getElem?_append_left hlt, F.get xs j i p hj hi]
  exact hu
end Go.Proofs.YtebiogaacikphaaW.PrintWords
