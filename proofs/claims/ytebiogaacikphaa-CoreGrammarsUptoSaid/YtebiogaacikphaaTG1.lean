/- Parts of the proof of coreGrammars: Map, Row. No condition beyond each lemma's own. -/
import Derived.Laws.CopyRow
import Derived.Laws.MakeOwn
import Derived.Laws.Slices
import Derived.Laws.StructEq
import Derived.Maps.OwnOps
import Derived.Test.YtebiogaacikphaaTG0
section
namespace Go.Proofs.YtebiogaacikphaaW.PrintWords
open Go.RowKit Go.MapKept
section
variable {κ : Type} [DecidableEq κ] {P : Program}
set_option linter.unusedSectionVars false
/-- Where among the entries the key x is. -/
def mapFind (x : κ) : List (κ × Value) → Nat → Option (Nat × Value)
  | [], _ => none
  | p :: l, i => if x = p.1 then some (i, p.2) else mapFind x l (i + 1)
/-- What a kind of keys is: how it is written, and that the machine tells keys apart as κ does. -/
structure KeyKind (P : Program) (kt : TypeId) (enc : κ → Value) : Prop where
  check : ∀ (e : Bool) (x : κ) (w : World), (Instr.checkKey e 10000 kt (enc x)).run P w = .ok () w
  find : ∀ (x : κ) (l : List (κ × Value)) (es : List MapEntry) (w : World), es.map (fun e => (e.key, e.val)) = l.map (fun p => (enc p.1, p.2)) → (Instr.findKey kt (enc x) es).run P w = .ok (mapFind x l 0) w
  same : ∀ x : κ, Instr.sameBits 10000 (enc x) (enc x) = true
/-- Block b of w is a map that holds l. -/
def MapAt (enc : κ → Value) (w : World) (b : Nat) (l : List (κ × Value)) : Prop :=
  ∃ es clock, w.heap[b]? = some (.map es clock) ∧ es.toList.map (fun e => (e.key, e.val)) = l.map (fun p => (enc p.1, p.2)) ∧ es.toList.map (·.born) = List.range l.length ∧ clock = l.length
theorem MapAt.made (enc : κ → Value) (w : World) : MapAt enc (w.alloc (.map #[] 0)) w.heap.size [] := ⟨#[], 0, by simpa using heap_alloc_new w _, rfl, rfl, rfl⟩
theorem MapAt.kept {enc : κ → Value} {w w' : World} {b : Nat} {l : List (κ × Value)} (h : MapAt enc w b l) (hb : w'.heap[b]? = w.heap[b]?) : MapAt enc w' b l := by
  obtain ⟨es, c, h1, h2⟩ := h
  exact ⟨es, c, hb.trans h1, h2⟩
theorem MapAt.lt {enc : κ → Value} {w : World} {b : Nat} {l : List (κ × Value)} (h : MapAt enc w b l) : b < w.heap.size := by
  obtain ⟨es, c, h1, h2⟩ := h
  exact blk_lt h1
theorem MapAt.below {enc : κ → Value} {w w' : World} {b : Nat} {l : List (κ × Value)} (h : MapAt enc w b l) (hb : Below w.heap.size w w') : MapAt enc w' b l := h.kept (hb.block b h.lt)
theorem MapAt.grown {enc : κ → Value} {w w' : World} {row : Option Nat} {b : Nat} {l : List (κ × Value)} (h : MapAt enc w b l) (hg : w.grownBy w' row) (hne : some b ≠ row) : MapAt enc w' b l := h.kept (hg.block b h.lt hne)
theorem mapFind_none {x : κ} : ∀ {l : List (κ × Value)} {i : Nat}, mapFind x l i = none ↔ x ∉ l.map (·.1)
  | [], _ => by simp [mapFind]
  | p :: l, i => by
    rw [mapFind]
    split
    · rename_i h
      simp [h]
    · rename_i h
      rw [mapFind_none]
      simp [h]
theorem mapFind_some {x : κ} : ∀ {l : List (κ × Value)} {i j : Nat} {v : Value}, mapFind x l i = some (j, v) → i ≤ j ∧ l[j - i]? = some (x, v)
  | [], _, _, _, h => by cases h
  | p :: l, i, j, v, h => by
    rw [mapFind] at h
    split at h
    · rename_i hx
      cases h
      refine ⟨Nat.le_refl _, ?_⟩
      rw [Nat.sub_self, hx]
      rfl
    · obtain ⟨h1, h2⟩ := mapFind_some h
      refine ⟨by omega, ?_⟩
      rw [show j - i = (j - (i + 1)) + 1 by omega, List.getElem?_cons_succ]
      exact h2
/-- 'v, ok := m[k]'. -/
theorem MapAt.lookup {enc : κ → Value} {t kt e : TypeId} (K : KeyKind P kt enc) (ht : P.underlying t = some (.map kt e)) {w : World} {b : Nat} {l : List (κ × Value)} (h : MapAt enc w b l) (x : κ) {z : Value} (hz : (zeroValue e).run P w = .ok z w) (ok : Bool) :
    (Instr.lookup t (.map (some b)) (enc x) ok).run P w = .ok (match mapFind x l 0 with | some (_, v) => if ok then .tuple #[v, .bool true] else v | none => if ok then .tuple #[z, .bool false] else z) w := by
  obtain ⟨es, c, h1, h2, _⟩ := h
  have hc := K.check es.isEmpty x w
  have hf := K.find x l es.toList w h2
  unfold Instr.lookup
  simp only [Sem.run_bind, run_underlying ht, Result.andThen_ok, getObj, Sem.run, h1]
  rw [show (pure es : Sem (Array MapEntry)).run P w = .ok es w from rfl, Result.andThen_ok, hc, Result.andThen_ok, hf, Result.andThen_ok]
  cases mapFind x l 0 with
  | none => simp [hz]
  | some p => simp
theorem map_update_new {enc : κ → Value} {t kt e : TypeId} (K : KeyKind P kt enc) (ht : P.underlying t = some (.map kt e)) {w : World} {b : Nat} {l : List (κ × Value)} (h : MapAt enc w b l) (x : κ) (v : Value) (hx : x ∉ l.map (·.1)) :
    ∃ w', (Instr.mapUpdate t (.map (some b)) (enc x) v).run P w = .ok () w' ∧ MapAt enc w' b (l ++ [(x, v)]) ∧ w.grownBy w' (some b) := by
  obtain ⟨es, c, h1, h2, h3, h4⟩ := h
  have hc := K.check false x w
  have hf := K.find x l es.toList w h2
  rw [mapFind_none.2 hx] at hf
  refine ⟨{ w with heap := w.heap.setIfInBounds b (.map (es.push { key := enc x, val := v, born := c }) (c + 1)) }, ?_, ⟨es.push { key := enc x, val := v, born := c }, c + 1, ?_, ?_, ?_, ?_⟩, ⟨rfl, rfl, rfl, by simp, fun i _ hi => ?_⟩⟩
  · unfold Instr.mapUpdate
    simp only [Sem.run_bind, run_underlying ht, Result.andThen_ok, getObj, Sem.run, h1]
    rw [hc, Result.andThen_ok, hf, Result.andThen_ok]
    simp only [setObj, Sem.run, h1]
  · show (w.heap.setIfInBounds b _)[b]? = _
    rw [Array.getElem?_setIfInBounds_self_of_lt (blk_lt h1)]
  · rw [Array.toList_push, List.map_append, List.map_append, h2]
    rfl
  · rw [Array.toList_push, List.map_append, h3, h4]
    simp [List.range_succ]
  · simp [h4]
  · show (w.heap.setIfInBounds b _)[i]? = _
    rw [Array.getElem?_setIfInBounds_ne (fun e => hi (by rw [e]))]
end
section
variable {κ : Type} [DecidableEq κ] {P : Program} {ops : Array Oper} {rest : List Oper} {o : Oper} {a : Act} {Q : Exit → Act → World → Prop}
theorem wpList_map_lookup {enc : κ → Value} (w : World) (hg : o.guard = none) (m x : Operand) (t : TypeId) (ok : Bool) (hop : o.op = Op.lookup t m x ok) {kt e : TypeId} (K : KeyKind P kt enc) (ht : P.underlying t = some (.map kt e)) {z : Value} (hz : ∀ w, (zeroValue e).run P w = .ok z w)
    (b : Nat) (l : List (κ × Value)) (h : MapAt enc w b l) (k : κ) (hm : a.eval m = .map (some b)) (hx : a.eval x = enc k)
    (hK : wpList P ops Q rest (a.put o.dst (match mapFind k l 0 with | some (_, v) => if ok then .tuple #[v, .bool true] else v | none => if ok then .tuple #[z, .bool false] else z)) w) : wpList P ops Q (o :: rest) a w := by
  refine wpList_plain hg fun K' hK' => ?_
  have hrun := h.lookup K ht k (hz w) ok
  unfold Oper.wp
  simp only [execOp, hop, hm, hx]
  simp [hrun, Result.andThen]
  exact hK' _ _ hK
theorem wpList_map_new {enc : κ → Value} (w : World) (hg : o.guard = none) (m x v : Operand) (t : TypeId) (hop : o.op = Op.mapUpdate t m x v) {kt e : TypeId} (K : KeyKind P kt enc) (ht : P.underlying t = some (.map kt e))
    (b : Nat) (l : List (κ × Value)) (h : MapAt enc w b l) (k : κ) (val : Value) (hnew : k ∉ l.map (·.1)) (hm : a.eval m = .map (some b)) (hx : a.eval x = enc k) (hv : a.eval v = val)
    (hK : ∀ w', MapAt enc w' b (l ++ [(k, val)]) → w.grownBy w' (some b) → wpList P ops Q rest (a.put o.dst undef) w') : wpList P ops Q (o :: rest) a w := by
  refine wpList_plain hg fun K' hK' => ?_
  obtain ⟨w', hrun, r1, r2⟩ := map_update_new K ht h k val hnew
  unfold Oper.wp
  simp only [execOp, hop, hm, hx, hv]
  simp [hrun, Result.andThen]
  exact hK' _ _ (hK w' r1 r2)
end
section
variable {κ : Type} [DecidableEq κ] {P : Program} {ops : Array Oper} {rest : List Oper} {o : Oper} {a : Act} {Q : Exit → Act → World → Prop}
/-- 'map[K]V{}': the world gets a letter. -/
theorem map_event (enc : κ → Value) {W : World} (hgd : o.guard = none) (t : TypeId) (hop : o.op = Op.makeMap t none)
    (h : ∀ b, b = W.heap.size → ∀ w1, MapAt enc w1 b [] → Below W.heap.size W w1 → wpList P ops Q rest (a.put o.dst (.map (some b))) w1) : wpList P ops Q (o :: rest) a W := by
  refine wpList_plain hgd fun K hK => ?_
  unfold Oper.wp execOp
  simp only [hop]
  exact hK _ _ (h _ rfl _ (MapAt.made enc W) (below_alloc (Below.refl _ _) _))
/-- 'v, ok := m[k]' where there is none. -/
theorem wpList_map_miss {enc : κ → Value} (w : World) (hg : o.guard = none) (m x : Operand) (t : TypeId) (hop : o.op = Op.lookup t m x true) {kt e : TypeId} (K : KeyKind P kt enc) (ht : P.underlying t = some (.map kt e)) {z : Value} (hz : ∀ w, (zeroValue e).run P w = .ok z w)
    (b : Nat) (l : List (κ × Value)) (h : MapAt enc w b l) (k : κ) (hm : a.eval m = .map (some b)) (hx : a.eval x = enc k) (hk : k ∉ l.map (·.1))
    (hK : wpList P ops Q rest (a.put o.dst (.tuple #[z, .bool false])) w) : wpList P ops Q (o :: rest) a w :=
  wpList_map_lookup w hg m x t true hop K ht hz b l h k hm hx (by rw [mapFind_none.2 hk]; exact hK)
/-- 'v, ok := m[k]' where there is one. -/
theorem wpList_map_hit {enc : κ → Value} (w : World) (hg : o.guard = none) (m x : Operand) (t : TypeId) (hop : o.op = Op.lookup t m x true) {kt e : TypeId} (K : KeyKind P kt enc) (ht : P.underlying t = some (.map kt e)) {z : Value} (hz : ∀ w, (zeroValue e).run P w = .ok z w)
    (b : Nat) (l : List (κ × Value)) (h : MapAt enc w b l) (k : κ) (hm : a.eval m = .map (some b)) (hx : a.eval x = enc k) (hk : k ∈ l.map (·.1))
    (hK : ∀ v, (k, v) ∈ l → wpList P ops Q rest (a.put o.dst (.tuple #[v, .bool true])) w) : wpList P ops Q (o :: rest) a w := by
  refine wpList_map_lookup w hg m x t true hop K ht hz b l h k hm hx ?_
  cases hf : mapFind k l 0 with
  | none => exact absurd hk (mapFind_none.1 hf)
  | some p =>
    obtain ⟨j, v⟩ := p
    have := (mapFind_some hf).2
    exact hK v (List.mem_of_getElem? this)
end
section
variable {P : Program} {ops : Array Oper} {rest : List Oper} {o : Oper} {a : Act} {Q : Exit → Act → World → Prop}
/-- A whole struct stored into a variable in memory: the world gets a letter. -/
theorem store_whole {W : World} (hgd : o.guard = none) (hN : o.dst = none) (t : TypeId) (p x : Operand) (ho : o.op = .store t p x) {g : Nat} {cs zs : Array Value} {te : TypeId} (hp : a.eval p = .pointer (some ⟨g, 0, none⟩)) (hx : a.eval x = .agg cs)
    (hb : W.heap[g]? = some (.cells zs te (0, 0))) (hsz : zs.size = cs.size) (hi : (P.info? t).map (·.size) = some cs.size) (hone : ∀ q ∈ cs.toList, q.oneCell' = true)
    (h : ∀ w1, w1.heap[g]? = some (.cells cs te (0, 0)) → W.grownBy w1 (some g) → w1.heap.size = W.heap.size → wpList P ops Q rest a w1) : wpList P ops Q (o :: rest) a W := by
  refine wpList_plain hgd fun K hK => ?_
  have hrun := run_store_run (P := P) (w := W) (g := g) (o := 0) (e := te) (cur := zs) t (.agg cs) cs.toList hb rfl (by simpa using hi) (by simp [hsz]) hone
  obtain ⟨cur, h1, h2, h3⟩ := setCells_row cs.toList 0 W zs hb (by simp [hsz])
  obtain ⟨s1, s2, s3, s4⟩ := setCells_same g cs.toList 0 W
  have hcur : cur = cs := by
    apply Array.toList_inj.1
    rw [h3]
    simp [hsz]
  subst hcur
  unfold Oper.wp execOp
  simp only [ho, hp, hx]
  simp only [Sem.run_bind, hrun, Result.andThen_ok]
  have := hK _ _ (h _ h1 ⟨s1, s2, s3, by rw [s4]; exact Nat.le_refl _, fun i _ hne => setCells_far _ 0 i (fun e => hne (by rw [e]))⟩ s4)
  simpa [Act.put, hN, Oper.upon] using this
end
instance : DecidableEq ByteArray := fun a b => decidable_of_iff (a.data = b.data) ⟨fun h => by cases a; cases b; cases h; rfl, fun h => by rw [h]⟩
theorem beq_bytes (a b : ByteArray) : (a == b) = decide (a = b) := by
  rw [beq_toListBytes, ByteArray.toList_eq, ByteArray.toList_eq]
  by_cases h : a = b
  · simp [h]
  · have : a.data.toList ≠ b.data.toList := fun e => h (by cases a; cases b; simp only [ByteArray.mk.injEq]; exact Array.toList_inj.1 e)
    rw [decide_eq_false h, beq_eq_false_iff_ne.2 this]
theorem string_keys {P : Program} {kt : TypeId} (hu : P.underlying kt = some .string) : KeyKind P kt Value.string where
  check := fun e x w => by
    show (Instr.checkKey e (9999 + 1) kt (.string x)).run P w = _
    rw [Instr.checkKey]
    simp [Sem.run_bind, run_underlying hu]
  find := fun x l es w h => by
    have key : ∀ (l : List (ByteArray × Value)) (es : List MapEntry) (i : Nat), es.map (fun e => (e.key, e.val)) = l.map (fun p => (Value.string p.1, p.2)) → Instr.findNow .string (.string x) es i = some (mapFind x l i) := by
      intro l
      induction l with
      | nil =>
        intro es i h
        have : es = [] := by simpa using h
        subst this
        rfl
      | cons p l ih =>
        intro es i h
        cases es with
        | nil => simp at h
        | cons e es =>
          simp only [List.map_cons, List.cons.injEq, Prod.mk.injEq] at h
          obtain ⟨⟨h1, h2⟩, h3⟩ := h
          rw [Instr.findNow, h1, mapFind]
          by_cases hx : x = p.1
          · subst hx
            simp [Instr.sameNow, h2, beq_bytes]
          · have : (x == p.1) = false := by rw [beq_bytes, decide_eq_false hx]
            simp only [Instr.sameNow, this, if_neg hx]
            exact ih es (i + 1) h3
    unfold Instr.findKey
    simp only [Sem.run_bind, run_underlying hu, Result.andThen_ok, key l es 0 h]
    rfl
  same := fun x => by
    show Instr.sameBits (9999 + 1) _ _ = true
    simp [Instr.sameBits, beq_bytes]
end Go.Proofs.YtebiogaacikphaaW.PrintWords
end
section
namespace Go.Proofs.YtebiogaacikphaaW.PrintWords
open Go.RowKit
/-- Block g of w is a row of these cells, of type e, of which none is frozen. -/
def RowAt (w : World) (g : Nat) (e : TypeId) (cs : List Value) : Prop := ∃ cur : Array Value, w.heap[g]? = some (.cells cur e (0, 0)) ∧ cur.toList = cs
section
variable {w w' : World} {g : Nat} {e : TypeId} {cs : List Value}
theorem RowAt.lt (h : RowAt w g e cs) : g < w.heap.size := by obtain ⟨c, h, _⟩ := h; exact blk_lt h
theorem RowAt.kept (h : RowAt w g e cs) (hb : w'.heap[g]? = w.heap[g]?) : RowAt w' g e cs := by obtain ⟨c, h, h2⟩ := h; exact ⟨c, hb.trans h, h2⟩
theorem RowAt.below (h : RowAt w g e cs) (hb : Below w.heap.size w w') : RowAt w' g e cs := h.kept (hb.block g h.lt)
theorem RowAt.grown (h : RowAt w g e cs) {row : Option Nat} (hg : w.grownBy w' row) (hne : some g ≠ row) : RowAt w' g e cs := h.kept (hg.block g h.lt hne)
theorem RowAt.cell (h : RowAt w g e cs) (i : Nat) : w.cell? ⟨g, i, none⟩ = cs[i]? := by
  obtain ⟨c, h, h2⟩ := h
  rw [blk_cell h, ← h2]
  simp
end
section
variable {P : Program} {ops : Array Oper} {rest : List Oper} {o : Oper} {a : Act} {Q : Exit → Act → World → Prop}
theorem madeCells_list (z : Array Value) (n : Nat) : (madeCells z (n * z.size)).toList = (List.replicate n z.toList).flatten := by
  unfold madeCells
  simp only [Array.toList_map, Array.toList_range]
  induction n with
  | zero => simp
  | succ n ih =>
    rw [Nat.succ_mul, List.range_add, List.map_append, ih, List.replicate_succ']
    simp only [List.flatten_append, List.flatten_cons, List.flatten_nil, List.append_nil]
    congr 1
    apply List.ext_getElem
    · simp
    · intro i h1 h2
      simp only [List.map_map, List.getElem_map, List.getElem_range, Function.comp, Array.getElem_toList]
      simp at h2
      rw [Nat.mul_add_mod', Nat.mod_eq_of_lt h2]
      exact getElem!_pos z i h2
/-- 'make([]T, n)': the world gets a letter. -/
theorem make_event {W : World} (hgd : o.guard = none) (t : TypeId) (l c : Operand) (hop : o.op = Op.makeSlice t l c) (n : Nat) (hl : a.eval l = .int .i64 n) (hc : a.eval c = .int .i64 n) (e : TypeId) (z : Value) (size bytes : Nat)
    (ht : P.underlying t = some (.slice e)) (hinfo : (P.info? e).map (fun i => (i.zero, i.size, i.bytes)) = some (some z, size, bytes)) (hz : z.cells.size = size) (hb : bytes * n ≤ 281474976710656) (h63 : n ≤ 9223372036854775807)
    (h : ∀ g, g = W.heap.size → ∀ w1, RowAt w1 g e (List.replicate n z.cells.toList).flatten → Below W.heap.size W w1 → wpList P ops Q rest (a.put o.dst (.slice (some ⟨g, 0, none⟩) n n)) w1) : wpList P ops Q (o :: rest) a W := by
  obtain ⟨i, hi, hzz⟩ := Option.map_eq_some_iff.1 hinfo
  simp only [Prod.mk.injEq] at hzz
  obtain ⟨h1, h2, h3⟩ := hzz
  have hb' : (i.bytes : Int) * (n : Int) ≤ 281474976710656 := by
    rw [h3, ← Int.natCast_mul]
    omega
  have hr := run_make (P := P) W t e i z ht hi h1 .i64 .i64 n n (by omega) (Int.le_refl _) hb' (by omega)
  simp only [Int.toNat_natCast] at hr
  refine wpList_plain hgd fun K hK => ?_
  unfold Oper.wp execOp
  simp only [hop, hl, hc]
  simp only [Sem.run_bind, hr, Result.andThen_ok]
  refine hK _ _ (h _ rfl _ ⟨_, heap_alloc_new W _, ?_⟩ (below_alloc (Below.refl _ _) _))
  rw [h2, ← hz, madeCells_list]
/-- A store of some cells into a row: the world gets a letter. -/
theorem put_event {W : World} (hgd : o.guard = none) (hN : o.dst = none) (t : TypeId) (p x : Operand) (ho : o.op = .store t p x) {g off : Nat} {u : Value} {e : TypeId} {cs seg : List Value} (hp : a.eval p = .pointer (some ⟨g, off, none⟩)) (hx : a.eval x = u)
    (hb : RowAt W g e cs) (hu : u.cells.toList = seg) (hi : (P.info? t).map (·.size) = some seg.length) (hfit : off + seg.length ≤ cs.length) (hone : ∀ q ∈ seg, q.oneCell' = true)
    (h : ∀ w1, RowAt w1 g e (cs.take off ++ seg ++ cs.drop (off + seg.length)) → W.grownBy w1 (some g) → wpList P ops Q rest a w1) : wpList P ops Q (o :: rest) a W := by
  obtain ⟨cur, hh, rfl⟩ := hb
  refine wpList_plain hgd fun K hK => ?_
  have hrun := run_store_run (P := P) (w := W) (g := g) (o := off) (e := e) (cur := cur) t u seg hh hu hi (by simpa using hfit) hone
  obtain ⟨cur', h1, h2, h3⟩ := setCells_row seg off W cur hh (by simpa using hfit)
  obtain ⟨s1, s2, s3, s4⟩ := setCells_same g seg off W
  unfold Oper.wp execOp
  simp only [ho, hp, hx]
  simp only [Sem.run_bind, hrun, Result.andThen_ok]
  have := hK _ _ (h _ ⟨cur', h1, h3⟩ ⟨s1, s2, s3, by rw [s4]; exact Nat.le_refl _, fun i _ hne => setCells_far _ off i (fun e => hne (by rw [e]))⟩)
  simpa [Act.put, hN, Oper.upon] using this
/-- 'copy(dst, src)' into a row, of all that src has: the world gets a letter. -/
theorem copy_event {W : World} (hgd : o.guard = none) (d s : Operand) (t t2 : TypeId) (hop : o.op = .call { callee := .builtin .copy, args := #[d, s], argTypes := #[t, t2] }) (e : TypeId) (size : Nat) (ht : P.underlying t = some (.slice e)) (hinfo : (P.info? e).map (·.size) = some size)
    {g n c m c2 : Nat} {A : Option Addr} {cs news : List Value} (hd : a.eval d = .slice (some ⟨g, 0, none⟩) n c) (hs : a.eval s = .slice A m c2) (hmn : m ≤ n) (hrow : RowAt W g e cs) (hlen : news.length = m * size) (hfit : news.length ≤ cs.length)
    (hsrc : m = 0 ∨ ∃ ad, A = some ad ∧ ∀ j u, news[j]? = some u → W.cell? (ad.add j) = some u) (hone : ∀ q ∈ news, q.oneCell' = true)
    (h : ∀ w1, RowAt w1 g e (news ++ cs.drop news.length) → W.grownBy w1 (some g) → wpList P ops Q rest (a.put o.dst (.int .i64 m)) w1) : wpList P ops Q (o :: rest) a W := by
  obtain ⟨i, hi, hsz⟩ := Option.map_eq_some_iff.1 hinfo
  have hrun : ∃ w1, (Builtin.copy_ #[t, t2] o.type #[.slice (some ⟨g, 0, none⟩) n c, .slice A m c2]).run P W = .ok (.int .i64 m) w1 ∧ RowAt w1 g e (news ++ cs.drop news.length) ∧ W.grownBy w1 (some g) := by
    obtain ⟨cur, hh, rfl⟩ := hrow
    have hmin : Nat.min m n = m := Nat.min_eq_left hmn
    rcases hsrc with h0 | ⟨ad, rfl, hcell⟩
    · subst h0
      have hnil : news = [] := List.eq_nil_of_length_eq_zero (by simpa using hlen)
      subst hnil
      have hl : ∀ (x : Addr), (loadCells x 0).run P W = .ok #[] W := fun x => by simpa using run_loadCells_list (P := P) W x [] (by simp)
      refine ⟨W, ?_, ⟨cur, hh, by simp⟩, World.grownBy.refl W _⟩
      cases A <;> simp [Builtin.copy_, run_underlying ht, Builtin.lenOf, Builtin.firstCells, sizeOf, typeInfo, hi, hl, storeCells, goInt]
    · have hl := run_loadCells_list (P := P) W ad news hcell
      have hst := run_storeCells_cells (P := P) g 0 news 0 W (fun j hj => by rw [blk_cell hh]; simp at hfit ⊢; omega) (fun j _ => blk_frozen hh _) hone
      simp only [Nat.add_zero] at hst
      obtain ⟨cur', h1, h2, h3⟩ := setCells_row news 0 W cur hh (by simpa using hfit)
      obtain ⟨s1, s2, s3, s4⟩ := setCells_same g news 0 W
      rw [hlen] at hl
      refine ⟨_, ?_, ⟨cur', h1, by rw [h3]; simp⟩, ⟨s1, s2, s3, by rw [s4]; exact Nat.le_refl _, fun i _ hne => setCells_far _ 0 i (fun e => hne (by rw [e]))⟩⟩
      rw [← hsz] at hl
      simp [Builtin.copy_, run_underlying ht, Builtin.lenOf, Builtin.firstCells, sizeOf, typeInfo, hi, hmin, hl, hst, goInt]
  obtain ⟨w1, hr, h1, h2⟩ := hrun
  refine wpList_plain hgd fun K hK => ?_
  unfold Oper.wp execOp
  simp only [hop, resolve, invoke, builtin, Sem.run_bind, Sem.run_pure, Result.andThen_ok, List.map_toArray, List.map_cons, List.map_nil, hd, hs, hr]
  exact hK _ _ (h w1 h1 h2)
end
/-- '&xs[i]' of a row of the call's own, for regions that are walked quietly. -/
theorem run_indexAt_own {P : Program} {t e : TypeId} {size : Nat} (ht : P.underlying t = some (.slice e)) (hs : ∀ W : World, (sizeOf e).run P W = .ok size W) (g n c i : Nat) (hi : i < n) (W : World) :
    (Instr.indexAt t (.slice (some ⟨g, 0, none⟩) n c) (.int .i64 (i : Int))).run P W = .ok (.pointer (some ⟨g, i * size, none⟩)) W := by
  have h1 : (0 : Int) ≤ (i : Int) ∧ (i : Int) < (n : Int) := by omega
  simp only [Instr.indexAt, asIntOf, Sem.run_bind, Sem.run_pure, Result.andThen_ok, run_underlying ht, if_pos h1, hs, Int.toNat_natCast, add_plain]
/-- 'xs[:m]' of a row of the call's own. -/
theorem run_slice_own {P : Program} {t : TypeId} {size : Nat} (ht : P.underlying t = some (.slice (P.elem t))) (hs : ∀ W : World, (sizeOf (P.elem t)).run P W = .ok size W) (g n c m : Nat) (hm : m ≤ c) (W : World) :
    (Instr.slice t (.slice (some ⟨g, 0, none⟩) n c) none (some (.int .i64 (m : Int))) none).run P W = .ok (.slice (some ⟨g, 0, none⟩) m c) W := by
  have := run_slice_h (P := P) W t (some ⟨g, 0, none⟩) n c ht .i64 (m : Int) (by omega) (by omega)
  rw [this, hs]
  simp [Result.andThen, sliced, Addr.add]
/-- A row that was made, filled from the front but for the last element, and given that. -/
theorem put_last {α : Type} (a z s : List α) (n : Nat) (ha : a.length = n) (hz : z.length = n + s.length) : (a ++ z.drop a.length).take n ++ s ++ (a ++ z.drop a.length).drop (n + s.length) = a ++ s := by
  have h1 : (a ++ z.drop a.length).length = n + s.length := by
    rw [List.length_append, List.length_drop]
    omega
  have h2 : (a ++ z.drop a.length).drop (n + s.length) = [] := List.drop_of_length_le (by omega)
  rw [h2, List.append_nil, List.take_append_of_le_length (by omega), List.take_of_length_le (by omega)]
theorem put_last_fit {α : Type} (a z s : List α) (n : Nat) (ha : a.length = n) (hz : z.length = n + s.length) : n + s.length ≤ (a ++ z.drop a.length).length := by
  rw [List.length_append, List.length_drop]
  omega
/-- Kind d's elements are just these cells. -/
structure Flat {α : Type} (d : Kd α) (f : α → List Value) : Prop where
  iff : ∀ w x cs, d.K w x cs ↔ cs = f x
theorem Flat.len {α : Type} {d : Kd α} {f : α → List Value} (F : Flat d f) (x : α) : (f x).length = d.sz := d.K_len ((F.iff default x _).2 rfl)
theorem Flat.one {α : Type} {d : Kd α} {f : α → List Value} (F : Flat d f) (x : α) : ∀ u ∈ f x, u.oneCell' = true := d.K_one ((F.iff default x _).2 rfl)
theorem Flat.all {α : Type} {d : Kd α} {f : α → List Value} (F : Flat d f) (l : List α) : (l.flatMap f).length = l.length * d.sz := by
  induction l with
  | nil => simp
  | cons x l ih => rw [List.flatMap_cons, List.length_append, ih, F.len, List.length_cons, Nat.succ_mul, Nat.add_comm]
theorem Flat.ones {α : Type} {d : Kd α} {f : α → List Value} (F : Flat d f) (l : List α) : ∀ u ∈ l.flatMap f, u.oneCell' = true := by
  intro u hu
  obtain ⟨x, _, h⟩ := List.mem_flatMap.1 hu
  exact F.one x u h
theorem Flat.get {α : Type} {d : Kd α} {f : α → List Value} (F : Flat d f) : ∀ (l : List α) (j i : Nat) (x : α), l[j]? = some x → i < d.sz → (l.flatMap f)[j * d.sz + i]? = (f x)[i]?
  | [], j, i, x, h, _ => by simp at h
  | y :: l, 0, i, x, h, hi => by
    have : y = x := by simpa using h
    subst this
    rw [List.flatMap_cons, Nat.zero_mul, Nat.zero_add, List.getElem?_append_left (by rw [F.len]; exact hi)]
  | y :: l, j + 1, i, x, h, hi => by
    rw [List.flatMap_cons, Nat.succ_mul, List.getElem?_append_right (by rw [F.len]; omega), F.len, show j * d.sz + d.sz + i - d.sz = j * d.sz + i by omega]
    exact Flat.get F l j i x (by simpa using h) hi
/-- A slice that is read, as its cells. -/
theorem Flat.cells {α : Type} {d : Kd α} {f : α → List Value} (F : Flat d f) (hs : 0 < d.sz) {w : World} {A : Option Addr} {n : Nat} {xs : List α} (h : Kd.C d w A n xs) : n = 0 ∨ ∃ ad, A = some ad ∧ ∀ j u, (xs.flatMap f)[j]? = some u → w.cell? (ad.add j) = some u := by
  rcases Nat.eq_zero_or_pos n with h0 | h0
  · exact .inl h0
  · obtain ⟨hl, _, hc⟩ := h
    obtain ⟨ad, hA, hc⟩ := hc h0
    refine .inr ⟨ad, hA, fun j u hu => ?_⟩
    have hj : j < xs.length * d.sz := by rw [← F.all]; exact (List.getElem?_eq_some_iff.1 hu).1
    have hq : j / d.sz < xs.length := (Nat.div_lt_iff_lt_mul hs).2 hj
    have hm := Nat.mod_lt j hs
    have hjj : j / d.sz * d.sz + j % d.sz = j := by rw [Nat.mul_comm]; exact Nat.div_add_mod j d.sz
    obtain ⟨c, hcl, hK, hcc⟩ := hc (j / d.sz) _ (List.getElem?_eq_getElem hq)
    have hcf := (F.iff w _ c).1 hK
    subst hcf
    have hg := F.get xs (j / d.sz) (j % d.sz) _ (List.getElem?_eq_getElem hq) hm
    rw [hjj] at hg
    have := hcc (j % d.sz) u (by rw [← hg]; exact hu)
    rwa [hjj] at this
/-- A row of such cells, as a slice that is read. -/
theorem Flat.reads {α : Type} {d : Kd α} {f : α → List Value} (F : Flat d f) {w : World} {g : Nat} {e : TypeId} {cs : List Value} (h : RowAt w g e cs) (xs : List α) (rest : List Value) (hcs : cs = xs.flatMap f ++ rest) (hm : xs.length ≤ 9223372036854775807) : Kd.C d w (some ⟨g, 0, none⟩) xs.length xs := by
  refine ⟨rfl, hm, fun _ => ⟨_, rfl, fun j p hj => ⟨f p, F.len p, (F.iff w p _).2 rfl, fun i u hu => ?_⟩⟩⟩
  have hi : i < d.sz := by rw [← F.len p]; exact (List.getElem?_eq_some_iff.1 hu).1
  have hjl : j < xs.length := (List.getElem?_eq_some_iff.1 hj).1
  have hlt : j * d.sz + i < (xs.flatMap f).length := by
    rw [F.all]
    have : (j + 1) * d.sz ≤ xs.length * d.sz := Nat.mul_le_mul_right _ hjl
    rw [Nat.succ_mul] at this
    omega
  rw [add_plain, h.cell, hcs, List.getElem?_append_left hlt, F.get xs j i p hj hi]
  exact hu
end Go.Proofs.YtebiogaacikphaaW.PrintWords
end
