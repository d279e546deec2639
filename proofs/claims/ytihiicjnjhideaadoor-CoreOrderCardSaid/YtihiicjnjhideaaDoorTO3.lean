/- Parts of the proof of coreOrder: Map. No condition beyond each lemma's own. -/
import Derived.Laws.StructEq
import Derived.Maps.OwnOps
import Derived.Test.YtihiicjnjhideaaDoorTO0
section
namespace Go.Proofs.YtihiicjnjhideaaDoorW.PrintWords
open Go.RowKit Go.MapKept
section
variable {κ : Type} [DecidableEq κ] {P : Program}
set_option linter.unusedSectionVars false
/-- Where among the entries the key x is. -/
def mapFind (x : κ) : List (κ × Value) → Nat → Option (Nat × Value)
 | [], _ => none
 | p :: l, i => if x = p.1 then some (i, p.2) else mapFind x l (i + 1)
/-- What a kind of keys is: how it is written, and that the machine tells keys apart as κ does. -/
structure KeyKind (P : Program) (kt : TypeId) (enc : κ → Value) : Prop where
 check : ∀ (e : Bool) (x : κ) (w : World), (Instr.checkKey e 10000 kt (enc x)).run P w = .ok () w
 find : ∀ (x : κ) (l : List (κ × Value)) (es : List MapEntry) (w : World), es.map (fun e => (e.key, e.val)) = l.map (fun p => (enc p.1, p.2)) → (Instr.findKey kt (enc x) es).run P w = .ok (mapFind x l 0) w
 same : ∀ x : κ, Instr.sameBits 10000 (enc x) (enc x) = true
/-- Block b of w is a map that holds l. -/
def MapAt (enc : κ → Value) (w : World) (b : Nat) (l : List (κ × Value)) : Prop :=
 ∃ es clock, w.heap[b]? = some (.map es clock) ∧ es.toList.map (fun e => (e.key, e.val)) = l.map (fun p => (enc p.1, p.2)) ∧ es.toList.map (·.born) = List.range l.length ∧ clock = l.length
theorem MapAt.made (enc : κ → Value) (w : World) : MapAt enc (w.alloc (.map #[] 0)) w.heap.size [] := ⟨#[], 0, by simpa using heap_alloc_new w _, rfl, rfl, rfl⟩
theorem MapAt.kept {enc : κ → Value} {w w' : World} {b : Nat} {l : List (κ × Value)} (h : MapAt enc w b l) (hb : w'.heap[b]? = w.heap[b]?) : MapAt enc w' b l := by
 obtain ⟨es, c, h1, h2⟩ := h
 exact ⟨es, c, hb.trans h1, h2⟩
theorem MapAt.lt {enc : κ → Value} {w : World} {b : Nat} {l : List (κ × Value)} (h : MapAt enc w b l) : b < w.heap.size := by
 obtain ⟨es, c, h1, h2⟩ := h
 exact blk_lt h1
theorem MapAt.below {enc : κ → Value} {w w' : World} {b : Nat} {l : List (κ × Value)} (h : MapAt enc w b l) (hb : Below w.heap.size w w') : MapAt enc w' b l := h.kept (hb.block b h.lt)
theorem MapAt.grown {enc : κ → Value} {w w' : World} {row : Option Nat} {b : Nat} {l : List (κ × Value)} (h : MapAt enc w b l) (hg : w.grownBy w' row) (hne : some b ≠ row) : MapAt enc w' b l := h.kept (hg.block b h.lt hne)
theorem mapFind_none {x : κ} : ∀ {l : List (κ × Value)} {i : Nat}, mapFind x l i = none ↔ x ∉ l.map (·.1)
 | [], _ => by simp [mapFind]
 | p :: l, i => by
  rw [mapFind]
  split
  ·rename_i h
   simp [h]
  ·rename_i h
   rw [mapFind_none]
   simp [h]
theorem mapFind_some {x : κ} : ∀ {l : List (κ × Value)} {i j : Nat} {v : Value}, mapFind x l i = some (j, v) → i ≤ j ∧ l[j - i]? = some (x, v)
 | [], _, _, _, h => by cases h
 | p :: l, i, j, v, h => by
  rw [mapFind] at h
  split at h
  ·rename_i hx
   cases h
   refine ⟨Nat.le_refl _, ?_⟩
   rw [Nat.sub_self, hx]
   rfl
  ·obtain ⟨h1, h2⟩ := mapFind_some h
   refine ⟨by omega, ?_⟩
   rw [show j - i = (j - (i + 1)) + 1 by omega, List.getElem?_cons_succ]
   exact h2
/-- 'v, ok := m[k]'. -/
theorem MapAt.lookup {enc : κ → Value} {t kt e : TypeId} (K : KeyKind P kt enc) (ht : P.underlying t = some (.map kt e)) {w : World} {b : Nat} {l : List (κ × Value)} (h : MapAt enc w b l) (x : κ) {z : Value} (hz : (zeroValue e).run P w = .ok z w) (ok : Bool) :
  (Instr.lookup t (.map (some b)) (enc x) ok).run P w = .ok (match mapFind x l 0 with | some (_, v) => if ok then .tuple #[v, .bool true] else v | none => if ok then .tuple #[z, .bool false] else z) w := by
 obtain ⟨es, c, h1, h2, _⟩ := h
 have hc := K.check es.isEmpty x w
 have hf := K.find x l es.toList w h2
 unfold Instr.lookup
 simp only [Sem.run_bind, run_underlying ht, Result.andThen_ok, getObj, Sem.run, h1]
 rw [show (pure es : Sem (Array MapEntry)).run P w = .ok es w from rfl, Result.andThen_ok, hc, Result.andThen_ok, hf, Result.andThen_ok]
 cases mapFind x l 0 with
 | none => simp [hz]
 | some p => simp
theorem map_update_new {enc : κ → Value} {t kt e : TypeId} (K : KeyKind P kt enc) (ht : P.underlying t = some (.map kt e)) {w : World} {b : Nat} {l : List (κ × Value)} (h : MapAt enc w b l) (x : κ) (v : Value) (hx : x ∉ l.map (·.1)) :
  ∃ w', (Instr.mapUpdate t (.map (some b)) (enc x) v).run P w = .ok () w' ∧ MapAt enc w' b (l ++ [(x, v)]) ∧ w.grownBy w' (some b) := by
 obtain ⟨es, c, h1, h2, h3, h4⟩ := h
 have hc := K.check false x w
 have hf := K.find x l es.toList w h2
 rw [mapFind_none.2 hx] at hf
 refine ⟨{ w with heap := w.heap.setIfInBounds b (.map (es.push { key := enc x, val := v, born := c }) (c + 1)) }, ?_, ⟨es.push { key := enc x, val := v, born := c }, c + 1, ?_, ?_, ?_, ?_⟩, ⟨rfl, rfl, rfl, by simp, fun i _ hi => ?_⟩⟩
 ·unfold Instr.mapUpdate
  simp only [Sem.run_bind, run_underlying ht, Result.andThen_ok, getObj, Sem.run, h1]
  rw [hc, Result.andThen_ok, hf, Result.andThen_ok]
  simp only [setObj, Sem.run, h1]
 ·show (w.heap.setIfInBounds b _)[b]? = _
  rw [Array.getElem?_setIfInBounds_self_of_lt (blk_lt h1)]
 ·rw [Array.toList_push, List.map_append, List.map_append, h2]
  rfl
 ·rw [Array.toList_push, List.map_append, h3, h4]
  simp [List.range_succ]
 ·simp [h4]
 ·show (w.heap.setIfInBounds b _)[i]? = _
  rw [Array.getElem?_setIfInBounds_ne (fun e => hi (by rw [e]))]
end
section
variable {κ : Type} [DecidableEq κ] {P : Program} {ops : Array Oper} {rest : List Oper} {o : Oper} {a : Act} {Q : Exit → Act → World → Prop}
theorem wpList_map_lookup {enc : κ → Value} (w : World) (hg : o.guard = none) (m x : Operand) (t : TypeId) (ok : Bool) (hop : o.op = Op.lookup t m x ok) {kt e : TypeId} (K : KeyKind P kt enc) (ht : P.underlying t = some (.map kt e)) {z : Value} (hz : ∀ w, (zeroValue e).run P w = .ok z w)
  (b : Nat) (l : List (κ × Value)) (h : MapAt enc w b l) (k : κ) (hm : a.eval m = .map (some b)) (hx : a.eval x = enc k)
  (hK : wpList P ops Q rest (a.put o.dst (match mapFind k l 0 with | some (_, v) => if ok then .tuple #[v, .bool true] else v | none => if ok then .tuple #[z, .bool false] else z)) w) : wpList P ops Q (o :: rest) a w := by
 refine wpList_plain hg fun K' hK' => ?_
 have hrun := h.lookup K ht k (hz w) ok
 unfold Oper.wp
 simp only [execOp, hop, hm, hx]
 simp [hrun, Result.andThen]
 exact hK' _ _ hK
theorem wpList_map_new {enc : κ → Value} (w : World) (hg : o.guard = none) (m x v : Operand) (t : TypeId) (hop : o.op = Op.mapUpdate t m x v) {kt e : TypeId} (K : KeyKind P kt enc) (ht : P.underlying t = some (.map kt e))
  (b : Nat) (l : List (κ × Value)) (h : MapAt enc w b l) (k : κ) (val : Value) (hnew : k ∉ l.map (·.1)) (hm : a.eval m = .map (some b)) (hx : a.eval x = enc k) (hv : a.eval v = val)
  (hK : ∀ w', MapAt enc w' b (l ++ [(k, val)]) → w.grownBy w' (some b) → wpList P ops Q rest (a.put o.dst undef) w') : wpList P ops Q (o :: rest) a w := by
 refine wpList_plain hg fun K' hK' => ?_
 obtain ⟨w', hrun, r1, r2⟩ := map_update_new K ht h k val hnew
 unfold Oper.wp
 simp only [execOp, hop, hm, hx, hv]
 simp [hrun, Result.andThen]
 exact hK' _ _ (hK w' r1 r2)
end
section
variable {κ : Type} [DecidableEq κ] {P : Program} {ops : Array Oper} {rest : List Oper} {o : Oper} {a : Act} {Q : Exit → Act → World → Prop}
/-- 'map[K]V{}': the world gets a letter. -/
theorem map_event (enc : κ → Value) {W : World} (hgd : o.guard = none) (t : TypeId) (hop : o.op = Op.makeMap t none)
  (h : ∀ b, b = W.heap.size → ∀ w1, MapAt enc w1 b [] → Below W.heap.size W w1 → wpList P ops Q rest (a.put o.dst (.map (some b))) w1) : wpList P ops Q (o :: rest) a W := by
 refine wpList_plain hgd fun K hK => ?_
 unfold Oper.wp execOp
 simp only [hop]
 exact hK _ _ (h _ rfl _ (MapAt.made enc W) (below_alloc (Below.refl _ _) _))
/-- 'v, ok := m[k]' where there is none. -/
theorem wpList_map_miss {enc : κ → Value} (w : World) (hg : o.guard = none) (m x : Operand) (t : TypeId) (hop : o.op = Op.lookup t m x true) {kt e : TypeId} (K : KeyKind P kt enc) (ht : P.underlying t = some (.map kt e)) {z : Value} (hz : ∀ w, (zeroValue e).run P w = .ok z w)
  (b : Nat) (l : List (κ × Value)) (h : MapAt enc w b l) (k : κ) (hm : a.eval m = .map (some b)) (hx : a.eval x = enc k) (hk : k ∉ l.map (·.1))
  (hK : wpList P ops Q rest (a.put o.dst (.tuple #[z, .bool false])) w) : wpList P ops Q (o :: rest) a w :=
 wpList_map_lookup w hg m x t true hop K ht hz b l h k hm hx (by rw [mapFind_none.2 hk]; exact hK)
/-- 'v, ok := m[k]' where there is one. -/
theorem wpList_map_hit {enc : κ → Value} (w : World) (hg : o.guard = none) (m x : Operand) (t : TypeId) (hop : o.op = Op.lookup t m x true) {kt e : TypeId} (K : KeyKind P kt enc) (ht : P.underlying t = some (.map kt e)) {z : Value} (hz : ∀ w, (zeroValue e).run P w = .ok z w)
  (b : Nat) (l : List (κ × Value)) (h : MapAt enc w b l) (k : κ) (hm : a.eval m = .map (some b)) (hx : a.eval x = enc k) (hk : k ∈ l.map (·.1))
  (hK : ∀ v, (k, v) ∈ l → wpList P ops Q rest (a.put o.dst (.tuple #[v, .bool true])) w) : wpList P ops Q (o :: rest) a w := by
 refine wpList_map_lookup w hg m x t true hop K ht hz b l h k hm hx ?_
 cases hf : mapFind k l 0 with
 | none => exact absurd hk (mapFind_none.1 hf)
 | some p =>
  obtain ⟨j, v⟩ := p
  have := (mapFind_some hf).2
  exact hK v (List.mem_of_getElem? this)
end
section
variable {P : Program} {ops : Array Oper} {rest : List Oper} {o : Oper} {a : Act} {Q : Exit → Act → World → Prop}
/-- A whole struct stored into a variable in memory: the world gets a letter. -/
theorem store_whole {W : World} (hgd : o.guard = none) (hN : o.dst = none) (t : TypeId) (p x : Operand) (ho : o.op = .store t p x) {g : Nat} {cs zs : Array Value} {te : TypeId} (hp : a.eval p = .pointer (some ⟨g, 0, none⟩)) (hx : a.eval x = .agg cs)
  (hb : W.heap[g]? = some (.cells zs te (0, 0))) (hsz : zs.size = cs.size) (hi : (P.info? t).map (·.size) = some cs.size) (hone : ∀ q ∈ cs.toList, q.oneCell' = true)
  (h : ∀ w1, w1.heap[g]? = some (.cells cs te (0, 0)) → W.grownBy w1 (some g) → w1.heap.size = W.heap.size → wpList P ops Q rest a w1) : wpList P ops Q (o :: rest) a W := by
 refine wpList_plain hgd fun K hK => ?_
 have hrun := run_store_run (P := P) (w := W) (g := g) (o := 0) (e := te) (cur := zs) t (.agg cs) cs.toList hb rfl (by simpa using hi) (by simp [hsz]) hone
 obtain ⟨cur, h1, h2, h3⟩ := setCells_row cs.toList 0 W zs hb (by simp [hsz])
 obtain ⟨s1, s2, s3, s4⟩ := setCells_same g cs.toList 0 W
 have hcur : cur = cs := by
  apply Array.toList_inj.1
  rw [h3]
  simp [hsz]
 subst hcur
 unfold Oper.wp execOp
 simp only [ho, hp, hx]
 simp only [Sem.run_bind, hrun, Result.andThen_ok]
 have := hK _ _ (h _ h1 ⟨s1, s2, s3, by rw [s4]; exact Nat.le_refl _, fun i _ hne => setCells_far _ 0 i (fun e => hne (by rw [e]))⟩ s4)
 simpa [Act.put, hN, Oper.upon] using this
end
instance : DecidableEq ByteArray := fun a b => decidable_of_iff (a.data = b.data) ⟨fun h => by cases a; cases b; cases h; rfl, fun h => by rw [h]⟩
theorem beq_bytes (a b : ByteArray) : (a == b) = decide (a = b) := by
 rw [beq_toListBytes, ByteArray.toList_eq, ByteArray.toList_eq]
 by_cases h : a = b
 ·simp [h]
 ·have : a.data.toList ≠ b.data.toList := fun e => h (by cases a; cases b; simp only [ByteArray.mk.injEq]; exact Array.toList_inj.1 e)
  rw [decide_eq_false h, beq_eq_false_iff_ne.2 this]
theorem string_keys {P : Program} {kt : TypeId} (hu : P.underlying kt = some .string) : KeyKind P kt Value.string where
 check := fun e x w => by
  show (Instr.checkKey e (9999 + 1) kt (.string x)).run P w = _
  rw [Instr.checkKey]
  simp [Sem.run_bind, run_underlying hu]
 find := fun x l es w h => by
  have key : ∀ (l : List (ByteArray × Value)) (es : List MapEntry) (i : Nat), es.map (fun e => (e.key, e.val)) = l.map (fun p => (Value.string p.1, p.2)) → Instr.findNow .string (.string x) es i = some (mapFind x l i) := by
   intro l
   induction l with
   | nil =>
    intro es i h
    have : es = [] := by simpa using h
    subst this
    rfl
   | cons p l ih =>
    intro es i h
    cases es with
    | nil => simp at h
    | cons e es =>
     simp only [List.map_cons, List.cons.injEq, Prod.mk.injEq] at h
     obtain ⟨⟨h1, h2⟩, h3⟩ := h
     rw [Instr.findNow, h1, mapFind]
     by_cases hx : x = p.1
     ·subst hx
      simp [Instr.sameNow, h2, beq_bytes]
     ·have : (x == p.1) = false := by rw [beq_bytes, decide_eq_false hx]
      simp only [Instr.sameNow, this, if_neg hx]
      exact ih es (i + 1) h3
  unfold Instr.findKey
  simp only [Sem.run_bind, run_underlying hu, Result.andThen_ok, key l es 0 h]
  rfl
 same := fun x => by
  show Instr.sameBits (9999 + 1) _ _ = true
  simp [Instr.sameBits, beq_bytes]
end Go.Proofs.YtihiicjnjhideaaDoorW.PrintWords
end
