/- Parts of the proof of packBack and packOne and packCuts and packSpoilt and packSmall: Map, WLast, WApart, WKept, WEqStruct, WGuard, WMore, Arr. No condition beyond each lemma's own. -/
import Derived.Deep.RegionHeld3
import Derived.Laws.BitsLemmas
import Derived.Laws.StructEq
import Derived.Maps.OwnOps
import Derived.OrdersHeld
import Derived.RowKit
import Derived.Test.YtebiogaacikphaaTQ0
section
namespace Go.Proofs.YtebiogaacikphaaW.PrintWords
open Go.RowKit Go.MapKept
section
variable {κ : Type} [DecidableEq κ] {P : Program}
set_option linter.unusedSectionVars false
/-- Where among the entries the key x is. -/
def mapFind (x : κ) : List (κ × Value) → Nat → Option (Nat × Value)
  | [], _ => none
  | p :: l, i => if x = p.1 then some (i, p.2) else mapFind x l (i + 1)
/-- What a kind of keys is: how it is written, and that the machine tells keys apart as κ does. -/
structure KeyKind (P : Program) (kt : TypeId) (enc : κ → Value) : Prop where
  check : ∀ (e : Bool) (x : κ) (w : World), (Instr.checkKey e 10000 kt (enc x)).run P w = .ok () w
  find : ∀ (x : κ) (l : List (κ × Value)) (es : List MapEntry) (w : World), es.map (fun e => (e.key, e.val)) = l.map (fun p => (enc p.1, p.2)) → (Instr.findKey kt (enc x) es).run P w = .ok (mapFind x l 0) w
  same : ∀ x : κ, Instr.sameBits 10000 (enc x) (enc x) = true
/-- Block b of w is a map that holds l. -/
def MapAt (enc : κ → Value) (w : World) (b : Nat) (l : List (κ × Value)) : Prop :=
  ∃ es clock, w.heap[b]? = some (.map es clock) ∧ es.toList.map (fun e => (e.key, e.val)) = l.map (fun p => (enc p.1, p.2)) ∧ es.toList.map (·.born) = List.range l.length ∧ clock = l.length
theorem MapAt.made (enc : κ → Value) (w : World) : MapAt enc (w.alloc (.map #[] 0)) w.heap.size [] := ⟨#[], 0, by simpa using heap_alloc_new w _, rfl, rfl, rfl⟩
theorem MapAt.kept {enc : κ → Value} {w w' : World} {b : Nat} {l : List (κ × Value)} (h : MapAt enc w b l) (hb : w'.heap[b]? = w.heap[b]?) : MapAt enc w' b l := by
  obtain ⟨es, c, h1, h2⟩ := h
  exact ⟨es, c, hb.trans h1, h2⟩
theorem MapAt.lt {enc : κ → Value} {w : World} {b : Nat} {l : List (κ × Value)} (h : MapAt enc w b l) : b < w.heap.size := by
  obtain ⟨es, c, h1, h2⟩ := h
  exact blk_lt h1
theorem MapAt.below {enc : κ → Value} {w w' : World} {b : Nat} {l : List (κ × Value)} (h : MapAt enc w b l) (hb : Below w.heap.size w w') : MapAt enc w' b l := h.kept (hb.block b h.lt)
theorem MapAt.grown {enc : κ → Value} {w w' : World} {row : Option Nat} {b : Nat} {l : List (κ × Value)} (h : MapAt enc w b l) (hg : w.grownBy w' row) (hne : some b ≠ row) : MapAt enc w' b l := h.kept (hg.block b h.lt hne)
theorem mapFind_none {x : κ} : ∀ {l : List (κ × Value)} {i : Nat}, mapFind x l i = none ↔ x ∉ l.map (·.1)
  | [], _ => by simp [mapFind]
  | p :: l, i => by
    rw [mapFind]
    split
    · rename_i h
      simp [h]
    · rename_i h
      rw [mapFind_none]
      simp [h]
theorem mapFind_some {x : κ} : ∀ {l : List (κ × Value)} {i j : Nat} {v : Value}, mapFind x l i = some (j, v) → i ≤ j ∧ l[j - i]? = some (x, v)
  | [], _, _, _, h => by cases h
  | p :: l, i, j, v, h => by
    rw [mapFind] at h
    split at h
    · rename_i hx
      cases h
      refine ⟨Nat.le_refl _, ?_⟩
      rw [Nat.sub_self, hx]
      rfl
    · obtain ⟨h1, h2⟩ := mapFind_some h
      refine ⟨by omega, ?_⟩
      rw [show j - i = (j - (i + 1)) + 1 by omega, List.getElem?_cons_succ]
      exact h2
/-- 'v, ok := m[k]'. -/
theorem MapAt.lookup {enc : κ → Value} {t kt e : TypeId} (K : KeyKind P kt enc) (ht : P.underlying t = some (.map kt e)) {w : World} {b : Nat} {l : List (κ × Value)} (h : MapAt enc w b l) (x : κ) {z : Value} (hz : (zeroValue e).run P w = .ok z w) (ok : Bool) :
    (Instr.lookup t (.map (some b)) (enc x) ok).run P w = .ok (match mapFind x l 0 with | some (_, v) => if ok then .tuple #[v, .bool true] else v | none => if ok then .tuple #[z, .bool false] else z) w := by
  obtain ⟨es, c, h1, h2, _⟩ := h
  have hc := K.check es.isEmpty x w
  have hf := K.find x l es.toList w h2
  unfold Instr.lookup
  simp only [Sem.run_bind, run_underlying ht, Result.andThen_ok, getObj, Sem.run, h1]
  rw [show (pure es : Sem (Array MapEntry)).run P w = .ok es w from rfl, Result.andThen_ok, hc, Result.andThen_ok, hf, Result.andThen_ok]
  cases mapFind x l 0 with
  | none => simp [hz]
  | some p => simp
theorem map_update_new {enc : κ → Value} {t kt e : TypeId} (K : KeyKind P kt enc) (ht : P.underlying t = some (.map kt e)) {w : World} {b : Nat} {l : List (κ × Value)} (h : MapAt enc w b l) (x : κ) (v : Value) (hx : x ∉ l.map (·.1)) :
    ∃ w', (Instr.mapUpdate t (.map (some b)) (enc x) v).run P w = .ok () w' ∧ MapAt enc w' b (l ++ [(x, v)]) ∧ w.grownBy w' (some b) := by
  obtain ⟨es, c, h1, h2, h3, h4⟩ := h
  have hc := K.check false x w
  have hf := K.find x l es.toList w h2
  rw [mapFind_none.2 hx] at hf
  refine ⟨{ w with heap := w.heap.setIfInBounds b (.map (es.push { key := enc x, val := v, born := c }) (c + 1)) }, ?_, ⟨es.push { key := enc x, val := v, born := c }, c + 1, ?_, ?_, ?_, ?_⟩, ⟨rfl, rfl, rfl, by simp, fun i _ hi => ?_⟩⟩
  · unfold Instr.mapUpdate
    simp only [Sem.run_bind, run_underlying ht, Result.andThen_ok, getObj, Sem.run, h1]
    rw [hc, Result.andThen_ok, hf, Result.andThen_ok]
    simp only [setObj, Sem.run, h1]
  · show (w.heap.setIfInBounds b _)[b]? = _
    rw [Array.getElem?_setIfInBounds_self_of_lt (blk_lt h1)]
  · rw [Array.toList_push, List.map_append, List.map_append, h2]
    rfl
  · rw [Array.toList_push, List.map_append, h3, h4]
    simp [List.range_succ]
  · simp [h4]
  · show (w.heap.setIfInBounds b _)[i]? = _
    rw [Array.getElem?_setIfInBounds_ne (fun e => hi (by rw [e]))]
end
section
variable {κ : Type} [DecidableEq κ] {P : Program} {ops : Array Oper} {rest : List Oper} {o : Oper} {a : Act} {Q : Exit → Act → World → Prop}
/-- 'map[K]V{}': the world gets a letter. -/
theorem map_event (enc : κ → Value) {W : World} (hgd : o.guard = none) (t : TypeId) (hop : o.op = Op.makeMap t none)
    (h : ∀ b, b = W.heap.size → ∀ w1, MapAt enc w1 b [] → Below W.heap.size W w1 → wpList P ops Q rest (a.put o.dst (.map (some b))) w1) : wpList P ops Q (o :: rest) a W := by
  refine wpList_plain hgd fun K hK => ?_
  unfold Oper.wp execOp
  simp only [hop]
  exact hK _ _ (h _ rfl _ (MapAt.made enc W) (below_alloc (Below.refl _ _) _))
end
instance : DecidableEq ByteArray := fun a b => decidable_of_iff (a.data = b.data) ⟨fun h => by cases a; cases b; cases h; rfl, fun h => by rw [h]⟩
theorem beq_bytes (a b : ByteArray) : (a == b) = decide (a = b) := by
  rw [beq_toListBytes, ByteArray.toList_eq, ByteArray.toList_eq]
  by_cases h : a = b
  · simp [h]
  · have : a.data.toList ≠ b.data.toList := fun e => h (by cases a; cases b; simp only [ByteArray.mk.injEq]; exact Array.toList_inj.1 e)
    rw [decide_eq_false h, beq_eq_false_iff_ne.2 this]
theorem string_keys {P : Program} {kt : TypeId} (hu : P.underlying kt = some .string) : KeyKind P kt Value.string where
  check := fun e x w => by
    show (Instr.checkKey e (9999 + 1) kt (.string x)).run P w = _
    rw [Instr.checkKey]
    simp [Sem.run_bind, run_underlying hu]
  find := fun x l es w h => by
    have key : ∀ (l : List (ByteArray × Value)) (es : List MapEntry) (i : Nat), es.map (fun e => (e.key, e.val)) = l.map (fun p => (Value.string p.1, p.2)) → Instr.findNow .string (.string x) es i = some (mapFind x l i) := by
      intro l
      induction l with
      | nil =>
        intro es i h
        have : es = [] := by simpa using h
        subst this
        rfl
      | cons p l ih =>
        intro es i h
        cases es with
        | nil => simp at h
        | cons e es =>
          simp only [List.map_cons, List.cons.injEq, Prod.mk.injEq] at h
          obtain ⟨⟨h1, h2⟩, h3⟩ := h
          rw [Instr.findNow, h1, mapFind]
          by_cases hx : x = p.1
          · subst hx
            simp [Instr.sameNow, h2, beq_bytes]
          · have : (x == p.1) = false := by rw [beq_bytes, decide_eq_false hx]
            simp only [Instr.sameNow, this, if_neg hx]
            exact ih es (i + 1) h3
    unfold Instr.findKey
    simp only [Sem.run_bind, run_underlying hu, Result.andThen_ok, key l es 0 h]
    rfl
  same := fun x => by
    show Instr.sameBits (9999 + 1) _ _ = true
    simp [Instr.sameBits, beq_bytes]
end Go.Proofs.YtebiogaacikphaaW.PrintWords
end
section
namespace Go.Proofs.YtebiogaacikphaaW.PrintLast
section
variable {P : Program} {ops : Array Oper} {Q : Exit → Act → World → Prop} {md : Region.Mode} {S : World → Prop} {ds : List Nat}
theorem enters_ {f : FuncId} {fn : Func} (hf : P.funcs[f]? = some fn) (hname : (fn.name == "runtime.NumGoroutine") = false) (hb : fn.body.isSome = true) (args : Array Value) (w : World) : (callFunc f args).run P w = .ok (.enter f args) w := by
  have h1 : fn.name ≠ "runtime.NumGoroutine" := by simpa using hname
  obtain ⟨c, hc⟩ := Option.isSome_iff_exists.1 hb
  simp [callFunc, hf, h1, hc]
/-- A call in a plain region, as an arm of go_wp2_with ('hd' first: it fails at once at another operation). -/
theorem goesL_ {rest : List Oper} {oi : Oper} {a : Act} {w : World} (N : Option Tmp) (hd : oi.dst = N) (hg : oi.guard = none) {f : FuncId} {fn : Func} {as : Array Operand} {ts : Array TypeId} (hf : P.funcs[f]? = some fn) (hname : (fn.name == "runtime.NumGoroutine") = false) (hb : fn.body.isSome = true) (args : Array Value)
    (hop : oi.op = .call { callee := .value (.func f), args := as, argTypes := ts }) (hargs : as.map a.eval = args)
    (h : Calls P f args w fun e w' => ∃ v, e = .returned v ∧ wpList P ops Q rest (a.put N v) w') : wpList P ops Q (oi :: rest) a w := by
  refine wpList_plain hg fun K hK => ?_
  have he := enters_ hf hname hb args w
  have hrun : (execOp a.eval oi).run P w = .ok (.enter f args) w := by
    unfold execOp
    simp [hop, resolve, Deferred.ofValue, invoke, Act.eval, hargs, he]
  unfold Oper.wp
  rw [hrun, Oper.upon_enter]
  refine h.mono fun e w'' hh => ?_
  obtain ⟨v, rfl, hk⟩ := hh
  subst hd
  exact hK _ _ hk
theorem i64_w (n : Int) : IntKind.i64.wrap n = Go.RowKit.wrap64 n := by unfold Go.RowKit.wrap64; exact IntKind.wrap_i64 n
theorem i32_w (n : Int) : IntKind.i32.wrap n = Go.RowKit.wrap32 n := by unfold Go.RowKit.wrap32; exact IntKind.wrap_i32 n
end
end Go.Proofs.YtebiogaacikphaaW.PrintLast
end
section
namespace Go.Proofs.YtebiogaacikphaaW.PrintWords
open Go.RowKit
namespace Kd
/-- An element with its index: its blocks are those that f gives to it. -/
def tag {α : Type} (f : Nat → Nat) (d : Kd α) : Kd (α × Nat) where
  sz := d.sz
  E := d.E
  K := fun w x cs => d.K w x.1 cs
  M := fun w base ok x cs => d.M w base (fun k => ok k ∧ f k = x.2) x.1 cs
  K_len := fun h => d.K_len h
  K_one := fun h => d.K_one h
  K_below := fun hb h => d.K_below hb h
  K_of_M := fun h => d.K_of_M h
  M_mono := fun hok h => d.M_mono (fun k hk => ⟨hok k hk.1, hk.2⟩) h
  M_bound := fun h => d.M_mono (fun _ hk => ⟨⟨hk.1.1, hk.2⟩, hk.1.2⟩) (d.M_bound h)
  M_move := fun hm h => d.M_move (fun k hk => hm k hk.1) h
  M_lower := fun hb h => d.M_lower hb h
/-- A row of elements (type e) of the call's own, no two of which lead to one block. -/
def S {α : Type} (d : Kd α) (e : Nat) (w : World) (base : Nat) (ok : Nat → Prop) (v : Value) (xs : List α) : Prop := ∃ f, (tag f d).R e w base ok v xs.zipIdx
end Kd
end Go.Proofs.YtebiogaacikphaaW.PrintWords
end
section
namespace Go.Proofs.YtebiogaacikphaaW.PrintWords
open Go.RowKit
def Kept (w W : World) (S : Nat → Prop) : Prop := w.heap.size ≤ W.heap.size ∧ ∀ i, i < w.heap.size → ¬ S i → W.heap[i]? = w.heap[i]?
section
variable {w W W2 : World} {S S2 S' : Nat → Prop}
theorem Kept.refl (w : World) (S : Nat → Prop) : Kept w w S := ⟨Nat.le_refl _, fun _ _ _ => rfl⟩
theorem Kept.of_below (h : Below w.heap.size w W) (S : Nat → Prop) : Kept w W S := ⟨h.size, fun i hi _ => h.block i hi⟩
theorem Kept.then_ (h : Kept w W S) (k : Kept W W2 S2) (hs : ∀ k, S2 k → S k ∨ w.heap.size ≤ k) : Kept w W2 S :=
  ⟨Nat.le_trans h.1 k.1, fun i hi hn => (k.2 i (Nat.lt_of_lt_of_le hi h.1) (fun h2 => (hs i h2).elim hn (fun h3 => by omega))).trans (h.2 i hi hn)⟩
theorem Kept.of_grown {row : Option Nat} (hg : W.grownBy W2 row) (h : Kept w W S) (hr : ∀ k, row = some k → S k ∨ w.heap.size ≤ k) : Kept w W2 S :=
  h.then_ (S2 := fun k => row = some k) ⟨hg.size, fun i hi hn => hg.block i hi (fun he => hn he.symm)⟩ hr
theorem Kept.below (h : Kept w W S) (hb : Below W.heap.size W W2) : Kept w W2 S := h.then_ (Kept.of_below hb (fun _ => False)) (fun _ hk => hk.elim)
theorem Kept.alloc (h : Kept w W S) (o : Obj) : Kept w (W.alloc o) S := h.below (below_alloc (Below.refl _ _) o)
theorem Kept.drew (h : Kept w W S) : Kept w W.drew S := h
theorem Kept.drewN (h : Kept w W S) (m : Nat) : Kept w (W.drewN m) S := h
end
namespace Kd
section
variable {α : Type} {d : Kd α} {e base n c : Nat} {ok oki S S2 : Nat → Prop} {w w0 W W1 W2 : World} {v : Value} {A : Option Addr} {xs : List α} {i : Int} {cs : List Value}
theorem C_kept_now (h : ∀ W', Kept w W' S → d.C W' A n xs) (hk : Kept w W S) : d.C W A n xs := h W hk
end
end Kd
end Go.Proofs.YtebiogaacikphaaW.PrintWords
end
section
namespace Go.Proofs.YtebiogaacikphaaW.PrintWords
open Go.RowKit
section
variable {P : Program} {d : Nat} {xs ys : Array Value} {f : Field} {fs : List Field} {a b : Value} {r s : Bool} {w : World}
/-- The last field that counts. -/
theorem eqf_last (hn : (f.name == "_") = false) (ha : (part f.type xs f.offset).run P w = .ok a w) (hb : (part f.type ys f.offset).run P w = .ok b w) (he : (Op.equalIn d f.type a b).run P w = .ok r w) : (Op.eqFields d xs ys [f]).run P w = .ok r w := by
  have hn' : f.name ≠ "_" := by simpa using hn
  simp only [Op.eqFields, if_pos hn', Sem.run_bind, ha, hb, he, Result.andThen_ok]
  cases r <;> simp
theorem eqf_cons (hn : (f.name == "_") = false) (ha : (part f.type xs f.offset).run P w = .ok a w) (hb : (part f.type ys f.offset).run P w = .ok b w) (he : (Op.equalIn d f.type a b).run P w = .ok r w) (hr : (Op.eqFields d xs ys fs).run P w = .ok s w) : (Op.eqFields d xs ys (f :: fs)).run P w = .ok (r && s) w := by
  have hn' : f.name ≠ "_" := by simpa using hn
  rw [Op.eqFields]
  simp only [if_pos hn', Sem.run_bind, ha, hb, he, Result.andThen_ok]
  cases r
  · simp
  · simpa using hr
theorem eqA_of {t : TypeId} {fs : Array Field} (hu : P.underlying t = some (.struct fs)) (hp : P.stoodInHeld t = false) (h : (Op.eqFields d xs ys fs.toList).run P w = .ok r w) : (Op.equalIn (d + 1) t (.agg xs) (.agg ys)).run P w = .ok r w := by
  have hf : P.fieldsOf t = fs := by simp [Program.fieldsOf, hu]
  rw [run_equalIn_struct (P := P) w d t xs ys (by rw [hf]; exact hu) hp, hf]
  exact h
end
end Go.Proofs.YtebiogaacikphaaW.PrintWords
end
section
namespace Go.Proofs.YtebiogaacikphaaW.PrintWords
open Go.RowKit
section
variable {P : Program} {ops : Array Oper} {rest : List Oper} {o : Oper} {a : Act} {Q : Exit → Act → World → Prop} {W : World}
/-- The gate takes the guard off (hw: 'by rfl', 'by kernel_rfl': the guard's slot holds what is wanted). -/
theorem gate_guard (hw : Region.wanted o (yielded ops a.tmps) = true) (h : wpList P ops Q ({ o with guard := none } :: rest) a W) : wpList P ops Q (o :: rest) a W := by
  have h1 : Region.wanted { o with guard := none } (yielded ops a.tmps) = true := rfl
  unfold wpList at h ⊢
  rw [if_pos h1] at h
  rw [if_pos hw]
  exact h
end
end Go.Proofs.YtebiogaacikphaaW.PrintWords
end
section
namespace Go.Proofs.YtebiogaacikphaaW.PrintWords
open Go.RowKit
section
variable {P : Program} {ops : Array Oper} {rest : List Oper} {o : Oper} {a : Act} {Q : Exit → Act → World → Prop} {W : World}
/-- The operation is a call of this function (a cheap look ahead of a dear step). -/
theorem gate_callee {f : FuncId} {as : Array Operand} {ts : Array TypeId} (_ho : o.op = .call { callee := .value (.func f), args := as, argTypes := ts }) (h : wpList P ops Q (o :: rest) a W) : wpList P ops Q (o :: rest) a W := h
/-- The operation is a builtin over these places. -/
theorem gate_builtin {b : Builtin} {xs : Array Operand} {ts : Array TypeId} (_ho : o.op = .call { callee := .builtin b, args := xs, argTypes := ts }) (h : wpList P ops Q (o :: rest) a W) : wpList P ops Q (o :: rest) a W := h
end
/-- The smaller of two whole numbers, as Go's min tells it. -/
def mn (a b : Int) : Int := if b < a then b else a
end Go.Proofs.YtebiogaacikphaaW.PrintWords
end
section
namespace Go.Proofs.YtebiogaacikphaaW.PrintWords
section
variable {P : Program}
theorem eqArr4 {t e : TypeId} {k : IntKind} (ht : P.underlying t = some (.array 4 e)) (he : P.underlying e = some (.int k)) (hi : (P.info? e).map (·.size) = some 1) (d : Nat) (w : World) (x0 y0 x1 y1 x2 y2 x3 y3 : Int) :
    (Op.equalIn (d + 2) t (.agg #[.int k x0, .int k x1, .int k x2, .int k x3]) (.agg #[.int k y0, .int k y1, .int k y2, .int k y3])).run P w = .ok (x0 == y0 && (x1 == y1 && (x2 == y2 && x3 == y3))) w := by
  obtain ⟨i, hi, hz⟩ := Option.map_eq_some_iff.1 hi
  have hs : ∀ w, (sizeOf e).run P w = .ok 1 w := fun w => by simp [sizeOf, typeInfo, hi, hz]
  have hg : ∀ w, (isAgg e).run P w = .ok false w := fun w => by simp [isAgg, run_underlying he]
  have hq : ∀ (a b : Int) (w : World), (Op.equalIn (d + 1) e (.int k a) (.int k b)).run P w = .ok (a == b) w := fun a b w => run_equalIn_int w d e k k a b he
  have hl : List.range' 0 4 1 = [0, 1, 2, 3] := rfl
  rw [show d + 2 = (d + 1) + 1 from rfl, Op.equalIn]
  simp [Sem.run_bind, run_underlying ht, Result.andThen_ok, hs, Std.Legacy.Range.forIn_eq_forIn_range', Std.Legacy.Range.size, hl, part, hg, hq]
  by_cases h0 : x0 = y0 <;> by_cases h1 : x1 = y1 <;> by_cases h2 : x2 = y2 <;> by_cases h3 : x3 = y3 <;> simp [h0, h1, h2, h3]
end
end Go.Proofs.YtebiogaacikphaaW.PrintWords
end
