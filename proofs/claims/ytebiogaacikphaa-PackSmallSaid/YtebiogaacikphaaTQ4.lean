/- Parts of the proof of packBack and packOne and packCuts and packSpoilt and packSmall: MapEntry, PackClasses, PAllx7, PAllx8, PAllx9. No condition beyond each lemma's own. -/
import Derived.StillTailTactics
import Derived.Test.YtebiogaacikphaaTQ2
import Derived.Test.YtebiogaacikphaaTQ3
section
namespace Go.Proofs.YtebiogaacikphaaW.PrintWords
open Go.RowKit Go.MapKept
section
variable {P : Program}
abbrev Four := Int × Int × Int × Int
def encFour (k : IntKind) (x : Four) : Value := .agg #[.int k x.1, .int k x.2.1, .int k x.2.2.1, .int k x.2.2.2]
theorem four_keys {t et : TypeId} {k : IntKind} (ht : P.underlying t = some (.array 4 et)) (he : P.underlying et = some (.int k)) (hi : (P.info? et).map (·.size) = some 1) : KeyKind P t (encFour k) where
  check := fun b x w => by
    obtain ⟨i, hi, hz⟩ := Option.map_eq_some_iff.1 hi
    have hs : ∀ w, (sizeOf et).run P w = .ok 1 w := fun w => by simp [sizeOf, typeInfo, hi, hz]
    have hg : ∀ w, (isAgg et).run P w = .ok false w := fun w => by simp [isAgg, run_underlying he]
    have hl : List.range' 0 4 1 = [0, 1, 2, 3] := rfl
    have hc : ∀ (y : Int) (w : World), (Instr.checkKey b 9999 et (.int k y)).run P w = .ok () w := fun y w => by
      rw [show (9999 : Nat) = 9998 + 1 from rfl, Instr.checkKey]
      simp [Sem.run_bind, run_underlying he]
    rw [show (10000 : Nat) = 9999 + 1 from rfl, Instr.checkKey]
    simp [encFour, Sem.run_bind, run_underlying ht, Result.andThen_ok, hs, Std.Legacy.Range.forIn_eq_forIn_range', Std.Legacy.Range.size, hl, part, hg, hc]
  find := fun x l es w h => by
    have eq : ∀ (x y : Four) (w : World), (Op.equal t (encFour k x) (encFour k y)).run P w = .ok (decide (x = y)) w := fun x y w => by
      have := eqArr4 (P := P) ht he hi 9998 w x.1 y.1 x.2.1 y.2.1 x.2.2.1 y.2.2.1 x.2.2.2 y.2.2.2
      have hb : decide (x = y) = (x.1 == y.1 && (x.2.1 == y.2.1 && (x.2.2.1 == y.2.2.1 && x.2.2.2 == y.2.2.2))) := by
        obtain ⟨x0, x1, x2, x3⟩ := x
        obtain ⟨y0, y1, y2, y3⟩ := y
        by_cases h0 : x0 = y0 <;> by_cases h1 : x1 = y1 <;> by_cases h2 : x2 = y2 <;> by_cases h3 : x3 = y3 <;> simp [h0, h1, h2, h3]
      rw [hb]
      exact this
    have ask : ∀ (l : List (Four × Value)) (es : List MapEntry) (i : Nat), es.map (fun e => (e.key, e.val)) = l.map (fun p => (encFour k p.1, p.2)) → (Instr.findAsking t (encFour k x) es i).run P w = .ok (mapFind x l i) w := by
      intro l
      induction l with
      | nil =>
        intro es i h
        have : es = [] := by simpa using h
        subst this
        rfl
      | cons p l ih =>
        intro es i h
        cases es with
        | nil => simp at h
        | cons e es =>
          simp only [List.map_cons, List.cons.injEq, Prod.mk.injEq] at h
          obtain ⟨⟨h1, h2⟩, h3⟩ := h
          rw [Instr.findAsking, h1, mapFind, Sem.run_bind, eq, Result.andThen_ok]
          by_cases hx : x = p.1
          · rw [if_pos hx]
            simp [hx, h2]
          · rw [if_neg hx]
            simp only [hx, decide_false, Bool.false_eq_true, if_false]
            exact ih es (i + 1) h3
    unfold Instr.findKey
    simp only [Sem.run_bind, run_underlying ht, Result.andThen_ok]
    cases l with
    | nil =>
      have : es = [] := by simpa using h
      subst this
      rfl
    | cons p l =>
      cases es with
      | nil => simp at h
      | cons e es =>
        have hn : Instr.findNow (.array 4 et) (encFour k x) (e :: es) 0 = none := by
          rw [Instr.findNow]
          rfl
        rw [hn]
        exact ask (p :: l) (e :: es) 0 h
  same := fun x => by
    rw [show (10000 : Nat) = 9998 + 1 + 1 from rfl]
    simp [encFour, Instr.sameBits]
end
section
variable {κ : Type} [DecidableEq κ] {P : Program}
/-- 'm[k]++' of a key that isn't there yet: the entry is made. -/
theorem map_entry_new {enc : κ → Value} {t kt e : TypeId} (K : KeyKind P kt enc) (ht : P.underlying t = some (.map kt e)) {w : World} {b : Nat} {l : List (κ × Value)} (h : MapAt enc w b l) (x : κ) (hx : x ∉ l.map (·.1)) {z : Value} (hz : ∀ w, (zeroValue e).run P w = .ok z w) :
    ∃ w', (Instr.mapEntry t (.map (some b)) (enc x)).run P w = .ok (.tuple #[z, .int .i64 l.length]) w' ∧ MapAt enc w' b (l ++ [(x, z)]) ∧ w.grownBy w' (some b) := by
  obtain ⟨es, c, h1, h2, h3, h4⟩ := h
  have hc := K.check false x w
  have hf := K.find x l es.toList w h2
  rw [mapFind_none.2 hx] at hf
  refine ⟨{ w with heap := w.heap.setIfInBounds b (.map (es.push { key := enc x, val := z, born := c }) (c + 1)) }, ?_, ⟨es.push { key := enc x, val := z, born := c }, c + 1, ?_, ?_, ?_, ?_⟩, ⟨rfl, rfl, rfl, by simp, fun i _ hi => ?_⟩⟩
  · unfold Instr.mapEntry
    simp only [Sem.run_bind, run_underlying ht, Result.andThen_ok, getObj, Sem.run, h1]
    rw [hc, Result.andThen_ok, hf, Result.andThen_ok]
    simp only [Sem.run_bind, hz, Result.andThen_ok, setObj, Sem.run, h1]
    rw [h4]
    rfl
  · show (w.heap.setIfInBounds b _)[b]? = _
    rw [Array.getElem?_setIfInBounds_self_of_lt (blk_lt h1)]
  · rw [Array.toList_push, List.map_append, List.map_append, h2]
    rfl
  · rw [Array.toList_push, List.map_append, h3, h4]
    simp [List.range_succ]
  · simp [h4]
  · show (w.heap.setIfInBounds b _)[i]? = _
    rw [Array.getElem?_setIfInBounds_ne (fun e => hi (by rw [e]))]
/-- .. of one that is there. -/
theorem map_entry_hit {enc : κ → Value} {t kt e : TypeId} (K : KeyKind P kt enc) (ht : P.underlying t = some (.map kt e)) {w : World} {b : Nat} {l : List (κ × Value)} (h : MapAt enc w b l) (x : κ) {j : Nat} {v : Value} (hx : mapFind x l 0 = some (j, v)) :
    ∃ w', (Instr.mapEntry t (.map (some b)) (enc x)).run P w = .ok (.tuple #[v, .int .i64 j]) w' ∧ MapAt enc w' b l ∧ w.grownBy w' (some b) := by
  obtain ⟨es, c, h1, h2, h3, h4⟩ := h
  have hc := K.check false x w
  have hf := K.find x l es.toList w h2
  rw [hx] at hf
  have hj := (mapFind_some hx).2
  rw [Nat.sub_zero] at hj
  have hjl : j < l.length := (List.getElem?_eq_some_iff.1 hj).1
  have hlen : es.toList.length = l.length := by have := congrArg List.length h2; simpa using this
  have hjs : j < es.size := by simpa using (by omega : j < es.toList.length)
  have hk : (es[j]?.map (·.key)).getD (enc x) = enc x := by
    have := congrArg (fun q => q[j]?) h2
    simp only [List.getElem?_map, hj, Option.map_some] at this
    rw [Array.getElem?_toList] at this
    obtain ⟨en, h5, h6⟩ := Option.map_eq_some_iff.1 this
    rw [h5]
    simp only [Prod.mk.injEq] at h6
    exact h6.1
  have hb : (es[j]?.map (fun x => (x.born : Int))).getD 0 = (j : Int) := by
    have := congrArg (fun q => q[j]?) h3
    simp only [List.getElem?_map, List.getElem?_range hjl] at this
    rw [Array.getElem?_toList] at this
    obtain ⟨en, h5, h6⟩ := Option.map_eq_some_iff.1 this
    rw [h5]
    simp [h6]
  have hsame : (es.modify j fun e => { e with key := enc x }) = es := by
    apply Array.toList_inj.1
    apply List.ext_getElem?
    intro q
    rw [Array.getElem?_toList, Array.getElem?_toList, Array.getElem?_modify]
    split
    · rename_i hq
      subst hq
      cases hq : es[j]? with
      | none => rfl
      | some en =>
        rw [hq] at hk
        simp only [Option.map_some, Option.getD_some] at hk
        simp only [Option.map_some, Option.some.injEq]
        rw [← hk]
    · rfl
  refine ⟨{ w with heap := w.heap.setIfInBounds b (.map es c) }, ?_, ⟨es, c, ?_, h2, h3, h4⟩, ⟨rfl, rfl, rfl, by simp, fun i _ hi => ?_⟩⟩
  · unfold Instr.mapEntry
    simp only [Sem.run_bind, run_underlying ht, Result.andThen_ok, getObj, Sem.run, h1]
    rw [hc, Result.andThen_ok, hf, Result.andThen_ok]
    simp only [Sem.run_bind, hk, Instr.keyThatStays, K.same, if_true]
    rw [show (pure (enc x) : Sem Value).run P w = .ok (enc x) w from rfl, Result.andThen_ok]
    simp only [setObj, Sem.run, h1, Result.andThen, hsame]
    rw [hb]
    rfl
  · show (w.heap.setIfInBounds b _)[b]? = _
    rw [Array.getElem?_setIfInBounds_self_of_lt (blk_lt h1)]
  · show (w.heap.setIfInBounds b _)[i]? = _
    rw [Array.getElem?_setIfInBounds_ne (fun e => hi (by rw [e]))]
/-- 'm[k] = v' of a key that is there. -/
theorem map_update_hit {enc : κ → Value} {t kt e : TypeId} (K : KeyKind P kt enc) (ht : P.underlying t = some (.map kt e)) {w : World} {b : Nat} {l : List (κ × Value)} (h : MapAt enc w b l) (x : κ) {j : Nat} {u : Value} (hx : mapFind x l 0 = some (j, u)) (v : Value) :
    ∃ w', (Instr.mapUpdate t (.map (some b)) (enc x) v).run P w = .ok () w' ∧ MapAt enc w' b (l.set j (x, v)) ∧ w.grownBy w' (some b) := by
  obtain ⟨es, c, h1, h2, h3, h4⟩ := h
  have hc := K.check false x w
  have hf := K.find x l es.toList w h2
  rw [hx] at hf
  have hj := (mapFind_some hx).2
  rw [Nat.sub_zero] at hj
  have hjl : j < l.length := (List.getElem?_eq_some_iff.1 hj).1
  have hk : (es[j]?.map (·.key)).getD (enc x) = enc x := by
    have := congrArg (fun q => q[j]?) h2
    simp only [List.getElem?_map, hj, Option.map_some] at this
    rw [Array.getElem?_toList] at this
    obtain ⟨en, h5, h6⟩ := Option.map_eq_some_iff.1 this
    rw [h5]
    simp only [Prod.mk.injEq] at h6
    exact h6.1
  refine ⟨{ w with heap := w.heap.setIfInBounds b (.map (es.modify j fun e => { e with key := enc x, val := v }) c) }, ?_, ⟨es.modify j fun e => { e with key := enc x, val := v }, c, ?_, ?_, ?_, ?_⟩, ⟨rfl, rfl, rfl, by simp, fun i _ hi => ?_⟩⟩
  · unfold Instr.mapUpdate
    simp only [Sem.run_bind, run_underlying ht, Result.andThen_ok, getObj, Sem.run, h1]
    rw [hc, Result.andThen_ok, hf, Result.andThen_ok]
    simp only [Sem.run_bind, hk, Instr.keyThatStays, K.same, if_true]
    rw [show (pure (enc x) : Sem Value).run P w = .ok (enc x) w from rfl, Result.andThen_ok]
    simp only [setObj, Sem.run, h1]
  · show (w.heap.setIfInBounds b _)[b]? = _
    rw [Array.getElem?_setIfInBounds_self_of_lt (blk_lt h1)]
  · apply List.ext_getElem?
    intro q
    have hq := congrArg (fun y => y[q]?) h2
    simp only [List.getElem?_map] at hq
    rw [List.getElem?_map, List.getElem?_map, Array.getElem?_toList, Array.getElem?_modify, List.getElem?_set]
    rw [Array.getElem?_toList] at hq
    split
    · rename_i e
      subst e
      rw [hj] at hq
      obtain ⟨en, h5, h6⟩ := Option.map_eq_some_iff.1 hq
      rw [h5]
      simp
    · exact hq
  · apply List.ext_getElem?
    intro q
    have hq := congrArg (fun y => y[q]?) h3
    rw [List.length_set]
    simp only [List.getElem?_map] at hq ⊢
    rw [Array.getElem?_toList] at hq
    rw [Array.getElem?_toList, Array.getElem?_modify, ← hq]
    split
    · cases es[q]? <;> rfl
    · rfl
  · rw [List.length_set]
    exact h4
  · show (w.heap.setIfInBounds b _)[i]? = _
    rw [Array.getElem?_setIfInBounds_ne (fun e => hi (by rw [e]))]
omit [DecidableEq κ] in
/-- .. and its value is written. -/
theorem map_entry_store {enc : κ → Value} {t : TypeId} {w : World} {b : Nat} {l : List (κ × Value)} (h : MapAt enc w b l) {j : Nat} {x : κ} {u : Value} (hj : l[j]? = some (x, u)) (v : Value) :
    ∃ w', (Instr.entryStore t (.map (some b)) (.int .i64 j) v).run P w = .ok () w' ∧ MapAt enc w' b (l.set j (x, v)) ∧ w.grownBy w' (some b) := by
  obtain ⟨es, c, h1, h2, h3, h4⟩ := h
  have hjl : j < l.length := (List.getElem?_eq_some_iff.1 hj).1
  have hlen : es.toList.length = l.length := by have := congrArg List.length h2; simpa using this
  have hjs : j < es.size := by simpa using (by omega : j < es.toList.length)
  have hborn : ∀ (i : Nat) (hi : i < es.size), es[i].born = i := fun i hi => by
    have := congrArg (fun q => q[i]?) h3
    simp only [List.getElem?_map, List.getElem?_range (show i < l.length by have := (Array.length_toList (xs := es)); omega)] at this
    rw [Array.getElem?_toList, Array.getElem?_eq_getElem hi] at this
    exact Option.some.inj this
  have hfind : es.findIdx? (fun e => (e.born : Int) == ((j : Nat) : Int)) = some j := by
    rw [Array.findIdx?_eq_some_iff_getElem]
    refine ⟨hjs, by simp [hborn j hjs], fun i hi => ?_⟩
    rw [hborn i (by omega)]
    simp
    omega
  refine ⟨{ w with heap := w.heap.setIfInBounds b (.map (es.modify j fun e => { e with val := v }) c) }, ?_, ⟨es.modify j fun e => { e with val := v }, c, ?_, ?_, ?_, ?_⟩, ⟨rfl, rfl, rfl, by simp, fun i _ hi => ?_⟩⟩
  · unfold Instr.entryStore
    simp only [Sem.run_bind, Result.andThen_ok, getObj, Sem.run, h1]
    have ha : (asInt (.int .i64 (j : Int))).run P w = .ok (j : Int) w := rfl
    rw [ha, Result.andThen_ok, hfind]
    simp only [setObj, Sem.run, h1]
  · show (w.heap.setIfInBounds b _)[b]? = _
    rw [Array.getElem?_setIfInBounds_self_of_lt (blk_lt h1)]
  · apply List.ext_getElem?
    intro q
    have hq := congrArg (fun y => y[q]?) h2
    simp only [List.getElem?_map] at hq
    rw [List.getElem?_map, List.getElem?_map, Array.getElem?_toList, Array.getElem?_modify, List.getElem?_set]
    rw [Array.getElem?_toList] at hq
    split
    · rename_i e
      subst e
      rw [hj] at hq
      obtain ⟨en, h5, h6⟩ := Option.map_eq_some_iff.1 hq
      rw [h5]
      simp only [Prod.mk.injEq] at h6
      simp [h6.1]
    · exact hq
  · apply List.ext_getElem?
    intro q
    have hq := congrArg (fun y => y[q]?) h3
    rw [List.length_set]
    simp only [List.getElem?_map] at hq ⊢
    rw [Array.getElem?_toList] at hq
    rw [Array.getElem?_toList, Array.getElem?_modify, ← hq]
    split
    · cases es[q]? <;> rfl
    · rfl
  · rw [List.length_set]
    exact h4
  · show (w.heap.setIfInBounds b _)[i]? = _
    rw [Array.getElem?_setIfInBounds_ne (fun e => hi (by rw [e]))]
end
section
variable {P : Program} {ops : Array Oper} {o : Oper} {a : Act} {Q : Exit → Act → World → Prop} {Kc : Act → World → Prop}
/-- One operation that gives a value, in a region that draws. -/
theorem rstep_value {w w' : World} {v : Value} (hw : Region.wanted o (yielded ops a.tmps) = true) (hr : (execOp a.eval o).run P w = .ok (.value v) w') (h : Kc (a.put o.dst v) w') :
    if Region.wanted o (yielded ops a.tmps) = true then Oper.wp P o a w Kc Q else Kc (a.put o.dst undef) w := by
  rw [if_pos hw]
  unfold Oper.wp
  rw [hr]
  exact h
theorem rstep_skip {w w' : World} (hw : Region.wanted o (yielded ops a.tmps) = true) (hr : (execOp a.eval o).run P w = .ok .skip w') (h : Kc (a.put o.dst undef) w') :
    if Region.wanted o (yielded ops a.tmps) = true then Oper.wp P o a w Kc Q else Kc (a.put o.dst undef) w := by
  rw [if_pos hw]
  unfold Oper.wp
  rw [hr]
  exact h
end
section
variable {P : Program} {ops : Array Oper} {rest : List Oper} {o : Oper} {a : Act} {Q : Exit → Act → World → Prop}
/-- One operation that gives nothing. -/
theorem wpList_mute {w w' : World} (hg : o.guard = none) (hr : (execOp a.eval o).run P w = .ok .skip w') (h : wpList P ops Q rest (a.put o.dst undef) w') : wpList P ops Q (o :: rest) a w := by
  refine wpList_plain hg fun K hK => ?_
  unfold Oper.wp
  rw [hr]
  exact hK _ _ h
end
end Go.Proofs.YtebiogaacikphaaW.PrintWords
end
section
namespace Go.Proofs.Ytebiogaacikphaa.Pack
open Go.RowKit Go.Proofs.YtebiogaacikphaaW.PrintWords Go.Proofs.Ytebiogaacikphaa.PAll
set_option linter.unusedVariables false
set_option linter.unusedSimpArgs false
def wordOf : List Int → Int
  | [] => 0
  | x :: l => x + 256 * wordOf l
/-- A class of 32 bytes. -/
def clsOf (l : List Int) : Four := (wordOf (l.take 8), wordOf ((l.drop 8).take 8), wordOf ((l.drop 16).take 8), wordOf ((l.drop 24).take 8))
def clsCells (x : Four) : List Value := [.int .u64 x.1, .int .u64 x.2.1, .int .u64 x.2.2.1, .int .u64 x.2.2.2]
/-- Word j when k bytes are in. -/
def wd (l : List Int) (k j : Nat) : Int := wordOf ((l.drop (8 * j)).take (min 8 (k - 8 * j)))
def wdCells (l : List Int) (k : Nat) : List Value := [.int .u64 (wd l k 0), .int .u64 (wd l k 1), .int .u64 (wd l k 2), .int .u64 (wd l k 3)]
theorem wd_start (l : List Int) : wdCells l 0 = [.int .u64 0, .int .u64 0, .int .u64 0, .int .u64 0] := by
  simp [wdCells, wd, wordOf]
theorem wd_end (l : List Int) : wdCells l 32 = clsCells (clsOf l) := by
  simp [wdCells, wd, clsCells, clsOf]
theorem wordOf_snoc (x : Int) : ∀ l : List Int, wordOf (l ++ [x]) = wordOf l + x * 256 ^ l.length
  | [] => by simp [wordOf]
  | y :: l => by
    rw [List.cons_append, wordOf, wordOf, wordOf_snoc x l, List.length_cons, Int.pow_succ]
    rw [Int.mul_add, Int.add_assoc, Int.mul_left_comm, Int.mul_comm (256 ^ l.length : Int) 256]
theorem wordOf_lt : ∀ l : List Int, (∀ x ∈ l, 0 ≤ x ∧ x < 256) → 0 ≤ wordOf l ∧ wordOf l < 256 ^ l.length
  | [], _ => by simp [wordOf]
  | y :: l, h => by
    have h1 := wordOf_lt l (fun x hx => h x (List.mem_cons_of_mem _ hx))
    have h2 := h y List.mem_cons_self
    rw [wordOf, List.length_cons, Int.pow_succ]
    omega
theorem wd_cell (l : List Int) (k j : Nat) (hj : j < 4) : (wdCells l k)[j]? = some (.int .u64 (wd l k j)) := by
  match j, hj with
  | 0, _ => rfl
  | 1, _ => rfl
  | 2, _ => rfl
  | 3, _ => rfl
theorem wd_far (l : List Int) (k j : Nat) (h : j ≠ k / 8) : wd l (k + 1) j = wd l k j := by
  unfold wd
  rw [show min 8 (k + 1 - 8 * j) = min 8 (k - 8 * j) by omega]
theorem wd_step (l : List Int) (hl : l.length = 32) (hby : ∀ x ∈ l, 0 ≤ x ∧ x < 256) (k : Nat) (hk : k < 32) (x : Int) (hx : l[k]? = some x) :
    Go.bits .or .u64 (wd l k (k / 8)) (IntKind.u64.wrap (IntKind.u64.wrap x * 2 ^ (8 * (k % 8)))) = wd l (k + 1) (k / 8) := by
  have hmem : x ∈ l := List.mem_of_getElem? hx
  have hxb := hby x hmem
  have hlen : ((l.drop (8 * (k / 8))).take (k % 8)).length = k % 8 := by rw [List.length_take, List.length_drop]; omega
  have e0 : wd l k (k / 8) = wordOf ((l.drop (8 * (k / 8))).take (k % 8)) := by rw [wd, show min 8 (k - 8 * (k / 8)) = k % 8 by omega]
  have e1 : wd l (k + 1) (k / 8) = wordOf ((l.drop (8 * (k / 8))).take (k % 8)) + x * 256 ^ (k % 8) := by
    rw [wd, show min 8 (k + 1 - 8 * (k / 8)) = k % 8 + 1 by omega, List.take_add_one, List.getElem?_drop, show 8 * (k / 8) + k % 8 = k by omega, hx, Option.toList_some, wordOf_snoc, hlen]
  have hw := wordOf_lt ((l.drop (8 * (k / 8))).take (k % 8)) (fun y hy => hby y (List.mem_of_mem_drop (List.mem_of_mem_take hy)))
  rw [hlen] at hw
  rw [e0, e1]
  generalize wordOf ((l.drop (8 * (k / 8))).take (k % 8)) = v at *
  obtain ⟨m, rfl⟩ := Int.eq_ofNat_of_zero_le hw.1
  obtain ⟨y, rfl⟩ := Int.eq_ofNat_of_zero_le hxb.1
  have hq : k % 8 < 8 := Nat.mod_lt _ (by decide)
  generalize k % 8 = q at *
  have e256 : ((256 ^ q : Nat) : Int) = (256 : Int) ^ q := Int.natCast_pow 256 q
  have hm : m < 256 ^ q := Int.ofNat_lt.1 (by rw [e256]; exact hw.2)
  have hp : 256 ^ q ≤ 256 ^ 7 := Nat.pow_le_pow_right (by decide) (by omega)
  have h28 : (2 : Nat) ^ (8 * q) = 256 ^ q := by rw [Nat.pow_mul]
  have hyw : IntKind.u64.wrap (y : Int) = (y : Int) := Bits.wrap_u .u64 rfl _ (by show _ < 2 ^ 64; omega)
  have hprod : y * 256 ^ q < 256 * 256 ^ 7 := Nat.lt_of_lt_of_le (Nat.mul_lt_mul_of_pos_right (show y < 256 by omega) (Nat.pow_pos (by decide))) (Nat.mul_le_mul_left _ hp)
  have hs : IntKind.u64.wrap ((y : Int) * 2 ^ (8 * q)) = ((y * 256 ^ q : Nat) : Int) := by
    have e : ((y : Int) * 2 ^ (8 * q)) = ((y * 256 ^ q : Nat) : Int) := by rw [← h28, Int.natCast_mul, Int.natCast_pow]; rfl
    rw [e]
    exact Bits.wrap_u .u64 rfl _ (by show _ < 2 ^ 64; omega)
  have ho : m ||| y * 256 ^ q = m + y * 256 ^ q := by
    rw [← h28]
    exact Bits.or_add m y (8 * q) (by rw [h28]; exact hm)
  rw [hyw, hs]
  have hb := Bits.bits_or .u64 rfl m (y * 256 ^ q) (by show _ < 2 ^ 64; omega) (by show _ < 2 ^ 64; omega)
  rw [hb, ho, Int.natCast_add, Int.natCast_mul, e256]
theorem wd_put (l : List Int) (k : Nat) (hk : k < 32) : (wdCells l k).take (k / 8) ++ [.int .u64 (wd l (k + 1) (k / 8))] ++ (wdCells l k).drop (k / 8 + 1) = wdCells l (k + 1) := by
  have hj : k / 8 < 4 := by omega
  have hf := fun j h => wd_far l k j h
  unfold wdCells
  generalize k / 8 = j at *
  match j, hj with
  | 0, _ => simp [hf 1 (by omega), hf 2 (by omega), hf 3 (by omega)]
  | 1, _ => simp [hf 0 (by omega), hf 2 (by omega), hf 3 (by omega)]
  | 2, _ => simp [hf 0 (by omega), hf 1 (by omega), hf 3 (by omega)]
  | 3, _ => simp [hf 0 (by omega), hf 1 (by omega), hf 2 (by omega)]
/-- So many classes, no two alike; acc are there. -/
def classesL (e : Nat) : Nat → List Four → List Int → Except (Int × Int) (List Four × List Int)
  | 0, acc, l => .ok (acc, l)
  | n + 1, acc, l => if l.length < 32 then .error (e, 200) else if clsOf (l.take 32) ∈ acc then .error ((e - l.length : Nat), 204) else classesL e n (acc ++ [clsOf (l.take 32)]) (l.drop 32)
/-- The numbers seen are each seen once. -/
def seenOnce (acc : List Four) : List (Four × Value) := acc.map fun x => (x, .int .i64 1)
theorem seen_keys (acc : List Four) : (seenOnce acc).map (·.1) = acc := by simp [seenOnce, Function.comp_def]
/-- What the rounds of classes keep. -/
theorem seen_find {acc : List Four} {x : Four} (h : x ∈ acc) : ∃ j, mapFind x (seenOnce acc) 0 = some (j, .int .i64 1) := by
  cases hf : mapFind x (seenOnce acc) 0 with
  | none => exact absurd h (by rw [← seen_keys acc]; exact mapFind_none.1 hf)
  | some p =>
    obtain ⟨j, v⟩ := p
    refine ⟨j, ?_⟩
    have h1 := (mapFind_some hf).2
    rw [seenOnce, List.getElem?_map] at h1
    obtain ⟨y, _, h3⟩ := Option.map_eq_some_iff.1 h1
    injection h3 with h3 h4
    rw [← h4]
theorem find_set {κ : Type} [DecidableEq κ] {x : κ} {u : Value} (v : Value) : ∀ {l : List (κ × Value)} {i j : Nat}, mapFind x l i = some (j, u) → mapFind x (l.set (j - i) (x, v)) i = some (j, v)
  | [], _, _, h => by cases h
  | p :: l, i, j, h => by
    rw [mapFind] at h
    split at h
    · rename_i hx
      cases h
      rw [Nat.sub_self, List.set_cons_zero, mapFind, if_pos rfl]
    · rename_i hx
      have h1 := (mapFind_some h).1
      rw [show j - i = (j - (i + 1)) + 1 by omega, List.set_cons_succ, mapFind, if_neg hx]
      exact find_set v h
structure CI (w0 w W : World) (g gm : Nat) (A : Option Addr) (c : Nat) (b : List Int) (i e : Nat) (v : Value) (acc : List Four) (l : List (Four × Value)) : Prop where
  rs : RS w0 W g A c b i e 0 0
  only : Only w W g
  map_ : MapAt (encFour .u64) W gm l
  row : W.ownsRow w.heap.size 76 4 v acc.length (acc.flatMap clsCells)
  gmge : w.heap.size ≤ gm
  glt : g < w.heap.size
  off : v.ownBlock ≠ some gm
/-- A list of whatever kind. -/
def IsSl (v : Value) : Prop := ∃ A n c, v = .slice A n c
theorem IsSl.own {W : World} {base : Nat} {t : TypeId} {size n : Nat} {v : Value} {xs : List Value} (h : W.ownsRow base t size v n xs) : IsSl v := by
  obtain ⟨A, c, e⟩ := own_slice h
  exact ⟨A, n, c, e⟩
theorem Only.new {w W W' : World} {g r : Nat} (h : Only w W g) (hg : W.grownBy W' (some r)) (h3 : w.heap.size ≤ r) : Only w W' g :=
  ⟨Nat.le_trans h.1 hg.size, fun j hj hne => (hg.block j (Nat.lt_of_lt_of_le hj h.1) (by simp; omega)).trans (h.2 j hj hne)⟩
theorem RS.through {w0 W W' : World} {g : Nat} {A : Option Addr} {c : Nat} {b : List Int} {i e : Nat} {fa fc : Int} (h : RS w0 W g A c b i e fa fc) {r : Option Nat} (hg : W.grownBy W' r) (hr : ∀ k, r = some k → k ≠ g ∧ w0.heap.size ≤ k) : RS w0 W' g A c b i e fa fc :=
  ⟨(hg.block _ (blk_lt h.box) (fun e => (hr g e.symm).1 rfl)).trans h.box, h.ge, h.rd, h.cap, h.len, h.e_, h.at_, pw_below_grown h.old r h.old.size hg (fun k hk => (hr k hk).2)⟩
theorem Only.through {w W W' : World} {g : Nat} (h : Only w W g) {r : Option Nat} (hg : W.grownBy W' r) (hr : ∀ k, r = some k → w.heap.size ≤ k) : Only w W' g :=
  ⟨Nat.le_trans h.1 hg.size, fun j hj hne => (hg.block j (Nat.lt_of_lt_of_le hj h.1) (fun e => by have := hr j e.symm; omega)).trans (h.2 j hj hne)⟩
theorem own_kept {W W' : World} {base : Nat} {t : TypeId} {size n : Nat} {v : Value} {xs : List Value} (h : W.ownsRow base t size v n xs) (hk : ∀ k, v.ownBlock = some k → W'.heap[k]? = W.heap[k]?) : W'.ownsRow base t size v n xs := by
  obtain ⟨h1, h2 | ⟨g, cap, cur, rfl, h3, h4, h5⟩⟩ := h
  · exact ⟨h1, .inl h2⟩
  · exact ⟨h1, .inr ⟨g, cap, cur, rfl, h3, (hk g rfl).trans h4, h5⟩⟩
section
variable {w0 w W W' : World} {g gm : Nat} {A : Option Addr} {c : Nat} {b : List Int} {i e : Nat} {v : Value} {acc : List Four} {l : List (Four × Value)}
theorem CI.below (h : CI w0 w W g gm A c b i e v acc l) (hb : Below W.heap.size W W') : CI w0 w W' g gm A c b i e v acc l :=
  ⟨h.rs.below hb, h.only.trans (Only.of_below hb g), h.map_.below hb, own_kept h.row (fun k hk => hb.block k (own_lt h.row k hk)), h.gmge, h.glt, h.off⟩
/-- A block of the call's own is written, none of these. -/
theorem CI.grown (h : CI w0 w W g gm A c b i e v acc l) {r : Nat} (hg : W.grownBy W' (some r)) (h1 : r ≠ gm) (h2 : v.ownBlock ≠ some r) (h3 : w.heap.size ≤ r) : CI w0 w W' g gm A c b i e v acc l := by
  have hw : w0.heap.size ≤ w.heap.size := Nat.le_trans h.rs.ge (Nat.le_of_lt h.glt)
  have hgl := h.glt
  exact ⟨h.rs.grown hg (by omega) (by omega), h.only.new hg h3, h.map_.grown hg (by simp; omega), own_kept h.row (fun k hk => hg.block k (own_lt h.row k hk) (fun e => h2 (hk.trans e))), h.gmge, h.glt, h.off⟩
/-- The map is written. -/
theorem CI.remap (h : CI w0 w W g gm A c b i e v acc l) {l' : List (Four × Value)} (hm : MapAt (encFour .u64) W' gm l') (hg : W.grownBy W' (some gm)) : CI w0 w W' g gm A c b i e v acc l' := by
  have hw : w0.heap.size ≤ w.heap.size := Nat.le_trans h.rs.ge (Nat.le_of_lt h.glt)
  have hgl := h.glt
  have hgm := h.gmge
  exact ⟨h.rs.grown hg (by omega) (by omega), h.only.new hg hgm, hm, own_kept h.row (fun k hk => hg.block k (own_lt h.row k hk) (fun e => h.off (hk.trans e))), h.gmge, h.glt, h.off⟩
/-- The list is grown. -/
theorem CI.append (h : CI w0 w W g gm A c b i e v acc l) {v' : Value} {x : Four} (ho : W'.ownsRow w.heap.size 76 4 v' (acc.length + 1) (acc.flatMap clsCells ++ clsCells x)) (hg : W.grownBy W' v.ownBlock) (hat : v'.ownBlock = v.ownBlock ∨ ∃ q, v'.ownBlock = some q ∧ W.heap.size ≤ q) : CI w0 w W' g gm A c b i e v' (acc ++ [x]) l := by
  have hw : w0.heap.size ≤ w.heap.size := Nat.le_trans h.rs.ge (Nat.le_of_lt h.glt)
  have hgl := h.glt
  have hgm := h.gmge
  have hbase : ∀ k, v.ownBlock = some k → w.heap.size ≤ k := fun k hk => own_base h.row k hk
  have hkeep : ∀ k, k < W.heap.size → k < w.heap.size ∨ k = gm → W'.heap[k]? = W.heap[k]? := fun k hk hor => hg.block k hk (fun e => by
    rcases hor with hor | rfl
    · have := hbase k e.symm; omega
    · exact h.off e.symm)
  have hold : Below w0.heap.size w0 W' := pw_below_grown h.rs.old v.ownBlock h.rs.old.size hg (fun k hk => by have := hbase k hk; omega)
  refine ⟨⟨(hkeep g (by have := h.only.1; omega) (.inl hgl)).trans h.rs.box, h.rs.ge, h.rs.rd, h.rs.cap, h.rs.len, h.rs.e_, h.rs.at_, hold⟩, ⟨Nat.le_trans h.only.1 hg.size, fun j hj hne => (hkeep j (Nat.lt_of_lt_of_le hj h.only.1) (.inl hj)).trans (h.only.2 j hj hne)⟩, h.map_.kept (hkeep gm h.map_.lt (.inr rfl)), ?_, h.gmge, h.glt, ?_⟩
  · rw [List.length_append, List.flatMap_append]
    simpa using ho
  · rcases hat with hat | ⟨q, hat, hq⟩
    · rw [hat]
      exact h.off
    · rw [hat]
      intro e
      injection e with e
      have := h.map_.lt
      omega
/-- The reader goes on. -/
theorem CI.step (h : CI w0 w W g gm A c b i e v acc l) {j : Nat} (hr : RS w0 W' g A c b j e 0 0) (ho : Only W W' g) : CI w0 w W' g gm A c b j e v acc l := by
  have hgl := h.glt
  have hgm := h.gmge
  exact ⟨hr, h.only.trans ho, h.map_.kept (ho.2 gm h.map_.lt (by omega)), own_kept h.row (fun k hk => ho.2 k (own_lt h.row k hk) (by have := own_base h.row k hk; omega)), h.gmge, h.glt, h.off⟩
end
theorem cls_keys : KeyKind Try.prog 76 (encFour .u64) := four_keys Try.underlying76 Try.underlying74 (by kernel_rfl)
/-- What 'seen[c]++' meets. -/
structure Incr (gm : Nat) (x : Four) (z st : Int) (L0 L1 L2 : List (Four × Value)) : Prop where
  first : ∀ W, MapAt (encFour .u64) W gm L0 → (Instr.lookup 140 (.map (some gm)) (encFour .u64 x) false).run Try.prog W = .ok (.int .i64 z) W
  second : ∀ W, MapAt (encFour .u64) W gm L1 → (Instr.lookup 140 (.map (some gm)) (encFour .u64 x) false).run Try.prog W = .ok (.int .i64 z) W
  entry : ∀ W, MapAt (encFour .u64) W gm L0 → ∃ W', (Instr.mapEntry 140 (.map (some gm)) (encFour .u64 x)).run Try.prog W = .ok (.tuple #[.int .i64 z, .int .i64 st]) W' ∧ MapAt (encFour .u64) W' gm L1 ∧ W.grownBy W' (some gm)
  store : ∀ W, MapAt (encFour .u64) W gm L1 → ∃ W', (Instr.entryStore 140 (.map (some gm)) (.int .i64 st) (.int .i64 (z + 1))).run Try.prog W = .ok () W' ∧ MapAt (encFour .u64) W' gm L2 ∧ W.grownBy W' (some gm)
  last : ∀ W, MapAt (encFour .u64) W gm L2 → (Instr.lookup 140 (.map (some gm)) (encFour .u64 x) false).run Try.prog W = .ok (.int .i64 (z + 1)) W
theorem look_run {gm : Nat} {x : Four} {L : List (Four × Value)} (W : World) (hm : MapAt (encFour .u64) W gm L) {z : Int} (h : (∃ j, mapFind x L 0 = some (j, .int .i64 z)) ∨ (mapFind x L 0 = none ∧ z = 0)) : (Instr.lookup 140 (.map (some gm)) (encFour .u64 x) false).run Try.prog W = .ok (.int .i64 z) W := by
  have := MapAt.lookup (P := Try.prog) cls_keys Try.underlying140 hm x (z := .int .i64 0) (by kernel_rfl) false
  rcases h with ⟨j, h⟩ | ⟨h, rfl⟩
  · rw [h] at this
    exact this
  · rw [h] at this
    exact this
theorem incr_new (gm : Nat) (x : Four) (acc : List Four) (h : x ∉ acc) : Incr gm x 0 acc.length (seenOnce acc) (seenOnce acc ++ [(x, .int .i64 0)]) (seenOnce (acc ++ [x])) := by
  have hmiss : x ∉ (seenOnce acc).map (·.1) := by rw [seen_keys]; exact h
  have hfind : ∀ u : Value, mapFind x (seenOnce acc ++ [(x, u)]) 0 = some (acc.length, u) := by
    intro u
    have key : ∀ (l : List (Four × Value)) (i : Nat), x ∉ l.map (·.1) → mapFind x (l ++ [(x, u)]) i = some (i + l.length, u) := by
      intro l
      induction l with
      | nil => intro i _; simp [mapFind]
      | cons p l ih =>
        intro i hx
        have h1 : ¬ x = p.1 := fun e => hx (by simp [e])
        rw [List.cons_append, mapFind, if_neg h1, ih (i + 1) (fun hm => hx (by simp only [List.map_cons, List.mem_cons]; exact .inr hm)), List.length_cons]
        congr 2
        omega
    have := key (seenOnce acc) 0 hmiss
    rw [this]
    simp [seenOnce]
  refine ⟨fun W hm => look_run W hm (.inr ⟨mapFind_none.2 hmiss, rfl⟩), fun W hm => look_run W hm (.inl ⟨_, hfind _⟩), fun W hm => ?_, fun W hm => ?_, fun W hm => look_run W hm (.inl ⟨acc.length, ?_⟩)⟩
  · have := map_entry_new (P := Try.prog) cls_keys Try.underlying140 hm x hmiss (z := .int .i64 0) (fun w => by kernel_rfl)
    rwa [show (seenOnce acc).length = acc.length by simp [seenOnce]] at this
  · have := map_entry_store (P := Try.prog) (t := 140) hm (j := acc.length) (x := x) (u := .int .i64 0) (by rw [List.getElem?_append_right (by simp [seenOnce])]; simp [seenOnce]) (.int .i64 1)
    have e : (seenOnce acc ++ [(x, Value.int .i64 0)]).set acc.length (x, .int .i64 1) = seenOnce (acc ++ [x]) := by
      rw [List.set_append_right _ _ (by simp [seenOnce])]
      simp [seenOnce]
    rwa [e] at this
  · have := hfind (.int .i64 1)
    rwa [show seenOnce acc ++ [(x, Value.int .i64 1)] = seenOnce (acc ++ [x]) by simp [seenOnce]] at this
theorem incr_hit (gm : Nat) (x : Four) (acc : List Four) (h : x ∈ acc) : ∃ (j : Nat) (L2 : List (Four × Value)), Incr gm x 1 j (seenOnce acc) (seenOnce acc) L2 := by
  obtain ⟨j, hj⟩ := seen_find h
  refine ⟨j, (seenOnce acc).set j (x, .int .i64 2), fun W hm => look_run W hm (.inl ⟨_, hj⟩), fun W hm => look_run W hm (.inl ⟨_, hj⟩), fun W hm => ?_, fun W hm => ?_, fun W hm => look_run W hm (.inl ⟨j, find_set _ hj⟩)⟩
  · exact map_entry_hit (P := Try.prog) cls_keys Try.underlying140 hm x hj
  · have h1 := (mapFind_some hj).2
    exact map_entry_store (P := Try.prog) (t := 140) hm h1 (.int .i64 2)
section
variable (w0 w : World) (g : Nat) (A : Option Addr) (c : Nat) (b : List Int) (i e : Nat)
set_option maxHeartbeats 2000000 in
set_option maxRecDepth 100000 in
theorem classes_ok (h : RS w0 w g A c b i e 0 0) (hby : ∀ x ∈ b, 0 ≤ x ∧ x < 256) (res : Except (Int × Int) (List Four × List Int)) (hres : ((manyL e i ((b.take e).drop i)).bind fun p => classesL e p.1.toNat [] p.2) = res) :
    Calls Try.prog 51 #[.pointer (some ⟨g, 0, none⟩)] w fun x w' => ∃ v, x = .returned v ∧ St w0 w' g A c b e (res.map (·.2)) ∧ Only w w' g ∧ (∀ acc r, res = .ok (acc, r) → w'.ownsRow w.heap.size 76 4 v acc.length (acc.flatMap clsCells)) ∧ IsSl v := by
  have HMA := Aside0.mk (many_ok w0 w g A c b i e h hby)
  have HY := Aside0.mk hby
  have GLT := Aside0.mk h.lt
  have H := Aside0.mk h
  clear h hby
  have HMB := Aside0.mk (fun n r => manyL_range (e := e) (fr := i) (l := (b.take e).drop i) (n := n) (r := r) (fun x hx => HY.out x (List.mem_of_mem_take (List.mem_of_mem_drop hx))))
  generalize manyL e i ((b.take e).drop i) = m at *
  match m with
  | .error f =>
    go_enter Try.func51, Try.ntmps51
    go_wp2_with (first
      | (go_at_call 87; refine HMA.out.mono ?_; rintro xx w1 ⟨v, rfl, hq1, hq2, hq3, hq4⟩; obtain rfl := hq4 f rfl; obtain ⟨j, hf, hrs⟩ := hq1; have HF := Aside0.mk hf; clear H; have H := Aside0.mk hrs; have HO := Aside0.mk hq2; clear hq2 hq3 hq4 hrs hf)
      | ((with_reducible refine gate_dst (N := 14) rfl ?_); refine map_event (encFour .u64) rfl 140 rfl ?_; intro gm hgm w2 hm hb2; have n1_ := Aside0.mk (H.out.below hb2); have n2_ := Aside0.mk (HO.out.trans (Only.of_below hb2 g)); clear H HO hm hb2; have H := n1_; have HO := n2_; clear n1_ n2_))
    refine wp_loop_once ?_
    go_wp2
    go_ret
    subst hres
    exact ⟨_, rfl, ⟨j, HF.out, H.out⟩, HO.out, (fun _ _ h => by cases h), ⟨_, _, _, rfl⟩⟩
  | .ok (n, r) =>
    have HMN := Aside0.mk (show (0 : Int) ≤ n from (HMB.out n r rfl).1)
    have HNB := Aside0.mk (show n ≤ 65536 from (HMB.out n r rfl).2)
    have HRES := Aside0.mk (show classesL e n.toNat [] r = res from hres)
    clear hres
    go_enter Try.func51, Try.ntmps51
    go_wp2_with (first
      | (go_at_call 87; refine HMA.out.mono ?_; rintro xx w1 ⟨v, rfl, hq1, hq2, hq3, hq4⟩; obtain rfl := (hq3 n r rfl).symm; obtain ⟨j, hrs, hr⟩ := hq1; have HR := Aside0.mk hr; clear H; have H := Aside0.mk hrs; have HO := Aside0.mk hq2; clear hq2 hq3 hq4 hrs hr)
      | ((with_reducible refine gate_dst (N := 14) rfl ?_); refine map_event (encFour .u64) rfl 140 rfl ?_; intro gm hgm w2 hm hb2; have HI := Aside0.mk (show CI w0 w w2 g gm A c b j e (.slice none 0 0) [] (seenOnce []) from ⟨H.out.below hb2, HO.out.trans (Only.of_below hb2 g), hm, World.ownsRow_nil w2 _ _ _, by rw [hgm]; exact HO.out.1, GLT.out, by simp [Value.ownBlock]⟩); clear H HO hm hb2 hgm))
    go_loopw [4, 6] (fun v4 v6 wr => ∃ (q : Nat) (acc : List Four), v6 = .int .i64 q ∧ Aside0 ((∃ at_, CI w0 w wr g gm A c b at_ e v4 acc (seenOnce acc) ∧ acc.length = q ∧ classesL e (n.toNat - q) acc ((b.take e).drop at_) = res ∧ q ≤ n.toNat) ∨ (∃ f at_, RS w0 wr g A c b at_ e f.1 f.2 ∧ f.2 ≠ 0 ∧ Only w wr g ∧ res = .error f ∧ q ≤ n.toNat ∧ IsSl v4))) (fun v4 v6 _ => n.toNat - (intOf v6).toNat)
    case atStart => exact ⟨0, [], rfl, ⟨.inl ⟨j, HI.out, rfl, by rw [← HR.out]; exact HRES.out, Nat.zero_le _⟩⟩⟩
    case round =>
      clear HI HR HRES HMA
      obtain ⟨q, acc, rfl, hcase⟩ := hrel
      have qb : (q : Int) ≤ 65536 := by
        have h1 := HNB.out
        have h2 := HMN.out
        rcases hcase.out with ⟨_, _, _, _, h3⟩ | ⟨_, _, _, _, _, _, h3, _⟩ <;> omega
      obtain ⟨at_, hci, haq, hres, hq⟩ | ⟨f, at_, hrs, hf, hon, rfl, hq, hsl⟩ := hcase.out
      · clear hcase
        have HI := Aside0.mk hci
        have hlen : ((b.take e).drop at_).length = e - at_ := by have := hci.rs.e_; rw [List.length_drop, List.length_take]; omega
        have hat := hci.rs.at_
        clear hci
        by_cases c1 : q < n.toNat
        · have b1 : decide ((q : Int) < n) = true := decide_eq_true (by omega)
          rw [show n.toNat - q = (n.toNat - (q + 1)) + 1 by omega, classesL, hlen] at hres
          by_cases c2 : e < at_ + 32
          · rw [if_pos (by omega)] at hres
            have HO := Aside0.mk HI.out.only
            have H := Aside0.mk HI.out.rs
            have h1 := H.out.c1
            go_wp2_with (first
              | (go_at_call 88; refine (take_short w0 _ g A c b at_ e 32 (by omega) H.out c2).mono ?_; rintro xx w1 ⟨rfl, hq1, hq2⟩; have n1_ := Aside0.mk hq1; have n2_ := Aside0.mk (HO.out.trans hq2); clear H HO h1 hq1 hq2 HI; have H := n1_; have HO := n2_; clear n1_ n2_)
              | (go_at_call 54; first | (refine (bad_same w0 _ g A c b _ _ _ 200 true H.out rfl).mono ?_; rintro xx w1 ⟨rfl, rfl⟩) | (refine (bad_same w0 _ g A c b _ _ 0 0 false H.out rfl).mono ?_; rintro xx w1 ⟨rfl, rfl⟩)))
            go_ret
            subst hres
            exact ⟨_, rfl, ⟨_, by simp, H.out⟩, HO.out, (fun _ _ h => by cases h), ⟨_, _, _, rfl⟩⟩
          · rw [if_neg (by omega)] at hres
            have hrd := cut_reads (i := at_) (n := 32) HI.out.rs.rd (by have := HI.out.rs.e_; omega)
            obtain ⟨ad, had, hcells⟩ : ∃ ad, cutAt A 32 at_ = some ad ∧ ∀ k < 32, w0.cell? (ad.add k) = some (.int .u8 (((b.drop at_).take 32).getD k 0)) := by
              obtain ⟨ad, had, _⟩ := Kd.at_int (n := 32) hrd 0 (by omega) (by omega)
              refine ⟨ad, had, fun k hk => ?_⟩
              obtain ⟨ad2, had2, h2⟩ := Kd.at_int (n := 32) hrd (k : Int) (by omega) (by omega)
              rw [had] at had2
              obtain rfl := Option.some.inj had2
              exact h2
            have HCE := Aside0.mk hcells
            have HT := Aside0.mk (take_ok w0 · g A c b at_ e 32 · (by omega))
            rw [had] at HT
            clear hrd hcells
            have h1 := HI.out.rs.c1
            go_wp2_with (first
              | (go_at_call 88; refine (HT.out _ HI.out.rs).mono ?_; rintro xx w1 ⟨rfl, hq1, hq2⟩; have n1_ := Aside0.mk (HI.out.step hq1 hq2); clear HI hq1 hq2; have HI := n1_; clear n1_)
              | (go_at_call 54; refine (bad_same w0 _ g A c b _ e 0 0 false HI.out.rs rfl).mono ?_; rintro xx w1 ⟨rfl, rfl⟩)
              | ((with_reducible refine gate_dst (N := 9) rfl ?_); refine box_event (N := 9) rfl rfl (cs := #[.int .u64 0, .int .u64 0, .int .u64 0, .int .u64 0]) (t := 76) ?hr2 ?_; (case hr2 => first | (go_simp; done) | (go_simp; rfl)); intro g9 hg9 w4 hbox hb4; have H9 := Aside0.mk (show w4.heap[g9]? = some (.cells (wdCells ((b.drop at_).take 32) 0).toArray 76 (0, 0)) by rw [wd_start]; exact hbox); have HG9 := Aside0.mk (show g9 ≠ gm ∧ u4.ownBlock ≠ some g9 ∧ w.heap.size ≤ g9 by have h2 := HI.out.map_.lt; have h3 := HI.out.only.1; refine ⟨by omega, fun h => ?_, by omega⟩; have := own_lt HI.out.row _ h; omega); have n1_ := Aside0.mk (HI.out.below hb4); clear HI hbox hb4 hg9; have HI := n1_; clear n1_))
            have epl : ((b.take e).drop at_).take 32 = (b.drop at_).take 32 := by
              rw [List.drop_take, List.take_take, Nat.min_eq_left (by omega)]
            have hpl : ((b.drop at_).take 32).length = 32 := by have := HI.out.rs.e_; rw [List.length_take, List.length_drop]; omega
            have hbp : ∀ x ∈ (b.drop at_).take 32, 0 ≤ x ∧ x < 256 := fun x hx => HY.out x (List.mem_of_mem_drop (List.mem_of_mem_take hx))
            rw [epl] at hres
            have HRES := Aside0.mk hres
            clear epl hres
            generalize (b.drop at_).take 32 = pl at *
            have HBP := Aside0.mk hbp
            clear hbp
            go_loopw [35] (fun v wq => ∃ (k : Nat), v = .int .i64 k ∧ k ≤ 32 ∧ Aside0 (CI w0 w wq g gm A c b (at_ + 32) e u4 acc (seenOnce acc)) ∧ Aside0 (wq.heap[g9]? = some (.cells (wdCells pl k).toArray 76 (0, 0)))) (fun v _ => 32 - (intOf v).toNat)
            case atStart => exact ⟨0, rfl, Nat.zero_le _, HI, H9⟩
            case round =>
              clear HI H9
              obtain ⟨k, rfl, hk, HI, H9⟩ := hrel
              by_cases c3 : k < 32
              · have b3 : decide ((k : Int) < 32) = true := decide_eq_true (by omega)
                have hk8 : k / 8 < 4 := by omega
                have hwd := fun x hx => wd_step pl hpl HBP.out k c3 x hx
                have hput := wd_put pl k c3
                have hcell := wd_cell pl k (k / 8) hk8
                have hx := (HI.out.rs.old.cell (World.block_lt_of_cell? w0 _ (HCE.out k c3))).trans (HCE.out k c3)
                obtain ⟨x, hpx⟩ : ∃ x, pl[k]? = some x := ⟨_, List.getElem?_eq_getElem (by omega)⟩
                rw [List.getD_eq_getElem?_getD, hpx, Option.getD_some] at hx
                have hbit := hwd x hpx
                clear hwd
                have hwq : IntKind.i64.wrap ((k : Int) / 8) = ((k / 8 : Nat) : Int) := by rw [IntWalk.i64_in _ (by omega)]; omega
                have htm : (k : Int).tmod 8 = ((k % 8 : Nat) : Int) := by rw [Int.tmod_eq_emod_of_nonneg (by omega)]; omega
                have hq8 : k % 8 < 8 := Nat.mod_lt _ (by decide)
                generalize k / 8 = j at *
                generalize k % 8 = q8 at *
                have hm8 : IntKind.i64.wrap (8 * (q8 : Int)) = 8 * (q8 : Int) := IntWalk.i64_in _ (by omega)
                have HBIT := Aside0.mk hbit
                have HPUT := Aside0.mk hput
                have hix9 : ∀ W : World, (Instr.indexAt 76 (.pointer (some ⟨g9, 0, none⟩)) (.int .i64 (j : Int))).run Try.prog W = .ok (.pointer (some ⟨g9, j, none⟩)) W := by
                  intro W
                  have hb0 : (0 : Int) ≤ (j : Int) ∧ (j : Int) < 4 := by omega
                  simp [Instr.indexAt, go_sem, hb0, Try.underlying76]
                  omega
                have hw : wr.cell? ⟨g9, j, none⟩ = some (.int .u64 (wd pl k j)) := by
                  rw [blk_cell H9.out]
                  simpa using hcell
                clear hcell hbit hput
                go_wp2
                go_still_tail 12, (by kernel_rfl)
                rw [show (8 * (q8 : Int)).toNat = 8 * q8 by omega, HBIT.out]
                change wpList _ _ _ _ _ wr.drew
                have n1_ := Aside0.mk (HI.out.below (below_drew (Below.refl wr.heap.size wr)))
                have n2_ := Aside0.mk (blk_below H9.out (below_drew (Below.refl wr.heap.size wr)))
                clear HI H9 hx hw
                have HI := n1_
                have H9 := n2_
                clear n1_ n2_
                generalize wr.drew = w5 at *
                refine put_event rfl rfl 74 (.tmp 51) (.tmp 50) rfl (off := j) (u := .int .u64 (wd pl (k + 1) j)) (seg := [.int .u64 (wd pl (k + 1) j)]) rfl rfl (show RowAt w5 g9 76 (wdCells pl k) from ⟨_, H9.out, by simp⟩) rfl (by kernel_rfl) (by simp [wdCells]; omega) (by simp [Value.oneCell']) ?_
                intro w6 hrow hgr
                have n1_ := Aside0.mk (HI.out.grown hgr HG9.out.1 HG9.out.2.1 HG9.out.2.2)
                have n2_ : Aside0 (w6.heap[g9]? = some (.cells (wdCells pl (k + 1)).toArray 76 (0, 0))) := ⟨by
                  rw [show j + [Value.int .u64 (wd pl (k + 1) j)].length = j + 1 from rfl, HPUT.out] at hrow
                  obtain ⟨cur, h1, h2⟩ := hrow
                  rw [h1, ← h2]⟩
                clear HI H9 hrow hgr
                have HI := n1_
                have H9 := n2_
                clear n1_ n2_
                go_wp2
                go_roundw
                case measure => simp [intOf]; omega
                case rel => exact ⟨k + 1, by go_num, by omega, HI, H9⟩
              · have hk32 : k = 32 := by omega
                subst hk32
                have H9' := Aside0.mk (show wr.heap[g9]? = some (.cells #[.int .u64 (clsOf pl).1, .int .u64 (clsOf pl).2.1, .int .u64 (clsOf pl).2.2.1, .int .u64 (clsOf pl).2.2.2] 76 (0, 0)) by rw [H9.out, wd_end]; rfl)
                clear H9
                have HAQ := Aside0.mk haq
                obtain ⟨z, st, L1, L2, hin, hz1, hz2⟩ : ∃ (z st : Int) (L1 L2 : List (Four × Value)), Incr gm (clsOf pl) z st (seenOnce acc) L1 L2 ∧ (clsOf pl ∈ acc → z = 1) ∧ (clsOf pl ∉ acc → z = 0 ∧ L2 = seenOnce (acc ++ [clsOf pl])) := by
                  by_cases cd : clsOf pl ∈ acc
                  · obtain ⟨j, L2, hi⟩ := incr_hit gm (clsOf pl) acc cd
                    exact ⟨1, j, _, L2, hi, fun _ => rfl, fun h => absurd cd h⟩
                  · exact ⟨0, _, _, _, incr_new gm (clsOf pl) acc cd, fun h => absurd h cd, fun _ => ⟨rfl, rfl⟩⟩
                have HIN := Aside0.mk hin
                have HZ1 := Aside0.mk hz1
                have HZ2 := Aside0.mk hz2
                clear hin hz1 hz2
                have hz01 : 0 ≤ z ∧ z ≤ 1 := by
                  by_cases cd : clsOf pl ∈ acc
                  · have := HZ1.out cd; omega
                  · have := (HZ2.out cd).1; omega
                have hzw : IntKind.i64.wrap (z + 1) = z + 1 := IntWalk.i64_in _ (by omega)
                go_wp2
                have n1_ := Aside0.mk (HI.out.below (below_drew (Below.refl wr.heap.size wr)))
                have n2_ := Aside0.mk (blk_below H9'.out (below_drew (Below.refl wr.heap.size wr)))
                clear HI H9'
                have HI := n1_
                have H9' := n2_
                clear n1_ n2_
                refine wp_region_held_drew (S := fun w' => w'.heap[g9]? = some (.cells #[.int .u64 (clsOf pl).1, .int .u64 (clsOf pl).2.1, .int .u64 (clsOf pl).2.2.1, .int .u64 (clsOf pl).2.2.2] 76 (0, 0))) (by kernel_rfl) H9'.out (fun hH => ?_)
                generalize wr.drew = w5 at *
                refine wpAnyH_take (i := 0) (oi := _) (v := .map (some gm)) rfl (by kernel_rfl) (by kernel_rfl) (by kernel_rfl) (fun _ _ _ h => h) (Or.inl ⟨by rfl, fun w _ => rfl⟩) hH ?_
                simp only [List.getElem_toArray, List.getElem_cons_zero, List.getElem_cons_succ, Act.put, List.setIfInBounds_toArray, List.set_cons_zero, List.set_cons_succ]
                refine wpAnyH_take (i := 1) (oi := _) (v := encFour .u64 (clsOf pl)) rfl (by kernel_rfl) (by kernel_rfl) (by kernel_rfl) (fun _ _ _ h => h) (Or.inl ⟨by rfl, fun w hw => ?_⟩) hH ?_
                · have q0 := blk_cell hw 0
                  have q1 := blk_cell hw 1
                  have q2 := blk_cell hw 2
                  have q3 := blk_cell hw 3
                  simp only [List.getElem?_toArray, List.getElem?_cons_zero, List.getElem?_cons_succ] at q0 q1 q2 q3
                  go_simp
                  rfl
                simp only [List.getElem_toArray, List.getElem_cons_zero, List.getElem_cons_succ, Act.put, List.setIfInBounds_toArray, List.set_cons_zero, List.set_cons_succ]
                refine wpAnyH_ready (rs := [2, 4]) (by kernel_rfl) (by simp) ?_
                refine AllReadyH.cons (o := _) rfl (fun K hK => ?A) (AllReadyH.cons (o := _) rfl (fun K hK => ?B) AllReadyH.nil)
                case' A =>
                  refine rstep_value (v := .int .i64 z) (w' := w5) (by rfl) (by have := HIN.out.first w5 HI.out.map_; go_simp) ?_
                  refine hK.out _ _ hH (fun _ => ?_)
                  clear hK K
                  simp only [List.getElem_toArray, List.getElem_cons_zero, List.getElem_cons_succ, Act.put, List.setIfInBounds_toArray, List.set_cons_zero, List.set_cons_succ]
                  refine wpAnyH_take (i := 3) (oi := _) (v := .int .i64 (z + 1)) rfl (by kernel_rfl) (by kernel_rfl) (by kernel_rfl) (fun _ _ _ h => h) (Or.inl ⟨by rfl, fun w hw => by go_simp⟩) hH ?_
                  simp only [List.getElem_toArray, List.getElem_cons_zero, List.getElem_cons_succ, Act.put, List.setIfInBounds_toArray, List.set_cons_zero, List.set_cons_succ]
                  refine wpAnyH_ready (rs := [4]) (by kernel_rfl) (by simp) ?_
                  refine AllReadyH.cons (o := _) rfl (fun K hK => ?_) AllReadyH.nil
                  obtain ⟨w6, hr6, hm6, hg6⟩ := HIN.out.entry w5 HI.out.map_
                  refine rstep_value (v := .tuple #[.int .i64 z, .int .i64 st]) (w' := w6) (by rfl) (by go_simp) ?_
                  have hH6 := (hg6.block g9 (blk_lt hH) (by simp; exact HG9.out.1)).trans hH
                  have HI6 := Aside0.mk (HI.out.remap hm6 hg6)
                  clear HI
                  refine hK.out _ _ hH6 (fun _ => ?_)
                  clear hK K hr6
                  simp only [List.getElem_toArray, List.getElem_cons_zero, List.getElem_cons_succ, Act.put, List.setIfInBounds_toArray, List.set_cons_zero, List.set_cons_succ]
                  refine wpAnyH_take (i := 5) (oi := _) (v := .int .i64 st) rfl (by kernel_rfl) (by kernel_rfl) (by kernel_rfl) (fun _ _ _ h => h) (Or.inl ⟨by rfl, fun w hw => by go_simp⟩) hH6 ?_
                  simp only [List.getElem_toArray, List.getElem_cons_zero, List.getElem_cons_succ, Act.put, List.setIfInBounds_toArray, List.set_cons_zero, List.set_cons_succ]
                case' B =>
                  obtain ⟨w6, hr6, hm6, hg6⟩ := HIN.out.entry w5 HI.out.map_
                  refine rstep_value (v := .tuple #[.int .i64 z, .int .i64 st]) (w' := w6) (by rfl) (by go_simp) ?_
                  have hH6 := (hg6.block g9 (blk_lt hH) (by simp; exact HG9.out.1)).trans hH
                  have HI6 := Aside0.mk (HI.out.remap hm6 hg6)
                  clear HI
                  refine hK.out _ _ hH6 (fun _ => ?_)
                  clear hK K hr6
                  simp only [List.getElem_toArray, List.getElem_cons_zero, List.getElem_cons_succ, Act.put, List.setIfInBounds_toArray, List.set_cons_zero, List.set_cons_succ]
                  refine wpAnyH_take (i := 5) (oi := _) (v := .int .i64 st) rfl (by kernel_rfl) (by kernel_rfl) (by kernel_rfl) (fun _ _ _ h => h) (Or.inl ⟨by rfl, fun w hw => by go_simp⟩) hH6 ?_
                  simp only [List.getElem_toArray, List.getElem_cons_zero, List.getElem_cons_succ, Act.put, List.setIfInBounds_toArray, List.set_cons_zero, List.set_cons_succ]
                  refine wpAnyH_ready (rs := [2]) (by kernel_rfl) (by simp) ?_
                  refine AllReadyH.cons (o := _) rfl (fun K hK => ?_) AllReadyH.nil
                  refine rstep_value (v := .int .i64 z) (w' := w6) (by rfl) (by have := HIN.out.second w6 hm6; go_simp) ?_
                  refine hK.out _ _ hH6 (fun _ => ?_)
                  clear hK K
                  simp only [List.getElem_toArray, List.getElem_cons_zero, List.getElem_cons_succ, Act.put, List.setIfInBounds_toArray, List.set_cons_zero, List.set_cons_succ]
                  refine wpAnyH_take (i := 3) (oi := _) (v := .int .i64 (z + 1)) rfl (by kernel_rfl) (by kernel_rfl) (by kernel_rfl) (fun _ _ _ h => h) (Or.inl ⟨by rfl, fun w hw => by go_simp⟩) hH6 ?_
                  simp only [List.getElem_toArray, List.getElem_cons_zero, List.getElem_cons_succ, Act.put, List.setIfInBounds_toArray, List.set_cons_zero, List.set_cons_succ]
                all_goals
                  refine wpAnyH_ready (rs := [6]) (by kernel_rfl) (by simp) ?_
                  refine AllReadyH.cons (o := _) rfl (fun K hK => ?_) AllReadyH.nil
                  obtain ⟨w7, hr7, hm7, hg7⟩ := HIN.out.store w6 hm6
                  refine rstep_skip (w' := w7) (by rfl) (by go_simp) ?_
                  have hH7 := (hg7.block g9 (blk_lt hH6) (by simp; exact HG9.out.1)).trans hH6
                  have HI := Aside0.mk (HI6.out.remap hm7 hg7)
                  clear HI6 hm6 hg6
                  refine hK.out _ _ hH7 (fun _ => ?_)
                  clear hK K hr7
                  simp only [List.getElem_toArray, List.getElem_cons_zero, List.getElem_cons_succ, Act.put, List.setIfInBounds_toArray, List.set_cons_zero, List.set_cons_succ]
                  refine wpAnyH_done (by kernel_rfl) ?_ _
                  have hlk : (Instr.lookup 140 (.map (some gm)) (.agg #[.int .u64 (clsOf pl).1, .int .u64 (clsOf pl).2.1, .int .u64 (clsOf pl).2.2.1, .int .u64 (clsOf pl).2.2.2]) false).run Try.prog w7 = .ok (.int .i64 (z + 1)) w7 := HIN.out.last w7 hm7
                  have q0 := blk_cell hH7 0
                  have q1 := blk_cell hH7 1
                  have q2 := blk_cell hH7 2
                  have q3 := blk_cell hH7 3
                  simp only [List.getElem?_toArray, List.getElem?_cons_zero, List.getElem?_cons_succ] at q0 q1 q2 q3
                  clear hm7 hg7 hH6 hH
                  by_cases cd : clsOf pl ∈ acc
                  · have hz := HZ1.out cd
                    subst hz
                    have hres := HRES.out
                    rw [if_pos cd] at hres
                    have HROW := Aside0.mk HI.out.row
                    have H := Aside0.mk HI.out.rs
                    have HO := Aside0.mk HI.out.only
                    go_wp2_with (first
                      | (go_at_call 55; refine (fail_ok w0 _ g A c b _ e _ _ H.out).mono ?_; rintro xx w8 ⟨rfl, hq1, hq2⟩; have n1_ := Aside0.mk hq1; have n2_ := Aside0.mk (HO.out.trans hq2); have n3_ := Aside0.mk (own_kept HROW.out (fun k hk => hq2.2 k (own_lt HROW.out k hk) (by have := own_base HROW.out k hk; have := HI.out.glt; omega))); have n4_ := Aside0.mk ((hq2.2 g9 (blk_lt hH7) (by have := HG9.out.2.2; have := HI.out.glt; omega)).trans hH7); clear H HO HROW hq1 hq2 hH7 q0 q1 q2 q3; have H := n1_; have HO := n2_; have HROW := n3_; have H98 := n4_; clear n1_ n2_ n3_ n4_; have q0 := blk_cell H98.out 0; have q1 := blk_cell H98.out 1; have q2 := blk_cell H98.out 2; have q3 := blk_cell H98.out 3; simp only [List.getElem?_toArray, List.getElem?_cons_zero, List.getElem?_cons_succ] at q0 q1 q2 q3)
                      | ((with_reducible refine gate_builtin (b := .append) (xs := #[.tmp 66, .tmp 68]) rfl ?_); at_builtin; refine print_append_cells w.heap.size rfl (.tmp 66) (.tmp 68) 85 76 (.agg #[.int .u64 0, .int .u64 0, .int .u64 0, .int .u64 0]) 4 32 rfl Try.underlying85 (by kernel_rfl) rfl (by decide) (by decide) u4 acc.length (acc.flatMap clsCells) (clsCells (clsOf pl)) rfl rfl rfl (by simp [clsCells, Value.oneCell']) HROW.out (Below.refl _ _) (HO.out.1) (by have := HAQ.out; have := HNB.out; have := HMN.out; omega) ?_; intro v5 w9 hown hbel hgr hat; have HSL := Aside0.mk (IsSl.own hown); have n1_ := Aside0.mk (H.out.through hgr (fun k hk => by have := own_base HROW.out k hk; have := HI.out.glt; have := HI.out.rs.ge; omega)); have n2_ := Aside0.mk (HO.out.through hgr (fun k hk => own_base HROW.out k hk)); clear H HO hown hgr hat hbel q0 q1 q2 q3; have H := n1_; have HO := n2_; clear n1_ n2_))
                    go_roundw
                    case measure => simp [intOf]; omega
                    case rel => exact ⟨q + 1, acc, by go_num, ⟨.inr ⟨(((at_ : Nat) : Int), 204), at_ + 32, H.out, by simp, HO.out, by rw [← hres, show e - (e - at_) = at_ by omega], by omega, HSL.out⟩⟩⟩
                  · obtain ⟨hz, hL2⟩ := HZ2.out cd
                    subst hz hL2
                    have hres := HRES.out
                    rw [if_neg cd] at hres
                    go_wp2_with (first
                      | ((with_reducible refine gate_builtin (b := .append) (xs := #[.tmp 66, .tmp 68]) rfl ?_); at_builtin; refine print_append_cells w.heap.size rfl (.tmp 66) (.tmp 68) 85 76 (.agg #[.int .u64 0, .int .u64 0, .int .u64 0, .int .u64 0]) 4 32 rfl Try.underlying85 (by kernel_rfl) rfl (by decide) (by decide) u4 acc.length (acc.flatMap clsCells) (clsCells (clsOf pl)) rfl rfl rfl (by simp [clsCells, Value.oneCell']) HI.out.row (Below.refl _ _) (HI.out.only.1) (by have := HAQ.out; have := HNB.out; have := HMN.out; omega) ?_; intro v5 w9 hown hbel hgr hat; have HSL := Aside0.mk (IsSl.own hown); have n1_ := Aside0.mk (HI.out.append hown hgr hat); clear HI hown hgr hat hbel q0 q1 q2 q3; have HI := n1_; clear n1_))
                    go_roundw
                    case measure => simp [intOf]; omega
                    case rel => exact ⟨q + 1, acc ++ [clsOf pl], by go_num, ⟨.inl ⟨at_ + 32, HI.out, by simp [haq], by rw [← hres, List.drop_drop], by omega⟩⟩⟩
        · have b1 : decide ((q : Int) < n) = false := decide_eq_false (by have := HMN.out; omega)
          rw [show n.toNat - q = 0 by omega, classesL] at hres
          go_wp2
          go_ret
          subst hres
          exact ⟨_, rfl, ⟨_, HI.out.rs, rfl⟩, HI.out.only, (fun acc' r' h => by injection h with h; injection h with h1 h2; rw [← h1]; exact HI.out.row), IsSl.own HI.out.row⟩
      · clear hcase
        have HF := Aside0.mk hf
        have H := Aside0.mk hrs
        have HO := Aside0.mk hon
        clear hf hrs hon
        by_cases c1 : q < n.toNat
        · have b1 : decide ((q : Int) < n) = true := decide_eq_true (by have := HMN.out; omega)
          go_wp2_with (first
            | (go_at_call 54; refine (bad_same w0 _ g A c b _ _ _ _ true H.out (by simpa using HF.out)).mono ?_; rintro xx w1 ⟨rfl, rfl⟩))
          go_ret
          exact ⟨_, rfl, ⟨_, HF.out, H.out⟩, HO.out, (fun _ _ h => by cases h), hsl⟩
        · have b1 : decide ((q : Int) < n) = false := decide_eq_false (by have := HMN.out; omega)
          go_wp2
          go_ret
          exact ⟨_, rfl, ⟨_, HF.out, H.out⟩, HO.out, (fun _ _ h => by cases h), hsl⟩
end
end Go.Proofs.Ytebiogaacikphaa.Pack
end
section
namespace Go.Proofs.Ytebiogaacikphaa.PAll
open Go.RowKit Go.Proofs.YtebiogaacikphaaW.PrintWords Go.Proofs.YtebiogaacikphaaW.PrintLast Go.Proofs.YtebiogaacikphaaW.PrintMore
set_option linter.unusedVariables false
set_option linter.unusedSimpArgs false
def dowelref04_letter.f (a0 : Int) : Option (Bool) := if a0 ≥ 97 then (if a0 ≤ 122 then (some true) else (if a0 ≥ 65 then (if a0 ≤ 90 then (some true) else (some (a0 == 95))) else (some (a0 == 95)))) else (if a0 ≥ 65 then (if a0 ≤ 90 then (some true) else (some (a0 == 95))) else (some (a0 == 95)))
def dowelref04_digit.f (a0 : Int) : Option (Bool) := if a0 ≥ 48 then (some (decide (a0 ≤ 57))) else (some false)
mutual
def dowelref04_own.j0 : Nat → ByteArray → Int → Bool → Option (Int)
  | 0, _, _, _ => none
  | k + 1, x0, x1, x16 => if x16 = true then (some x1) else (dowelref04_own.l0 k x0 x1)
def dowelref04_own.l0 : Nat → ByteArray → Int → Option (Int)
  | 0, _, _ => none
  | k + 1, x0, x5 => if x5 < (x0.size : Int) then (if 0 ≤ x5 then ((dowelref04_letter.f (bt x0 x5)).bind fun t108 => (if t108 = true then (dowelref04_own.l0 k x0 (wrap64 (x5 + 1))) else ((dowelref04_digit.f (bt x0 x5)).bind fun t109 => (if t109 = true then (dowelref04_own.l0 k x0 (wrap64 (x5 + 1))) else (some x5))))) else (none)) else (some x5)
end
def dowelref04_own.f (k : Nat) (a0 : ByteArray) (a1 : Int) : Option (Int) := if a1 ≥ (a0.size : Int) then (dowelref04_own.j0 k a0 a1 true) else (if 0 ≤ a1 then (if a1 < (a0.size : Int) then ((dowelref04_letter.f (bt a0 a1)).bind fun t107 => (dowelref04_own.j0 k a0 a1 (!t107))) else (none)) else (none))
def dowelref04_digits.l0 : Nat → ByteArray → Int → Option (Int)
  | 0, _, _ => none
  | k + 1, x0, x1 => if x1 < (x0.size : Int) then (if 0 ≤ x1 then ((dowelref04_digit.f (bt x0 x1)).bind fun t110 => (if t110 = true then (dowelref04_digits.l0 k x0 (wrap64 (x1 + 1))) else (some x1))) else (none)) else (some x1)
def dowelref04_digits.f (k : Nat) (a0 : ByteArray) (a1 : Int) : Option (Int) := dowelref04_digits.l0 k a0 a1
end Go.Proofs.Ytebiogaacikphaa.PAll
end
section
namespace Go.Proofs.Ytebiogaacikphaa.PAll
open Go.RowKit Go.Proofs.YtebiogaacikphaaW.PrintWords Go.Proofs.YtebiogaacikphaaW.PrintLast Go.Proofs.YtebiogaacikphaaW.PrintMore
set_option linter.unusedVariables false
set_option linter.unusedSimpArgs false
mutual
def dowelref04_named.j0 : Nat → ByteArray → Int → Bool → Option (Int)
  | 0, _, _, _ => none
  | k + 1, x0, x5, x32 => if x32 = true then ((dowelref04_own.f k x0 (wrap64 (x5 + 2))).bind fun t112 => (if t112 > (wrap64 (x5 + 2)) then (dowelref04_named.j1 k x0 t112) else (dowelref04_named.j1 k x0 x5))) else (dowelref04_named.j1 k x0 x5)
def dowelref04_named.j1 : Nat → ByteArray → Int → Option (Int)
  | 0, _, _ => none
  | k + 1, x0, x5 => if x5 < (x0.size : Int) then (if 0 ≤ x5 then (dowelref04_named.j2 k x0 x5 ((bt x0 x5) == 126)) else (none)) else (dowelref04_named.j2 k x0 x5 false)
def dowelref04_named.j2 : Nat → ByteArray → Int → Bool → Option (Int)
  | 0, _, _, _ => none
  | k + 1, x0, x5, x51 => if x51 = true then ((dowelref04_digits.f k x0 (wrap64 (x5 + 1))).bind fun t113 => (if t113 > (wrap64 (x5 + 1)) then (if t113 ≤ (wrap64 (x5 + 6)) then (if 0 ≤ (wrap64 (x5 + 1)) then (if (wrap64 (x5 + 1)) < (x0.size : Int) then (if (bt x0 (wrap64 (x5 + 1))) = 48 then (some x5) else (some t113)) else (none)) else (none)) else (some x5)) else (some x5))) else (some x5)
end
def dowelref04_named.f (k : Nat) (a0 : ByteArray) (a1 : Int) : Option (Int) := (dowelref04_own.f k a0 a1).bind fun t111 => (if t111 = a1 then (some a1) else (if (wrap64 (t111 + 1)) < (a0.size : Int) then (if 0 ≤ t111 then (if t111 < (a0.size : Int) then (if (bt a0 t111) = 58 then (if 0 ≤ (wrap64 (t111 + 1)) then (dowelref04_named.j0 k a0 t111 ((bt a0 (wrap64 (t111 + 1))) == 58)) else (none)) else (dowelref04_named.j0 k a0 t111 false)) else (none)) else (none)) else (dowelref04_named.j0 k a0 t111 false)))
end Go.Proofs.Ytebiogaacikphaa.PAll
end
section
namespace Go.Proofs.Ytebiogaacikphaa.PAll
open Go.RowKit Go.Proofs.YtebiogaacikphaaW.PrintWords Go.Proofs.YtebiogaacikphaaW.PrintLast Go.Proofs.YtebiogaacikphaaW.PrintMore
set_option linter.unusedVariables false
set_option linter.unusedSimpArgs false
def dowelbase_Own.l0 : Nat → ByteArray → Int → Option (Bool)
  | 0, _, _ => none
  | k + 1, x0, x3 => if x3 < (x0.size : Int) then (if 0 ≤ x3 then (if (bt x0 x3) = 58 then (some false) else (if (bt x0 x3) = 126 then (some false) else (dowelbase_Own.l0 k x0 (wrap64 (x3 + 1))))) else (none)) else (some true)
def dowelbase_Own.f (k : Nat) (a0 : ByteArray) : Option (Bool) := dowelbase_Own.l0 k a0 0
end Go.Proofs.Ytebiogaacikphaa.PAll
end
