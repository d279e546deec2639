/- Parts of the proof of packEncodes: Tables. No condition beyond each lemma's own. -/
import Derived.StillTailTactics
import Derived.Test.YtebiogaacikphaaTE11
section
namespace Go.Proofs.YtebiogaacikphaaW.PrintWords
open Go.RowKit Go.MapKept
section
variable {P : Program} {ops : Array Oper} {o : Oper} {a : Act} {Q : Exit → Act → World → Prop} {Kc : Act → World → Prop}
/-- 'append(s, x)' of one element as one step of a region that draws its order. -/
theorem rstep_append {W : World} (base : Nat) (hw : Region.wanted o (yielded ops a.tmps) = true) (s x : Operand) (t e : TypeId) (z : Value) (size bytes : Nat)
    (ho : o.op = .call { callee := .builtin .append, args := #[s, x], argTypes := #[t, t] })
    (ht : P.underlying t = some (.slice e)) (hinfo : (P.info? e).map (fun i => (i.zero, i.size, i.bytes)) = some (some z, size, bytes)) (hz : z.cells.size = size) (hs0 : 0 < size) (hb0 : 0 < bytes)
    (v : Value) (n : Nat) (xs ys : List Value) (hs : a.eval s = v) (hx : a.eval x = .slice (some ⟨W.heap.size, 0, none⟩) 1 1) (hys : ys.length = size) (h1 : ∀ u ∈ ys, u.oneCell' = true)
    (HO : W.ownsRow base e size v n xs) (hbase : base ≤ W.heap.size) (hl : (n + 1) * bytes ≤ 140737488355328)
    (h : ∀ v1 w1, w1.ownsRow base e size v1 (n + 1) (xs ++ ys) → W.grownBy w1 v.ownBlock → (v1.ownBlock = v.ownBlock ∨ ∃ b, v1.ownBlock = some b ∧ W.heap.size ≤ b) → Kc (a.put o.dst v1) w1) :
    if Region.wanted o (yielded ops a.tmps) = true then Oper.wp P o a (W.alloc (.cells ys.toArray e)) Kc Q else Kc (a.put o.dst undef) (W.alloc (.cells ys.toArray e)) := by
  obtain ⟨i0, hi, hzz⟩ := Option.map_eq_some_iff.1 hinfo
  simp only [Prod.mk.injEq] at hzz
  obtain ⟨hz0, hz1, hz2⟩ := hzz
  have hlen : n + 1 ≤ 140737488355328 := Nat.le_trans (Nat.le_mul_of_pos_right _ hb0) hl
  obtain ⟨v', w', hr, h2, h3, h4, h5⟩ := run_append_own_at (P := P) (W.alloc (.cells ys.toArray e)) base t o.type e i0 z size bytes ht hi hz0 hz1 hz2 hz hs0 v n xs (HO.alloc _) ⟨W.heap.size, 0, none⟩ 1 1 ys (by rw [hys]; simp)
    (by simpa using World.news_of_block (cs := ys.toArray) (t := e) (fr := (0, 0)) (heap_alloc_new W (.cells ys.toArray e))) h1 (by simp only [maxLen]; omega) hl (by simp; omega)
  rw [if_pos hw]
  unfold Oper.wp execOp
  simp only [ho, resolve, invoke, builtin, Sem.run_bind, Sem.run_pure, Result.andThen_ok, List.map_toArray, List.map_cons, List.map_nil, hs, hx, hr]
  refine h v' w' h2 (World.grownBy.trans (World.grownBy_alloc W _ _) h3) ?_
  rcases h5 with hat | hat
  · exact .inl hat
  · exact .inr ⟨_, hat, by simp⟩
end
/-- Keys with their numbers. -/
def numbered {κ : Type} (S : List κ) : List (κ × Value) := S.zipIdx.map fun p => (p.1, .int .i64 (p.2 : Int))
theorem numbered_keys {κ : Type} (S : List κ) : (numbered S).map (·.1) = S := by
  rw [numbered, List.map_map]
  show S.zipIdx.map Prod.fst = S
  exact List.zipIdx_map_fst 0 S
theorem numbered_snoc {κ : Type} (S : List κ) (x : κ) : numbered (S ++ [x]) = numbered S ++ [(x, .int .i64 (S.length : Int))] := by
  rw [numbered, List.zipIdx_append, List.map_append]
  simp [numbered]
theorem find_numbered {κ : Type} [DecidableEq κ] (x : κ) : ∀ (S : List κ) (k i : Nat), x ∈ S → mapFind x ((S.zipIdx k).map fun p => (p.1, Value.int .i64 (p.2 : Int))) i = some (i + S.idxOf x, .int .i64 ((k + S.idxOf x : Nat) : Int))
  | [], _, _, h => by cases h
  | y :: S, k, i, h => by
    rw [List.zipIdx_cons, List.map_cons, mapFind]
    by_cases e : x = y
    · subst e
      rw [if_pos rfl, List.idxOf_cons_self]
      rfl
    · rw [if_neg e, find_numbered x S (k + 1) (i + 1) (by rcases List.mem_cons.1 h with h | h; exact absurd h e; exact h), List.idxOf_cons, show (y == x) = false from beq_eq_false_iff_ne.2 (fun h => e h.symm)]
      dsimp only [cond_false]
      congr 2
      · omega
      · congr 2; omega
theorem look_numbered {κ : Type} [DecidableEq κ] {x : κ} {S : List κ} (h : x ∈ S) : mapFind x (numbered S) 0 = some (S.idxOf x, .int .i64 (S.idxOf x : Int)) := by
  have := find_numbered x S 0 0 h
  rw [Nat.zero_add] at this
  exact this
end Go.Proofs.YtebiogaacikphaaW.PrintWords
namespace Go.Proofs.Ytebiogaacikphaa.Pack
open Go.RowKit Go.Proofs.YtebiogaacikphaaW.PrintWords Go.Proofs.Ytebiogaacikphaa.PAll Go.Proofs.Ytebiogaacikphaa.Names
set_option linter.unusedVariables false
set_option linter.unusedSimpArgs false
theorem class_new {gm : Nat} {x : Four} {S : List Four} (h : x ∉ S) (W : World) (hm : MapAt (encFour .u64) W gm (numbered S)) : (Instr.lookup 140 (.map (some gm)) (encFour .u64 x) true).run Try.prog W = .ok (.tuple #[.int .i64 0, .bool false]) W := by
  have := MapAt.lookup (P := Try.prog) cls_keys Try.underlying140 hm x (z := .int .i64 0) (by kernel_rfl) true
  rw [mapFind_none.2 (by rw [numbered_keys]; exact h)] at this
  exact this
theorem class_old {gm : Nat} {x : Four} {S : List Four} (h : x ∈ S) (ok : Bool) (W : World) (hm : MapAt (encFour .u64) W gm (numbered S)) : (Instr.lookup 140 (.map (some gm)) (encFour .u64 x) ok).run Try.prog W = .ok (if ok then .tuple #[.int .i64 (placeOf S x : Int), .bool true] else .int .i64 (placeOf S x : Int)) W := by
  have := MapAt.lookup (P := Try.prog) cls_keys Try.underlying140 hm x (z := .int .i64 0) (by kernel_rfl) ok
  rw [look_numbered h] at this
  exact this
theorem name_new {gm : Nat} {x : ByteArray} {S : List ByteArray} (h : x ∉ S) (W : World) (hm : MapAt Value.string W gm (numbered S)) : (Instr.lookup 94 (.map (some gm)) (.string x) true).run Try.prog W = .ok (.tuple #[.int .i64 0, .bool false]) W := by
  have := MapAt.lookup (P := Try.prog) str_keys Try.underlying94 hm x (z := .int .i64 0) (by kernel_rfl) true
  rw [mapFind_none.2 (by rw [numbered_keys]; exact h)] at this
  exact this
theorem name_old {gm : Nat} {x : ByteArray} {S : List ByteArray} (h : x ∈ S) (ok : Bool) (W : World) (hm : MapAt Value.string W gm (numbered S)) : (Instr.lookup 94 (.map (some gm)) (.string x) ok).run Try.prog W = .ok (if ok then .tuple #[.int .i64 (placeOf S x : Int), .bool true] else .int .i64 (placeOf S x : Int)) W := by
  have := MapAt.lookup (P := Try.prog) str_keys Try.underlying94 hm x (z := .int .i64 0) (by kernel_rfl) ok
  rw [look_numbered h] at this
  exact this
/-- The block gt holds cs; maps and lists are what they are; all is the call's own. -/
structure GT (w W : World) (gt gc gn : Nat) (cs : List Value) (vs vt : Value) (lc : List (Four × Value)) (ln : List (ByteArray × Value)) (S : List Four) (T : List ByteArray) : Prop where
  bel : Below w.heap.size w W
  row : RowAt W gt 142 cs
  mc : MapAt (encFour .u64) W gc lc
  mn : MapAt Value.string W gn ln
  s : W.ownsRow w.heap.size 76 4 vs S.length (S.flatMap clsCells)
  t : W.ownsRow w.heap.size 9 1 vt T.length (T.map Value.string)
  ge : w.heap.size ≤ gc ∧ gc < gn ∧ gn < gt
  offs : ∀ q, vs.ownBlock = some q → q ≠ gc ∧ q ≠ gn ∧ q ≠ gt ∧ vt.ownBlock ≠ some q
  offt : ∀ q, vt.ownBlock = some q → q ≠ gc ∧ q ≠ gn ∧ q ≠ gt
section
variable {w W W' : World} {gt gc gn : Nat} {cs : List Value} {vs vt : Value} {lc : List (Four × Value)} {ln : List (ByteArray × Value)} {S : List Four} {T : List ByteArray}
theorem GT.below (h : GT w W gt gc gn cs vs vt lc ln S T) (hb : Below W.heap.size W W') : GT w W' gt gc gn cs vs vt lc ln S T :=
  ⟨below_step h.bel hb, h.row.below hb, h.mc.below hb, h.mn.below hb, own_kept h.s (fun k hk => hb.block k (own_lt h.s k hk)), own_kept h.t (fun k hk => hb.block k (own_lt h.t k hk)), h.ge, h.offs, h.offt⟩
theorem GT.drewN (h : GT w W gt gc gn cs vs vt lc ln S T) (n : Nat) : GT w (W.drewN n) gt gc gn cs vs vt lc ln S T := h.below (pw_below_drewN (Below.refl W.heap.size W) n)
/-- A block of the call's own that is none of these is written. -/
theorem GT.other (h : GT w W gt gc gn cs vs vt lc ln S T) {r : Nat} (hg : W.grownBy W' (some r)) (hr : gt < r) (h1 : vs.ownBlock ≠ some r) (h2 : vt.ownBlock ≠ some r) : GT w W' gt gc gn cs vs vt lc ln S T := by
  have hge := h.ge
  exact ⟨pw_below_grown h.bel (some r) h.bel.size hg (fun k hk => by injection hk with hk; omega), h.row.grown hg (by simp; omega), h.mc.grown hg (by simp; omega), h.mn.grown hg (by simp; omega), own_kept h.s (fun k hk => hg.block k (own_lt h.s k hk) (fun e => h1 (hk.trans e))), own_kept h.t (fun k hk => hg.block k (own_lt h.t k hk) (fun e => h2 (hk.trans e))), hge, h.offs, h.offt⟩
theorem GT.mapC (h : GT w W gt gc gn cs vs vt lc ln S T) {lc' : List (Four × Value)} (hm : MapAt (encFour .u64) W' gc lc') (hg : W.grownBy W' (some gc)) : GT w W' gt gc gn cs vs vt lc' ln S T := by
  have hge := h.ge
  exact ⟨pw_below_grown h.bel (some gc) h.bel.size hg (fun k hk => by injection hk with hk; omega), h.row.grown hg (by simp; omega), hm, h.mn.grown hg (by simp; omega), own_kept h.s (fun k hk => hg.block k (own_lt h.s k hk) (fun e => by injection e with e; exact (h.offs k hk).1 e)), own_kept h.t (fun k hk => hg.block k (own_lt h.t k hk) (fun e => by injection e with e; exact (h.offt k hk).1 e)), hge, h.offs, h.offt⟩
theorem GT.mapN (h : GT w W gt gc gn cs vs vt lc ln S T) {ln' : List (ByteArray × Value)} (hm : MapAt Value.string W' gn ln') (hg : W.grownBy W' (some gn)) : GT w W' gt gc gn cs vs vt lc ln' S T := by
  have hge := h.ge
  exact ⟨pw_below_grown h.bel (some gn) h.bel.size hg (fun k hk => by injection hk with hk; omega), h.row.grown hg (by simp; omega), h.mc.grown hg (by simp; omega), hm, own_kept h.s (fun k hk => hg.block k (own_lt h.s k hk) (fun e => by injection e with e; exact (h.offs k hk).2.1 e)), own_kept h.t (fun k hk => hg.block k (own_lt h.t k hk) (fun e => by injection e with e; exact (h.offt k hk).2.1 e)), hge, h.offs, h.offt⟩
/-- The fields are written. -/
theorem GT.put (h : GT w W gt gc gn cs vs vt lc ln S T) {cs' : List Value} (hr : RowAt W' gt 142 cs') (hg : W.grownBy W' (some gt)) : GT w W' gt gc gn cs' vs vt lc ln S T := by
  have hge := h.ge
  exact ⟨pw_below_grown h.bel (some gt) h.bel.size hg (fun k hk => by injection hk with hk; omega), hr, h.mc.grown hg (by simp; omega), h.mn.grown hg (by simp; omega), own_kept h.s (fun k hk => hg.block k (own_lt h.s k hk) (fun e => by injection e with e; exact (h.offs k hk).2.2.1 e)), own_kept h.t (fun k hk => hg.block k (own_lt h.t k hk) (fun e => by injection e with e; exact (h.offt k hk).2.2 e)), hge, h.offs, h.offt⟩
theorem GT.addS (h : GT w W gt gc gn cs vs vt lc ln S T) {v' : Value} {x : Four} (ho : W'.ownsRow w.heap.size 76 4 v' (S.length + 1) (S.flatMap clsCells ++ clsCells x)) (hg : W.grownBy W' vs.ownBlock) (hat : v'.ownBlock = vs.ownBlock ∨ ∃ q, v'.ownBlock = some q ∧ W.heap.size ≤ q) : GT w W' gt gc gn cs v' vt lc ln (S ++ [x]) T := by
  have hge := h.ge
  have hlt := h.row.lt
  refine ⟨pw_below_grown h.bel vs.ownBlock h.bel.size hg (fun k hk => own_base h.s k hk), h.row.grown hg (fun e => (h.offs gt e.symm).2.2.1 rfl), h.mc.grown hg (fun e => (h.offs gc e.symm).1 rfl), h.mn.grown hg (fun e => (h.offs gn e.symm).2.1 rfl), ?_, own_kept h.t (fun k hk => hg.block k (own_lt h.t k hk) (fun e => (h.offs k e.symm).2.2.2 hk)), hge, fun q hq => ?_, h.offt⟩
  · rw [List.length_append, List.flatMap_append]
    simpa using ho
  · rcases hat with e | ⟨r, e, hr⟩
    · exact h.offs q (e ▸ hq)
    · rw [e] at hq
      injection hq with hq
      subst hq
      refine ⟨by omega, by omega, by omega, fun e => ?_⟩
      have := own_lt h.t r e
      omega
theorem GT.addT (h : GT w W gt gc gn cs vs vt lc ln S T) {v' : Value} {x : ByteArray} (ho : W'.ownsRow w.heap.size 9 1 v' (T.length + 1) (T.map Value.string ++ [.string x])) (hg : W.grownBy W' vt.ownBlock) (hat : v'.ownBlock = vt.ownBlock ∨ ∃ q, v'.ownBlock = some q ∧ W.heap.size ≤ q) : GT w W' gt gc gn cs vs v' lc ln S (T ++ [x]) := by
  have hge := h.ge
  have hlt := h.row.lt
  refine ⟨pw_below_grown h.bel vt.ownBlock h.bel.size hg (fun k hk => own_base h.t k hk), h.row.grown hg (fun e => (h.offt gt e.symm).2.2 rfl), h.mc.grown hg (fun e => (h.offt gc e.symm).1 rfl), h.mn.grown hg (fun e => (h.offt gn e.symm).2.1 rfl), own_kept h.s (fun k hk => hg.block k (own_lt h.s k hk) (fun e => (h.offs k hk).2.2.2 e.symm)), ?_, hge, fun q hq => ?_, fun q hq => ?_⟩
  · rw [List.length_append, List.map_append]
    exact ho
  · have ho := h.offs q hq
    refine ⟨ho.1, ho.2.1, ho.2.2.1, fun e => ?_⟩
    rcases hat with e2 | ⟨r, e2, hr⟩
    · exact ho.2.2.2 (e2 ▸ e)
    · rw [e2] at e
      injection e with e
      have := own_lt h.s q hq
      omega
  · rcases hat with e | ⟨r, e, hr⟩
    · exact h.offt q (e ▸ hq)
    · rw [e] at hq
      injection hq with hq
      subst hq
      exact ⟨by omega, by omega, by omega⟩
end
/-- The tables of a program, made. -/
def Tabs (w W : World) (gt gc gn : Nat) (vs vt : Value) (S : List Four) (T : List ByteArray) : Prop := GT w W gt gc gn [.map (some gc), .map (some gn), vs, vt] vs vt (numbered S) (numbered T) S T
end Go.Proofs.Ytebiogaacikphaa.Pack
end
