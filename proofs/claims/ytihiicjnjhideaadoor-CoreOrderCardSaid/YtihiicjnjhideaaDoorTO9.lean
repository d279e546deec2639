/- Parts of the proof of coreOrder: BuildKit, BuildTree, PAllx2. No condition beyond each lemma's own. -/
import Derived.Test.YtihiicjnjhideaaDoorTO5
import Derived.Test.YtihiicjnjhideaaDoorTO7
import Derived.Test.YtihiicjnjhideaaDoorTO8
section
namespace Go.Proofs.YtihiicjnjhideaaDoor.Build
open Go.RowKit Go.Proofs.YtihiicjnjhideaaDoorW.PrintWords Go.Proofs.YtihiicjnjhideaaDoor.PAll Go.Proofs.YtihiicjnjhideaaDoor.Core
set_option linter.unusedVariables false
set_option linter.unusedSimpArgs false
abbrev CN := S55
abbrev kCN : Kd CN := k55
/-- A body of the call's own. -/
abbrev Own (w : World) (base : Nat) (v : Value) (l : List CN) : Prop := Kd.R kCN 55 w base (fun _ => True) v l
/-- A body, whosever. -/
def Bod (w : World) (v : Value) (l : List CN) : Prop := Own w 0 v l
theorem Bod.reads {w : World} {v : Value} {l : List CN} (h : Bod w v l) : ∃ A c, v = .slice A l.length c ∧ l.length ≤ c ∧ Kd.C kCN w A l.length l := Kd.R_reads h
theorem Bod.below {w w' : World} {v : Value} {l : List CN} (h : Bod w v l) (hb : Below w.heap.size w w') : Bod w' v l := Kd.R_below h hb
theorem Own.bod {w : World} {base : Nat} {v : Value} {l : List CN} (h : Own w base v l) : Bod w v l := Kd.R_lower h (Nat.zero_le _)
/-- A row of another type is written, or grown. -/
theorem Bod.over {w w' : World} {v u : Value} {l : List CN} {b n s : Nat} {e : TypeId} {xs : List Value} (h : Bod w v l) (ho : w.ownsRow b e s u n xs) (he : 55 ≠ e) {row : Option Nat} (hg : w.grownBy w' row) (hrow : ∀ k, row = some k → u.ownBlock = some k) : Bod w' v l := by
 obtain ⟨inner, hi⟩ := Kd.R_own h
 refine Kd.R_step (ok := fun k => v.ownBlock = some k) ⟨fun k hk => hk, h.2⟩ (fun k hk hlt => hg.block k hlt (fun e2 => ?_)) |>.imp (fun _ _ _ => trivial) id
 have h1 := hrow k e2.symm
 obtain ⟨c0, e0⟩ := own_typed hi k hk
 obtain ⟨c1, e1⟩ := own_typed ho k h1
 rw [e0] at e1
 injection e1 with e1
 injection e1 with _ e1
 exact he e1
/-- Bodies in a row. -/
def Bods (w : World) (vs : List Value) (L : List (List CN)) : Prop := vs.length = L.length ∧ ∀ (j : Nat) (v : Value) (l : List CN), vs[j]? = some v → L[j]? = some l → Bod w v l
theorem Bods.below {w w' : World} {vs : List Value} {L : List (List CN)} (h : Bods w vs L) (hb : Below w.heap.size w w') : Bods w' vs L := ⟨h.1, fun j v l h1 h2 => (h.2 j v l h1 h2).below hb⟩
theorem Bods.nil (w : World) : Bods w [] [] := ⟨rfl, fun j v l h => by simp at h⟩
theorem Bods.cons {w : World} {v : Value} {l : List CN} {vs : List Value} {L : List (List CN)} (h1 : Bod w v l) (h : Bods w vs L) : Bods w (v :: vs) (l :: L) := by
 refine ⟨by simp [h.1], fun j x y hx hy => ?_⟩
 cases j with
 | zero =>
  simp only [List.getElem?_cons_zero, Option.some.injEq] at hx hy
  subst hx; subst hy
  exact h1
 | succ j => exact h.2 j x y (by simpa using hx) (by simpa using hy)
theorem Bods.snoc {w : World} {v : Value} {l : List CN} {vs : List Value} {L : List (List CN)} (h : Bods w vs L) (h1 : Bod w v l) : Bods w (vs ++ [v]) (L ++ [l]) := by
 refine ⟨by simp [h.1], fun j x y hx hy => ?_⟩
 rcases Nat.lt_or_ge j vs.length with hj | hj
 ·rw [List.getElem?_append_left hj] at hx
  rw [List.getElem?_append_left (h.1 ▸ hj)] at hy
  exact h.2 j x y hx hy
 ·rw [List.getElem?_append_right hj] at hx
  rw [List.getElem?_append_right (h.1 ▸ hj), ← h.1] at hy
  have h0 : j - vs.length = 0 := by have := (List.getElem?_eq_some_iff.1 hx).1; simpa using this
  rw [h0] at hx hy
  simp only [List.getElem?_cons_zero, Option.some.injEq] at hx hy
  subst hx; subst hy
  exact h1
/-- Values in a row. -/
def RowV (w : World) (A : Option Addr) (vs : List Value) : Prop := 0 < vs.length → ∃ g, A = some ⟨g, 0, none⟩ ∧ g < w.heap.size ∧ ∀ j v, vs[j]? = some v → w.cell? ⟨g, j, none⟩ = some v
theorem RowV.row {w : World} {g : Nat} {t : TypeId} {vs : List Value} (h : RowAt w g t vs) : RowV w (some ⟨g, 0, none⟩) vs := fun _ => ⟨g, rfl, h.lt, fun j v hj => by rw [h.cell]; exact hj⟩
theorem row_lt {w : World} {base n c g : Nat} {t : TypeId} {vs : List Value} (h : w.ownsRow base t 1 (.slice (some ⟨g, 0, none⟩) n c) n vs) : g < w.heap.size := by
 rcases h.2 with ⟨hv, _⟩ | ⟨g', cap, cur, hv, _, hg, _⟩
 ·cases hv
 ·cases hv; exact blk_lt hg
theorem RowV.own {w : World} {base n c : Nat} {t : TypeId} {A : Option Addr} {vs : List Value} (h : w.ownsRow base t 1 (.slice A n c) n vs) : RowV w A vs := fun h0 => by
 rcases h.2 with ⟨hv, hn⟩ | ⟨g, cap, cur, hv, _⟩
 ·have := h.1; omega
 ·cases hv
  refine ⟨g, rfl, row_lt h, fun j v hj => ?_⟩
  have := h.cells (g := g) rfl j v hj
  rwa [show (⟨g, 0, none⟩ : Addr).add j = ⟨g, j, none⟩ from (by first | (simp [Addr.add]; done) | (simp [Addr.add]; omega))] at this
def sumL (L : List (List CN)) (i : Nat) : Nat := (L.take i).flatten.length
theorem take_snoc {α : Type} (L : List α) (i : Nat) (l : α) (h : L[i]? = some l) : L.take (i + 1) = L.take i ++ [l] := by
 rw [List.take_add_one, h]; rfl
theorem sumL_succ (L : List (List CN)) (i : Nat) (l : List CN) (h : L[i]? = some l) : sumL L (i + 1) = sumL L i + l.length := by
 unfold sumL
 rw [take_snoc L i l h, List.flatten_append, List.length_append]
 simp
theorem sumL_le (L : List (List CN)) (i : Nat) : sumL L i ≤ L.flatten.length := by
 unfold sumL
 rcases Nat.lt_or_ge L.length i with h | h
 ·rw [List.take_of_length_le (by omega)]; exact Nat.le_refl _
 ·conv => rhs; rw [← List.take_append_drop i L, List.flatten_append, List.length_append]
  omega
theorem sumL_all (L : List (List CN)) : sumL L L.length = L.flatten.length := by
 unfold sumL; rw [List.take_length]
/-- What a body is given up with. -/
def tooMuch : List PanicEntry := [{ v := .iface 84 (.agg #[]), recovered := false }]
/-- What is laid, or that it is too much. -/
def LaidE (base : Nat) (w' : World) (o : Option (List CN)) (e : Ending) : Prop := match o with
 | some l => ∃ v, e = .returned v ∧ Own w' base v l
 | none => e = .panicked tooMuch
def opN (k : Int) : CN := { (z55 : CN) with f0 := k }
def joinL (left : Int) (L : List (List CN)) : Option (List CN) := if (L.flatten.length : Int) > left then none else some L.flatten
theorem op_lit (k : Int) (w : World) : Calls Tryd.prog 41 #[.int .i64 k] w fun e w' => ∃ v, e = .returned v ∧ Own w' w.heap.size v [opN k] ∧ Below w.heap.size w w' :=
 core_op.calls k [opN k] w rfl
theorem cn_M {w : World} {base : Nat} {ok : Nat → Prop} {x : CN} {cs : List Value} (h : kCN.K w x cs) : kCN.M w base ok x cs := by
 have := k55_open h
 rw [this]
 exact k55_mkM w base ok x
theorem Own.make0 {w1 : World} {base g c : Nat} (h : w1.ownsRow base 55 7 (.slice (some ⟨g, 0, none⟩) 0 c) 0 []) : Own w1 base (.slice (some ⟨g, 0, none⟩) 0 c) [] :=
 ⟨fun _ _ => trivial, [], h, ⟨rfl, fun j p hj => by simp at hj⟩⟩
section
variable {P : Program} {ops : Array Oper} {rest : List Oper} {o : Oper} {a : Act} {Q : Exit → Act → World → Prop}
/-- 'make([]T, 0, n)'. -/
theorem make0_event {W : World} (hgd : o.guard = none) (t : TypeId) (l c : Operand) (hop : o.op = Op.makeSlice t l c) (n : Nat) (hl : a.eval l = .int .i64 0) (hc : a.eval c = .int .i64 n) (e : TypeId) (z : Value) (size bytes : Nat)
  (ht : P.underlying t = some (.slice e)) (hinfo : (P.info? e).map (fun i => (i.zero, i.size, i.bytes)) = some (some z, size, bytes)) (hb : bytes * n ≤ 281474976710656) (h63 : n ≤ 9223372036854775807) (base : Nat) (hbase : base ≤ W.heap.size)
  (h : ∀ g, g = W.heap.size → ∀ w1, w1.ownsRow base e size (.slice (some ⟨g, 0, none⟩) 0 n) 0 [] → Below W.heap.size W w1 → wpList P ops Q rest (a.put o.dst (.slice (some ⟨g, 0, none⟩) 0 n)) w1) : wpList P ops Q (o :: rest) a W := by
 obtain ⟨i, hi, hzz⟩ := Option.map_eq_some_iff.1 hinfo
 simp only [Prod.mk.injEq] at hzz
 obtain ⟨h1, h2, h3⟩ := hzz
 obtain ⟨w', hr, ho, hg⟩ := run_make_own (P := P) W base t e i z size ht hi h1 h2 .i64 .i64 n (by rw [h3]; exact hb) (by simpa [maxLen] using h63) hbase
 refine wpList_plain hgd fun K hK => ?_
 unfold Oper.wp execOp
 simp only [hop, hl, hc]
 simp only [Sem.run_bind, hr, Result.andThen_ok]
 exact hK _ _ (h _ rfl _ ho (pw_below_grown (Below.refl _ _) none (Nat.le_refl _) hg (fun k hk => by cases hk)))
end
end Go.Proofs.YtihiicjnjhideaaDoor.Build
end
section
namespace Go.Proofs.YtihiicjnjhideaaDoor.Build
open Go.RowKit Go.Proofs.YtihiicjnjhideaaDoorW.PrintWords Go.Proofs.YtihiicjnjhideaaDoor.PAll Go.Proofs.YtihiicjnjhideaaDoor.Core
set_option linter.unusedVariables false
set_option linter.unusedSimpArgs false
abbrev EN := S51
inductive T where
 | mk (n : EN) (ps : List T)
mutual
def flatT : T → List EN
 | .mk n ps => flatF ps ++ [n]
def flatF : List T → List EN
 | [] => []
 | t :: ts => flatT t ++ flatF ts
end
mutual
/-- Each node has as many parts as it says. -/
def wfT : T → Prop
 | .mk n ps => n.f1 = (ps.length : Int) ∧ wfF ps
def wfF : List T → Prop
 | [] => True
 | t :: ts => wfT t ∧ wfF ts
end
theorem flatF_append : ∀ a b : List T, flatF (a ++ b) = flatF a ++ flatF b
 | [], b => rfl
 | t :: a, b => by rw [List.cons_append, flatF, flatF, flatF_append a b, List.append_assoc]
theorem flatT_pos (t : T) : 0 < (flatT t).length := by
 cases t with
 | mk n ps => rw [flatT, List.length_append]; simp
/-- The nodes from a up to b. -/
def seg (e : List EN) (a b : Nat) : List EN := (e.drop a).take (b - a)
theorem seg_join (e : List EN) {a b c : Nat} (h1 : a ≤ b) (h2 : b ≤ c) : seg e a b ++ seg e b c = seg e a c := by
 unfold seg
 have e1 : c - a = (b - a) + (c - b) := by omega
 rw [e1, List.take_add, List.drop_drop, show a + (b - a) = b by omega]
theorem seg_one (e : List EN) {i : Nat} {x : EN} (h : e[i]? = some x) : seg e i (i + 1) = [x] := by
 unfold seg
 obtain ⟨hlt, hx⟩ := List.getElem?_eq_some_iff.1 h
 rw [show i + 1 - i = 1 by omega, List.drop_eq_getElem_cons hlt, hx]
 rfl
/-- Parts that stand behind one another, up to i, and the node at i: a tree. -/
theorem seg_tree (e : List EN) {a i : Nat} {x : EN} {ps : List T} (h : e[i]? = some x) (ha : a ≤ i) (hw : wfF ps) (hf : flatF ps = seg e a i) (hn : x.f1 = (ps.length : Int)) : wfT (.mk x ps) ∧ flatT (.mk x ps) = seg e a (i + 1) :=
 ⟨by rw [wfT]; exact ⟨hn, hw⟩, by rw [flatT, hf, ← seg_one e h]; exact seg_join e ha (by omega)⟩
/-- One part more, ahead of the others. -/
theorem seg_more (e : List EN) {a b i : Nat} {t : T} {ps : List T} (ha : a ≤ b) (hb : b ≤ i) (hw : wfF ps) (hf : flatF ps = seg e b i) (h1 : wfT t) (h2 : flatT t = seg e a b) : wfF (t :: ps) ∧ flatF (t :: ps) = seg e a i :=
 ⟨by rw [wfF]; exact ⟨h1, hw⟩, by rw [flatF, hf, h2]; exact seg_join e ha hb⟩
/-- What begins tells of a node: that its extent is a tree, or nothing. -/
structure BegAt (e : List EN) (b : Int) (i : Nat) : Prop where
 lo : -1 ≤ b
 hi : b ≤ i
 tree : 0 ≤ b → ∃ t, wfT t ∧ flatT t = seg e b.toNat (i + 1)
end Go.Proofs.YtihiicjnjhideaaDoor.Build
end
section
namespace Go.Proofs.YtihiicjnjhideaaDoor.PAll
open Go.RowKit Go.Proofs.YtihiicjnjhideaaDoorW.PrintWords Go.Proofs.YtihiicjnjhideaaDoorW.PrintLast Go.Proofs.YtihiicjnjhideaaDoorW.PrintMore
attribute [local go_sem] max2_int max_two
set_option linter.unusedVariables false
set_option linter.unusedSimpArgs false
theorem eqA51 (d : Nat) (w : World) (x0 y0 : Int) (x1 y1 : Int) (x2 y2 : ByteArray) (x3 y3 : Bool) (x4 y4 : Int) (x5 y5 : Int) (x6 y6 : Int) (x7 y7 : Int) (x8 y8 : Int) (x9 y9 : Int) :
  (Op.equalIn (d + 3) 51 (.agg #[.int .i64 x0, .int .i64 x1, .string x2, .bool x3, .int .u64 x4, .int .u64 x5, .int .u64 x6, .int .u64 x7, .int .i64 x8, .int .i64 x9]) (.agg #[.int .i64 y0, .int .i64 y1, .string y2, .bool y3, .int .u64 y4, .int .u64 y5, .int .u64 y6, .int .u64 y7, .int .i64 y8, .int .i64 y9])).run Tryd.prog w = .ok (x0 == y0 && (x1 == y1 && (x2.toList == y2.toList && (x3 == y3 && ((x4 == y4 && (x5 == y5 && (x6 == y6 && (x7 == y7)))) && (x8 == y8 && (x9 == y9))))))) w := by
 refine eqA_of Tryd.underlying51 (by kernel_rfl) ?_
 refine eqf_cons (by rfl) (by go_simp; rfl) (by go_simp; rfl) (by go_simp) ?_
 refine eqf_cons (by rfl) (by go_simp; rfl) (by go_simp; rfl) (by go_simp) ?_
 refine eqf_cons (by rfl) (by go_simp; rfl) (by go_simp; rfl) (by go_simp) ?_
 refine eqf_cons (by rfl) (by go_simp; rfl) (by go_simp; rfl) (by go_simp) ?_
 refine eqf_cons (by rfl) (by go_simp) (by go_simp) (eqA49 (d + 0) w _ _ _ _ _ _ _ _) ?_
 refine eqf_cons (by rfl) (by go_simp; rfl) (by go_simp; rfl) (by go_simp) ?_
 exact eqf_last (by rfl) (by go_simp; rfl) (by go_simp; rfl) (by go_simp)
end Go.Proofs.YtihiicjnjhideaaDoor.PAll
end
