/- Parts of the proof of packBack and packOne and packCuts and packSpoilt and packSmall: PAllx0, PackOpen, Row, Ev, PackTake, Bits, PackCount. No condition beyond each lemma's own. -/
import Derived.ArgAppend
import Derived.Below
import Derived.BigQuiet
import Derived.Deep.AppendLies
import Derived.Deep.CutBlock
import Derived.Deep.DeepCutAuto
import Derived.Deep.Draws
import Derived.Deep.LoopGhost
import Derived.Deep.OwnRows
import Derived.Deep.QuietTactic
import Derived.Deep.RegionHeld3
import Derived.IntWalk
import Derived.KernelRfl
import Derived.Laws.BitsLemmas
import Derived.Laws.BytesArg
import Derived.Laws.CopyRow
import Derived.Laws.IdiomCopy
import Derived.Laws.MakeOwn
import Derived.Laws.OwnMore
import Derived.Laws.Rows
import Derived.Laws.Slices
import Derived.Lib.AppendStr
import Derived.Lib.ConvBytes
import Derived.Maps.AppendAt
import Derived.OrdersHeld
import Derived.Outline
import Derived.OwnWalk
import Derived.RowKit
import Derived.RowKit3
import Derived.Tactics
import Derived.Test.YtebiogaacikphaaProg
import Derived.WalkKit
import Derived.WideLaws
import Derived.Test.YtebiogaacikphaaTQ0
import Derived.Test.YtebiogaacikphaaTQ1
import Derived.Test.YtebiogaacikphaaTQ2
section
namespace Go.Proofs.Ytebiogaacikphaa.PAll
open Go.RowKit Go.Proofs.YtebiogaacikphaaW.PrintWords Go.Proofs.YtebiogaacikphaaW.PrintLast Go.Proofs.YtebiogaacikphaaW.PrintMore
set_option linter.unusedVariables false
set_option linter.unusedSimpArgs false
def errW : Option Int → Value
  | none => .nilIface
  | some c => .iface 0 (.int .i64 c)
theorem errW_none : errW none = .nilIface := rfl
theorem errW_some (c : Int) : errW (some c) = .iface 0 (.int .i64 c) := rfl
theorem info5 : (Try.prog.info? 5).map (fun i => (i.zero, i.size, i.bytes)) = some (some (.int .u8 0), 1, 1) := by kernel_rfl
structure S76 where
  f0 : Int
  f1 : Int
  f2 : Int
  f3 : Int
def z76 : S76 := ⟨(0 : Int), (0 : Int), (0 : Int), (0 : Int)⟩
def k76 : Kd S76 := Kd.iso (Kd.pair (Kd.int .u64) (Kd.pair (Kd.int .u64) (Kd.pair (Kd.int .u64) (Kd.int .u64)))) (fun x : S76 => (x.f0, x.f1, x.f2, x.f3))
theorem k76_open {w : World} {x : S76} {cs : List Value} (h : k76.K w x cs) : cs = [.int .u64 x.f0, .int .u64 x.f1, .int .u64 x.f2, .int .u64 x.f3] := by
  obtain ⟨_, _, rfl, rfl, ⟨_, _, rfl, rfl, ⟨_, _, rfl, rfl, rfl⟩⟩⟩ := h
  exact rfl
theorem k76_mk (w : World) (x : S76)  : k76.K w x [.int .u64 x.f0, .int .u64 x.f1, .int .u64 x.f2, .int .u64 x.f3] := ⟨[.int .u64 x.f0], [.int .u64 x.f1, .int .u64 x.f2, .int .u64 x.f3], rfl, rfl, ⟨[.int .u64 x.f1], [.int .u64 x.f2, .int .u64 x.f3], rfl, rfl, ⟨[.int .u64 x.f2], [.int .u64 x.f3], rfl, rfl, rfl⟩⟩⟩
structure S90 where
  f0 : Int
  f1 : S76
  f2 : Int
  f3 : ByteArray
def z90 : S90 := ⟨(0 : Int), z76, (0 : Int), (⟨#[]⟩ : ByteArray)⟩
def k90 : Kd S90 := Kd.iso (Kd.pair (Kd.int .i64) (Kd.pair k76 (Kd.pair (Kd.int .i64) Kd.string))) (fun x : S90 => (x.f0, x.f1, x.f2, x.f3))
theorem k90_open {w : World} {x : S90} {cs : List Value} (h : k90.K w x cs) : cs = [.int .i64 x.f0, .int .u64 x.f1.f0, .int .u64 x.f1.f1, .int .u64 x.f1.f2, .int .u64 x.f1.f3, .int .i64 x.f2, .string x.f3] := by
  obtain ⟨_, _, rfl, rfl, ⟨_, _, rfl, s1, ⟨_, _, rfl, rfl, rfl⟩⟩⟩ := h
  obtain rfl := k76_open s1
  exact rfl
def rd_T90 (xs : List S90) (i : Int) : S90 := xs.getD i.toNat z90
theorem at_T90 {w : World} {A : Option Addr} {n : Nat} {xs : List S90} (h : Kd.C k90 w A n xs) (i : Int) (h0 : 0 ≤ i) (h1 : i < n) : ∃ ad , A = some ad ∧ w.cell? (ad.add (i.toNat * 7)) = some (.int .i64 (rd_T90 xs i).f0) ∧ w.cell? ⟨(ad.add (i.toNat * 7)).block, (ad.add (i.toNat * 7)).off + 1, none⟩ = some (.int .u64 (rd_T90 xs i).f1.f0) ∧ w.cell? ⟨(ad.add (i.toNat * 7)).block, (ad.add (i.toNat * 7)).off + 2, none⟩ = some (.int .u64 (rd_T90 xs i).f1.f1) ∧ w.cell? ⟨(ad.add (i.toNat * 7)).block, (ad.add (i.toNat * 7)).off + 3, none⟩ = some (.int .u64 (rd_T90 xs i).f1.f2) ∧ w.cell? ⟨(ad.add (i.toNat * 7)).block, (ad.add (i.toNat * 7)).off + 4, none⟩ = some (.int .u64 (rd_T90 xs i).f1.f3) ∧ w.cell? ⟨(ad.add (i.toNat * 7)).block, (ad.add (i.toNat * 7)).off + 5, none⟩ = some (.int .i64 (rd_T90 xs i).f2) ∧ w.cell? ⟨(ad.add (i.toNat * 7)).block, (ad.add (i.toNat * 7)).off + 6, none⟩ = some (.string (rd_T90 xs i).f3) := by
  obtain ⟨ad, c, e, _, hK, hc0⟩ := Kd.C_get h z90 i h0 h1
  have hc : ∀ j u, c[j]? = some u → w.cell? (ad.add (i.toNat * 7 + j)) = some u := hc0
  obtain rfl := k90_open hK
  exact ⟨ad, e, hc 0 _ rfl, by rw [← add_field _ _ 1 (by omega)]; exact hc 1 _ rfl, by rw [← add_field _ _ 2 (by omega)]; exact hc 2 _ rfl, by rw [← add_field _ _ 3 (by omega)]; exact hc 3 _ rfl, by rw [← add_field _ _ 4 (by omega)]; exact hc 4 _ rfl, by rw [← add_field _ _ 5 (by omega)]; exact hc 5 _ rfl, by rw [← add_field _ _ 6 (by omega)]; exact hc 6 _ rfl⟩
structure S30 where
  f0 : ByteArray
  f1 : (List S90)
def z30 : S30 := ⟨(⟨#[]⟩ : ByteArray), ([] : List S90)⟩
def k30 : Kd S30 := Kd.iso (Kd.pair Kd.string (Kd.slice 90 k90)) (fun x : S30 => (x.f0, x.f1))
theorem k30_open {w : World} {x : S30} {cs : List Value} (h : k30.K w x cs) : ∃ A1 c1, cs = [.string x.f0, .slice A1 x.f1.length c1] ∧ x.f1.length ≤ c1 ∧ k90.C w A1 x.f1.length x.f1 := by
  obtain ⟨_, _, rfl, rfl, ⟨A1, c1, rfl, l1, g1⟩⟩ := h
  exact ⟨A1, c1, rfl, l1, g1⟩
def rd_T30 (xs : List S30) (i : Int) : S30 := xs.getD i.toNat z30
theorem at_T30 {w : World} {A : Option Addr} {n : Nat} {xs : List S30} (h : Kd.C k30 w A n xs) (i : Int) (h0 : 0 ≤ i) (h1 : i < n) : ∃ ad A1 c1, A = some ad ∧ w.cell? (ad.add (i.toNat * 2)) = some (.string (rd_T30 xs i).f0) ∧ w.cell? ⟨(ad.add (i.toNat * 2)).block, (ad.add (i.toNat * 2)).off + 1, none⟩ = some (.slice A1 (rd_T30 xs i).f1.length c1) ∧ (rd_T30 xs i).f1.length ≤ c1 ∧ k90.C w A1 (rd_T30 xs i).f1.length (rd_T30 xs i).f1 := by
  obtain ⟨ad, c, e, _, hK, hc0⟩ := Kd.C_get h z30 i h0 h1
  have hc : ∀ j u, c[j]? = some u → w.cell? (ad.add (i.toNat * 2 + j)) = some u := hc0
  obtain ⟨A1, c1, rfl, l1, g1⟩ := k30_open hK
  exact ⟨ad, A1, c1, e, hc 0 _ rfl, by rw [← add_field _ _ 1 (by omega)]; exact hc 1 _ rfl, l1, g1⟩
structure S78 where
  f0 : Int
  f1 : Int
  f2 : S76
  f3 : ByteArray
def z78 : S78 := ⟨(0 : Int), (0 : Int), z76, (⟨#[]⟩ : ByteArray)⟩
def k78 : Kd S78 := Kd.iso (Kd.pair (Kd.int .i64) (Kd.pair (Kd.int .i64) (Kd.pair k76 Kd.string))) (fun x : S78 => (x.f0, x.f1, x.f2, x.f3))
theorem k78_open {w : World} {x : S78} {cs : List Value} (h : k78.K w x cs) : cs = [.int .i64 x.f0, .int .i64 x.f1, .int .u64 x.f2.f0, .int .u64 x.f2.f1, .int .u64 x.f2.f2, .int .u64 x.f2.f3, .string x.f3] := by
  obtain ⟨_, _, rfl, rfl, ⟨_, _, rfl, rfl, ⟨_, _, rfl, s2, rfl⟩⟩⟩ := h
  obtain rfl := k76_open s2
  exact rfl
theorem k78_mk (w : World) (x : S78)  : k78.K w x [.int .i64 x.f0, .int .i64 x.f1, .int .u64 x.f2.f0, .int .u64 x.f2.f1, .int .u64 x.f2.f2, .int .u64 x.f2.f3, .string x.f3] := ⟨[.int .i64 x.f0], [.int .i64 x.f1, .int .u64 x.f2.f0, .int .u64 x.f2.f1, .int .u64 x.f2.f2, .int .u64 x.f2.f3, .string x.f3], rfl, rfl, ⟨[.int .i64 x.f1], [.int .u64 x.f2.f0, .int .u64 x.f2.f1, .int .u64 x.f2.f2, .int .u64 x.f2.f3, .string x.f3], rfl, rfl, ⟨[.int .u64 x.f2.f0, .int .u64 x.f2.f1, .int .u64 x.f2.f2, .int .u64 x.f2.f3], [.string x.f3], rfl, (k76_mk w x.f2 ), rfl⟩⟩⟩
def rd_T78 (xs : List S78) (i : Int) : S78 := xs.getD i.toNat z78
theorem at_T78 {w : World} {A : Option Addr} {n : Nat} {xs : List S78} (h : Kd.C k78 w A n xs) (i : Int) (h0 : 0 ≤ i) (h1 : i < n) : ∃ ad , A = some ad ∧ w.cell? (ad.add (i.toNat * 7)) = some (.int .i64 (rd_T78 xs i).f0) ∧ w.cell? ⟨(ad.add (i.toNat * 7)).block, (ad.add (i.toNat * 7)).off + 1, none⟩ = some (.int .i64 (rd_T78 xs i).f1) ∧ w.cell? ⟨(ad.add (i.toNat * 7)).block, (ad.add (i.toNat * 7)).off + 2, none⟩ = some (.int .u64 (rd_T78 xs i).f2.f0) ∧ w.cell? ⟨(ad.add (i.toNat * 7)).block, (ad.add (i.toNat * 7)).off + 3, none⟩ = some (.int .u64 (rd_T78 xs i).f2.f1) ∧ w.cell? ⟨(ad.add (i.toNat * 7)).block, (ad.add (i.toNat * 7)).off + 4, none⟩ = some (.int .u64 (rd_T78 xs i).f2.f2) ∧ w.cell? ⟨(ad.add (i.toNat * 7)).block, (ad.add (i.toNat * 7)).off + 5, none⟩ = some (.int .u64 (rd_T78 xs i).f2.f3) ∧ w.cell? ⟨(ad.add (i.toNat * 7)).block, (ad.add (i.toNat * 7)).off + 6, none⟩ = some (.string (rd_T78 xs i).f3) := by
  obtain ⟨ad, c, e, _, hK, hc0⟩ := Kd.C_get h z78 i h0 h1
  have hc : ∀ j u, c[j]? = some u → w.cell? (ad.add (i.toNat * 7 + j)) = some u := hc0
  obtain rfl := k78_open hK
  exact ⟨ad, e, hc 0 _ rfl, by rw [← add_field _ _ 1 (by omega)]; exact hc 1 _ rfl, by rw [← add_field _ _ 2 (by omega)]; exact hc 2 _ rfl, by rw [← add_field _ _ 3 (by omega)]; exact hc 3 _ rfl, by rw [← add_field _ _ 4 (by omega)]; exact hc 4 _ rfl, by rw [← add_field _ _ 5 (by omega)]; exact hc 5 _ rfl, by rw [← add_field _ _ 6 (by omega)]; exact hc 6 _ rfl⟩
end Go.Proofs.Ytebiogaacikphaa.PAll
end
section
namespace Go.Proofs.Ytebiogaacikphaa.Pack
open Go.RowKit Go.ChangeShapes Go.WideShapes Go.Proofs.YtebiogaacikphaaW.PrintWords Go.Proofs.Ytebiogaacikphaa.PAll
set_option linter.unusedVariables false
set_option maxRecDepth 100000
def BytesOk (l : List Int) : Prop := l.length ≤ 140737488351232 ∧ ∀ x ∈ l, 0 ≤ x ∧ x < 256
theorem oBytes : Opens Try.prog 37 (Kd.slice 5 (Kd.int .u8)) (fun xs => xs.length * 1 ≤ 140737488351232 ∧ xs.length ≤ 9223372036854775807 ∧ ∀ x ∈ xs, (Lit.int .u8 x).wf = true) :=
  Opens.slice Try.underlying37 (Opens.int Try.underlying5) (by kernel_rfl) (by kernel_rfl)
theorem byte_of_wf {x : Int} (h : (Lit.int .u8 x).wf = true) : 0 ≤ x ∧ x < 256 := by
  have h' : IntKind.u8.min ≤ x ∧ x ≤ IntKind.u8.max := by simpa [Lit.wf] using h
  have h1 : IntKind.u8.min = 0 := by decide
  have h2 : IntKind.u8.max = 255 := by decide
  omega
/-- An argument that is a list of bytes. -/
theorem open_bytes {H : Type} {enc : TypeId × Value → H} {W : World} {base : Nat} {r : Reach} {b0 : Nat} {sp : Nat → Bool} {held : Bool} {v : Value} {d : DataW H} {p : List MemPlace}
    (hval : Value.okWide Try.prog W r b0 37 v) (h : DataW.Trod enc Try.prog W base sp held 37 v d p) (hw : ∀ n ∈ d.weights Try.prog 37, n ≤ reachBytes) :
    ∃ (A : Option Addr) (c : Nat) (l : List Int), v = .slice A l.length c ∧ Kd.C (Kd.int .u8) W A l.length l ∧ l.length ≤ c ∧ BytesOk l := by
  obtain ⟨a, len, cap, rfl⟩ := okWide_slice Try.underlying37 hval
  obtain ⟨fuel, hf⟩ := h
  obtain ⟨l, ⟨A, c, he, hl, hC⟩, ho⟩ := oBytes.out hf hw
  simp [Value.cells] at he
  obtain ⟨rfl, rfl, rfl⟩ := he
  exact ⟨_, _, l, rfl, hC, hl, by have := ho.1; omega, fun x hx => byte_of_wf (ho.2.2 x hx)⟩
end Go.Proofs.Ytebiogaacikphaa.Pack
end
section
namespace Go.Proofs.YtebiogaacikphaaW.PrintWords
open Go.RowKit
/-- Block g of w is a row of these cells, of type e, of which none is frozen. -/
def RowAt (w : World) (g : Nat) (e : TypeId) (cs : List Value) : Prop := ∃ cur : Array Value, w.heap[g]? = some (.cells cur e (0, 0)) ∧ cur.toList = cs
section
variable {w w' : World} {g : Nat} {e : TypeId} {cs : List Value}
theorem RowAt.lt (h : RowAt w g e cs) : g < w.heap.size := by obtain ⟨c, h, _⟩ := h; exact blk_lt h
theorem RowAt.kept (h : RowAt w g e cs) (hb : w'.heap[g]? = w.heap[g]?) : RowAt w' g e cs := by obtain ⟨c, h, h2⟩ := h; exact ⟨c, hb.trans h, h2⟩
theorem RowAt.below (h : RowAt w g e cs) (hb : Below w.heap.size w w') : RowAt w' g e cs := h.kept (hb.block g h.lt)
theorem RowAt.grown (h : RowAt w g e cs) {row : Option Nat} (hg : w.grownBy w' row) (hne : some g ≠ row) : RowAt w' g e cs := h.kept (hg.block g h.lt hne)
theorem RowAt.cell (h : RowAt w g e cs) (i : Nat) : w.cell? ⟨g, i, none⟩ = cs[i]? := by
  obtain ⟨c, h, h2⟩ := h
  rw [blk_cell h, ← h2]
  simp
end
section
variable {P : Program} {ops : Array Oper} {rest : List Oper} {o : Oper} {a : Act} {Q : Exit → Act → World → Prop}
theorem madeCells_list (z : Array Value) (n : Nat) : (madeCells z (n * z.size)).toList = (List.replicate n z.toList).flatten := by
  unfold madeCells
  simp only [Array.toList_map, Array.toList_range]
  induction n with
  | zero => simp
  | succ n ih =>
    rw [Nat.succ_mul, List.range_add, List.map_append, ih, List.replicate_succ']
    simp only [List.flatten_append, List.flatten_cons, List.flatten_nil, List.append_nil]
    congr 1
    apply List.ext_getElem
    · simp
    · intro i h1 h2
      simp only [List.map_map, List.getElem_map, List.getElem_range, Function.comp, Array.getElem_toList]
      simp at h2
      rw [Nat.mul_add_mod', Nat.mod_eq_of_lt h2]
      exact getElem!_pos z i h2
/-- 'make([]T, n)': the world gets a letter. -/
theorem make_event {W : World} (hgd : o.guard = none) (t : TypeId) (l c : Operand) (hop : o.op = Op.makeSlice t l c) (n : Nat) (hl : a.eval l = .int .i64 n) (hc : a.eval c = .int .i64 n) (e : TypeId) (z : Value) (size bytes : Nat)
    (ht : P.underlying t = some (.slice e)) (hinfo : (P.info? e).map (fun i => (i.zero, i.size, i.bytes)) = some (some z, size, bytes)) (hz : z.cells.size = size) (hb : bytes * n ≤ 281474976710656) (h63 : n ≤ 9223372036854775807)
    (h : ∀ g, g = W.heap.size → ∀ w1, RowAt w1 g e (List.replicate n z.cells.toList).flatten → Below W.heap.size W w1 → wpList P ops Q rest (a.put o.dst (.slice (some ⟨g, 0, none⟩) n n)) w1) : wpList P ops Q (o :: rest) a W := by
  obtain ⟨i, hi, hzz⟩ := Option.map_eq_some_iff.1 hinfo
  simp only [Prod.mk.injEq] at hzz
  obtain ⟨h1, h2, h3⟩ := hzz
  have hb' : (i.bytes : Int) * (n : Int) ≤ 281474976710656 := by
    rw [h3, ← Int.natCast_mul]
    omega
  have hr := run_make (P := P) W t e i z ht hi h1 .i64 .i64 n n (by omega) (Int.le_refl _) hb' (by omega)
  simp only [Int.toNat_natCast] at hr
  refine wpList_plain hgd fun K hK => ?_
  unfold Oper.wp execOp
  simp only [hop, hl, hc]
  simp only [Sem.run_bind, hr, Result.andThen_ok]
  refine hK _ _ (h _ rfl _ ⟨_, heap_alloc_new W _, ?_⟩ (below_alloc (Below.refl _ _) _))
  rw [h2, ← hz, madeCells_list]
/-- A store of some cells into a row: the world gets a letter. -/
theorem put_event {W : World} (hgd : o.guard = none) (hN : o.dst = none) (t : TypeId) (p x : Operand) (ho : o.op = .store t p x) {g off : Nat} {u : Value} {e : TypeId} {cs seg : List Value} (hp : a.eval p = .pointer (some ⟨g, off, none⟩)) (hx : a.eval x = u)
    (hb : RowAt W g e cs) (hu : u.cells.toList = seg) (hi : (P.info? t).map (·.size) = some seg.length) (hfit : off + seg.length ≤ cs.length) (hone : ∀ q ∈ seg, q.oneCell' = true)
    (h : ∀ w1, RowAt w1 g e (cs.take off ++ seg ++ cs.drop (off + seg.length)) → W.grownBy w1 (some g) → wpList P ops Q rest a w1) : wpList P ops Q (o :: rest) a W := by
  obtain ⟨cur, hh, rfl⟩ := hb
  refine wpList_plain hgd fun K hK => ?_
  have hrun := run_store_run (P := P) (w := W) (g := g) (o := off) (e := e) (cur := cur) t u seg hh hu hi (by simpa using hfit) hone
  obtain ⟨cur', h1, h2, h3⟩ := setCells_row seg off W cur hh (by simpa using hfit)
  obtain ⟨s1, s2, s3, s4⟩ := setCells_same g seg off W
  unfold Oper.wp execOp
  simp only [ho, hp, hx]
  simp only [Sem.run_bind, hrun, Result.andThen_ok]
  have := hK _ _ (h _ ⟨cur', h1, h3⟩ ⟨s1, s2, s3, by rw [s4]; exact Nat.le_refl _, fun i _ hne => setCells_far _ off i (fun e => hne (by rw [e]))⟩)
  simpa [Act.put, hN, Oper.upon] using this
/-- 'copy(dst, src)' into a row, of all that src has: the world gets a letter. -/
theorem copy_event {W : World} (hgd : o.guard = none) (d s : Operand) (t t2 : TypeId) (hop : o.op = .call { callee := .builtin .copy, args := #[d, s], argTypes := #[t, t2] }) (e : TypeId) (size : Nat) (ht : P.underlying t = some (.slice e)) (hinfo : (P.info? e).map (·.size) = some size)
    {g n c m c2 : Nat} {A : Option Addr} {cs news : List Value} (hd : a.eval d = .slice (some ⟨g, 0, none⟩) n c) (hs : a.eval s = .slice A m c2) (hmn : m ≤ n) (hrow : RowAt W g e cs) (hlen : news.length = m * size) (hfit : news.length ≤ cs.length)
    (hsrc : m = 0 ∨ ∃ ad, A = some ad ∧ ∀ j u, news[j]? = some u → W.cell? (ad.add j) = some u) (hone : ∀ q ∈ news, q.oneCell' = true)
    (h : ∀ w1, RowAt w1 g e (news ++ cs.drop news.length) → W.grownBy w1 (some g) → wpList P ops Q rest (a.put o.dst (.int .i64 m)) w1) : wpList P ops Q (o :: rest) a W := by
  obtain ⟨i, hi, hsz⟩ := Option.map_eq_some_iff.1 hinfo
  have hrun : ∃ w1, (Builtin.copy_ #[t, t2] o.type #[.slice (some ⟨g, 0, none⟩) n c, .slice A m c2]).run P W = .ok (.int .i64 m) w1 ∧ RowAt w1 g e (news ++ cs.drop news.length) ∧ W.grownBy w1 (some g) := by
    obtain ⟨cur, hh, rfl⟩ := hrow
    have hmin : Nat.min m n = m := Nat.min_eq_left hmn
    rcases hsrc with h0 | ⟨ad, rfl, hcell⟩
    · subst h0
      have hnil : news = [] := List.eq_nil_of_length_eq_zero (by simpa using hlen)
      subst hnil
      have hl : ∀ (x : Addr), (loadCells x 0).run P W = .ok #[] W := fun x => by simpa using run_loadCells_list (P := P) W x [] (by simp)
      refine ⟨W, ?_, ⟨cur, hh, by simp⟩, World.grownBy.refl W _⟩
      cases A <;> simp [Builtin.copy_, run_underlying ht, Builtin.lenOf, Builtin.firstCells, sizeOf, typeInfo, hi, hl, storeCells, goInt]
    · have hl := run_loadCells_list (P := P) W ad news hcell
      have hst := run_storeCells_cells (P := P) g 0 news 0 W (fun j hj => by rw [blk_cell hh]; simp at hfit ⊢; omega) (fun j _ => blk_frozen hh _) hone
      simp only [Nat.add_zero] at hst
      obtain ⟨cur', h1, h2, h3⟩ := setCells_row news 0 W cur hh (by simpa using hfit)
      obtain ⟨s1, s2, s3, s4⟩ := setCells_same g news 0 W
      rw [hlen] at hl
      refine ⟨_, ?_, ⟨cur', h1, by rw [h3]; simp⟩, ⟨s1, s2, s3, by rw [s4]; exact Nat.le_refl _, fun i _ hne => setCells_far _ 0 i (fun e => hne (by rw [e]))⟩⟩
      rw [← hsz] at hl
      simp [Builtin.copy_, run_underlying ht, Builtin.lenOf, Builtin.firstCells, sizeOf, typeInfo, hi, hmin, hl, hst, goInt]
  obtain ⟨w1, hr, h1, h2⟩ := hrun
  refine wpList_plain hgd fun K hK => ?_
  unfold Oper.wp execOp
  simp only [hop, resolve, invoke, builtin, Sem.run_bind, Sem.run_pure, Result.andThen_ok, List.map_toArray, List.map_cons, List.map_nil, hd, hs, hr]
  exact hK _ _ (h w1 h1 h2)
end
/-- '&xs[i]' of a row of the call's own, for regions that are walked quietly. -/
theorem run_indexAt_own {P : Program} {t e : TypeId} {size : Nat} (ht : P.underlying t = some (.slice e)) (hs : ∀ W : World, (sizeOf e).run P W = .ok size W) (g n c i : Nat) (hi : i < n) (W : World) :
    (Instr.indexAt t (.slice (some ⟨g, 0, none⟩) n c) (.int .i64 (i : Int))).run P W = .ok (.pointer (some ⟨g, i * size, none⟩)) W := by
  have h1 : (0 : Int) ≤ (i : Int) ∧ (i : Int) < (n : Int) := by omega
  simp only [Instr.indexAt, asIntOf, Sem.run_bind, Sem.run_pure, Result.andThen_ok, run_underlying ht, if_pos h1, hs, Int.toNat_natCast, add_plain]
/-- 'xs[:m]' of a row of the call's own. -/
theorem run_slice_own {P : Program} {t : TypeId} {size : Nat} (ht : P.underlying t = some (.slice (P.elem t))) (hs : ∀ W : World, (sizeOf (P.elem t)).run P W = .ok size W) (g n c m : Nat) (hm : m ≤ c) (W : World) :
    (Instr.slice t (.slice (some ⟨g, 0, none⟩) n c) none (some (.int .i64 (m : Int))) none).run P W = .ok (.slice (some ⟨g, 0, none⟩) m c) W := by
  have := run_slice_h (P := P) W t (some ⟨g, 0, none⟩) n c ht .i64 (m : Int) (by omega) (by omega)
  rw [this, hs]
  simp [Result.andThen, sliced, Addr.add]
/-- Kind d's elements are just these cells. -/
structure Flat {α : Type} (d : Kd α) (f : α → List Value) : Prop where
  iff : ∀ w x cs, d.K w x cs ↔ cs = f x
theorem Flat.len {α : Type} {d : Kd α} {f : α → List Value} (F : Flat d f) (x : α) : (f x).length = d.sz := d.K_len ((F.iff default x _).2 rfl)
theorem Flat.one {α : Type} {d : Kd α} {f : α → List Value} (F : Flat d f) (x : α) : ∀ u ∈ f x, u.oneCell' = true := d.K_one ((F.iff default x _).2 rfl)
theorem Flat.all {α : Type} {d : Kd α} {f : α → List Value} (F : Flat d f) (l : List α) : (l.flatMap f).length = l.length * d.sz := by
  induction l with
  | nil => simp
  | cons x l ih => rw [List.flatMap_cons, List.length_append, ih, F.len, List.length_cons, Nat.succ_mul, Nat.add_comm]
theorem Flat.ones {α : Type} {d : Kd α} {f : α → List Value} (F : Flat d f) (l : List α) : ∀ u ∈ l.flatMap f, u.oneCell' = true := by
  intro u hu
  obtain ⟨x, _, h⟩ := List.mem_flatMap.1 hu
  exact F.one x u h
theorem Flat.get {α : Type} {d : Kd α} {f : α → List Value} (F : Flat d f) : ∀ (l : List α) (j i : Nat) (x : α), l[j]? = some x → i < d.sz → (l.flatMap f)[j * d.sz + i]? = (f x)[i]?
  | [], j, i, x, h, _ => by simp at h
  | y :: l, 0, i, x, h, hi => by
    have : y = x := by simpa using h
    subst this
    rw [List.flatMap_cons, Nat.zero_mul, Nat.zero_add, List.getElem?_append_left (by rw [F.len]; exact hi)]
  | y :: l, j + 1, i, x, h, hi => by
    rw [List.flatMap_cons, Nat.succ_mul, List.getElem?_append_right (by rw [F.len]; omega), F.len, show j * d.sz + d.sz + i - d.sz = j * d.sz + i by omega]
    exact Flat.get F l j i x (by simpa using h) hi
/-- A slice that is read, as its cells. -/
theorem Flat.cells {α : Type} {d : Kd α} {f : α → List Value} (F : Flat d f) (hs : 0 < d.sz) {w : World} {A : Option Addr} {n : Nat} {xs : List α} (h : Kd.C d w A n xs) : n = 0 ∨ ∃ ad, A = some ad ∧ ∀ j u, (xs.flatMap f)[j]? = some u → w.cell? (ad.add j) = some u := by
  rcases Nat.eq_zero_or_pos n with h0 | h0
  · exact .inl h0
  · obtain ⟨hl, _, hc⟩ := h
    obtain ⟨ad, hA, hc⟩ := hc h0
    refine .inr ⟨ad, hA, fun j u hu => ?_⟩
    have hj : j < xs.length * d.sz := by rw [← F.all]; exact (List.getElem?_eq_some_iff.1 hu).1
    have hq : j / d.sz < xs.length := (Nat.div_lt_iff_lt_mul hs).2 hj
    have hm := Nat.mod_lt j hs
    have hjj : j / d.sz * d.sz + j % d.sz = j := by rw [Nat.mul_comm]; exact Nat.div_add_mod j d.sz
    obtain ⟨c, hcl, hK, hcc⟩ := hc (j / d.sz) _ (List.getElem?_eq_getElem hq)
    have hcf := (F.iff w _ c).1 hK
    subst hcf
    have hg := F.get xs (j / d.sz) (j % d.sz) _ (List.getElem?_eq_getElem hq) hm
    rw [hjj] at hg
    have := hcc (j % d.sz) u (by rw [← hg]; exact hu)
    rwa [hjj] at this
end Go.Proofs.YtebiogaacikphaaW.PrintWords
end
section
namespace Go.Proofs.YtebiogaacikphaaW.PrintWords
open Go.RowKit
theorem Ev.pos {α : Type} {c : Prop} [Decidable c] {g f : Nat → Option α} {r : α} (h : c) (k : Ev g r) : Ev (fun n => if c then g n else f n) r := Ev.congr (fun _ => if_pos h) k
theorem Ev.neg {α : Type} {c : Prop} [Decidable c] {g f : Nat → Option α} {r : α} (h : ¬ c) (k : Ev f r) : Ev (fun n => if c then g n else f n) r := Ev.congr (fun _ => if_neg h) k
theorem Ev.ite {α : Type} {c : Prop} [Decidable c] {g f : Nat → Option α} {r : α} (h : c → Ev g r) (k : ¬ c → Ev f r) : Ev (fun n => if c then g n else f n) r := by
  by_cases hc : c
  · exact Ev.pos hc (h hc)
  · exact Ev.neg hc (k hc)
theorem Ev.some_ {α : Type} {r r' : α} (h : r = r') : Ev (fun _ => some r) r' := h ▸ Ev.now r
theorem Ev.const {α : Type} {o : Option α} {r : α} (h : o = some r) : Ev (fun _ => o) r := h ▸ Ev.now r
theorem Ev.to {α : Type} {g : Nat → Option α} {r r' : α} (h : Ev g r) (e : r = r') : Ev g r' := e ▸ h
theorem w64 {x : Int} (h0 : -9223372036854775808 ≤ x) (h1 : x ≤ 9223372036854775807) : wrap64 x = x := by
  unfold wrap64
  omega
theorem bt_nat (s : ByteArray) (i : Nat) (h : i < s.data.toList.length) : bt s (i : Int) = ((s.data.toList[i]).toNat : Int) := by
  have h' : i < s.size := by rw [data_length] at h; exact h
  simp [bt, h']
  rfl
theorem size_list (s : ByteArray) : s.size = s.data.toList.length := (data_length s).symm
end Go.Proofs.YtebiogaacikphaaW.PrintWords
end
section
namespace Go.Proofs.Ytebiogaacikphaa.Pack
open Go.RowKit Go.Proofs.YtebiogaacikphaaW.PrintWords Go.Proofs.Ytebiogaacikphaa.PAll
set_option linter.unusedVariables false
set_option linter.unusedSimpArgs false
def rcells (A : Option Addr) (c : Nat) (b : List Int) (i : Int) (e : Nat) (fa fc : Int) : Array Value := #[.slice A b.length c, .int .i64 i, .int .i64 e, .int .i64 fa, .int .i64 fc]
/-- A reader at block g of W: what it reads came in by w0. -/
structure RS (w0 W : World) (g : Nat) (A : Option Addr) (c : Nat) (b : List Int) (i : Nat) (e : Nat) (fa fc : Int) : Prop where
  box : W.heap[g]? = some (.cells (rcells A c b i e fa fc) 99 (0, 0))
  ge : w0.heap.size ≤ g
  rd : Kd.C (Kd.int .u8) w0 A b.length b
  cap : b.length ≤ c
  len : b.length ≤ 140737488351232
  e_ : e ≤ b.length
  at_ : i ≤ e
  old : Below w0.heap.size w0 W
section
variable {w0 W W' : World} {g : Nat} {A : Option Addr} {c : Nat} {b : List Int} {i e : Nat} {fa fc : Int}
theorem RS.below (h : RS w0 W g A c b i e fa fc) (hb : Below W.heap.size W W') : RS w0 W' g A c b i e fa fc := ⟨blk_below h.box hb, h.ge, h.rd, h.cap, h.len, h.e_, h.at_, below_step h.old hb⟩
theorem RS.drew (h : RS w0 W g A c b i e fa fc) (n : Nat) : RS w0 (W.drewN n) g A c b i e fa fc := h.below (pw_below_drewN (Below.refl _ _) n)
theorem RS.c0 (h : RS w0 W g A c b i e fa fc) : W.cell? ⟨g, 0, none⟩ = some (.slice A b.length c) := (blk_cell h.box 0).trans rfl
theorem RS.c1 (h : RS w0 W g A c b i e fa fc) : W.cell? ⟨g, 1, none⟩ = some (.int .i64 i) := (blk_cell h.box 1).trans rfl
theorem RS.c2 (h : RS w0 W g A c b i e fa fc) : W.cell? ⟨g, 2, none⟩ = some (.int .i64 e) := (blk_cell h.box 2).trans rfl
theorem RS.c3 (h : RS w0 W g A c b i e fa fc) : W.cell? ⟨g, 3, none⟩ = some (.int .i64 fa) := (blk_cell h.box 3).trans rfl
theorem RS.c4 (h : RS w0 W g A c b i e fa fc) : W.cell? ⟨g, 4, none⟩ = some (.int .i64 fc) := (blk_cell h.box 4).trans rfl
theorem RS.lt (h : RS w0 W g A c b i e fa fc) : g < W.heap.size := blk_lt h.box
theorem RS.grown (h : RS w0 W g A c b i e fa fc) {row : Nat} (hg : W.grownBy W' (some row)) (h1 : g ≠ row) (h2 : w0.heap.size ≤ row) : RS w0 W' g A c b i e fa fc :=
  ⟨(hg.block _ (blk_lt h.box) (by simpa using h1)).trans h.box, h.ge, h.rd, h.cap, h.len, h.e_, h.at_, pw_below_grown h.old (some row) h.old.size hg (fun k hk => by cases hk; omega)⟩
theorem RS.row (h : RS w0 W g A c b i e fa fc) : RowAt W g 99 [.slice A b.length c, .int .i64 i, .int .i64 e, .int .i64 fa, .int .i64 fc] := ⟨_, h.box, rfl⟩
theorem RS.set (h : RS w0 W g A c b i e fa fc) {i' : Nat} {fa' fc' : Int} (hrow : RowAt W' g 99 [.slice A b.length c, .int .i64 i', .int .i64 e, .int .i64 fa', .int .i64 fc']) (hg : W.grownBy W' (some g)) (hi : i' ≤ e) : RS w0 W' g A c b i' e fa' fc' := by
  obtain ⟨cur, h1, h2⟩ := hrow
  have hc : cur = rcells A c b i' e fa' fc' := by
    rw [← Array.toArray_toList (xs := cur), h2]
    rfl
  rw [hc] at h1
  exact ⟨h1, h.ge, h.rd, h.cap, h.len, h.e_, hi, pw_below_grown h.old (some g) h.old.size hg (fun k hk => by cases hk; exact h.ge)⟩
end
/-- What a walk of the reader changes: its own block, and what is new. -/
def Only (w w' : World) (g : Nat) : Prop := w.heap.size ≤ w'.heap.size ∧ ∀ j, j < w.heap.size → j ≠ g → w'.heap[j]? = w.heap[j]?
theorem Only.refl (w : World) (g : Nat) : Only w w g := ⟨Nat.le_refl _, fun _ _ _ => rfl⟩
theorem Only.of_below {w w' : World} (h : Below w.heap.size w w') (g : Nat) : Only w w' g := ⟨h.size, fun j hj _ => h.block j hj⟩
theorem Only.of_grown {w w' : World} {g : Nat} (h : w.grownBy w' (some g)) : Only w w' g := ⟨h.size, fun j hj hne => h.block j hj (by simpa using hne)⟩
theorem Only.trans {w w1 w2 : World} {g : Nat} (h : Only w w1 g) (k : Only w1 w2 g) : Only w w2 g := ⟨Nat.le_trans h.1 k.1, fun j hj hne => (k.2 j (Nat.lt_of_lt_of_le hj h.1) hne).trans (h.2 j hj hne)⟩
section
variable (w0 w : World) (g : Nat) (A : Option Addr) (c : Nat) (b : List Int) (i e : Nat) (fa fc : Int)
theorem bad_same (v : Bool) (h : RS w0 w g A c b i e fa fc) (hv : (fc != 0) = v) : Calls Try.prog 54 #[.pointer (some ⟨g, 0, none⟩)] w fun x w' => x = .returned (.bool v) ∧ w' = w := by
  have h3 := h.c3
  have h4 := h.c4
  clear h
  subst hv
  go_enter Try.func54, Try.ntmps54
  go_wp2
  go_ret
  exact ⟨rfl, rfl⟩
theorem fail_bad (q r : Int) (h : RS w0 w g A c b i e fa fc) (hc : fc ≠ 0) : Calls Try.prog 55 #[.pointer (some ⟨g, 0, none⟩), .int .i64 q, .int .i64 r] w fun x w' => x = .returned (.tuple #[]) ∧ RS w0 w' g A c b i e fa fc ∧ Only w w' g := by
  have H := Aside0.mk h
  have hb : (fc != 0) = true := by simpa using hc
  have HO := Aside0.mk (Only.refl w g)
  clear h hc
  go_enter Try.func55, Try.ntmps55
  go_wp2_with (first
    | (go_at_call 54; refine (bad_same w0 _ g A c b i e fa fc true H.out hb).mono ?_; rintro x w1 ⟨rfl, rfl⟩))
  first | go_end0 | ((try simp only [Exit.inBlock, Exit.then]); refine bodyPost_ret (results_none rfl _ _ _) rfl ?_)
  exact ⟨rfl, H.out, HO.out⟩
theorem fail_ok (q r : Int) (h : RS w0 w g A c b i e 0 0) : Calls Try.prog 55 #[.pointer (some ⟨g, 0, none⟩), .int .i64 q, .int .i64 r] w fun x w' => x = .returned (.tuple #[]) ∧ RS w0 w' g A c b i e q r ∧ Only w w' g := by
  have H := Aside0.mk h
  have HO := Aside0.mk (Only.refl w g)
  clear h
  go_enter Try.func55, Try.ntmps55
  go_wp2_with (first
    | (go_at_call 54; refine (bad_same w0 _ g A c b i e 0 0 false H.out rfl).mono ?_; rintro x w1 ⟨rfl, rfl⟩)
    | ((with_reducible refine gate_store (t := 42) (p := 14) rfl ?_); refine put_event rfl rfl 42 (.tmp 14) (.tmp 12) rfl (off := 3) (u := .agg #[.int .i64 q, .int .i64 r]) (seg := [.int .i64 q, .int .i64 r]) rfl rfl H.out.row rfl (by kernel_rfl) (by simp) (by simp [Value.oneCell']) ?_; intro w2 hrow hgr; have n1_ := Aside0.mk (H.out.set (i' := i) (fa' := q) (fc' := r) hrow hgr H.out.at_); have n2_ := Aside0.mk (HO.out.trans (Only.of_grown hgr)); clear H HO hrow hgr; have H := n1_; have HO := n2_; clear n1_ n2_))
  first | go_end0 | ((try simp only [Exit.inBlock, Exit.then]); refine bodyPost_ret (results_none rfl _ _ _) rfl ?_)
  exact ⟨rfl, H.out, HO.out⟩
/-- What take gives: a cut of what is read. -/
def cutAt (A : Option Addr) (n i : Nat) : Option Addr := if n = 0 then A else A.map (·.add (i * 1))
theorem take_bad (n : Int) (h : RS w0 w g A c b i e fa fc) (hc : fc ≠ 0) : Calls Try.prog 88 #[.pointer (some ⟨g, 0, none⟩), .int .i64 n] w fun x w' => x = .returned (.slice none 0 0) ∧ RS w0 w' g A c b i e fa fc ∧ Only w w' g := by
  have H := Aside0.mk h
  have hb : (fc != 0) = true := by simpa using hc
  have HC := Aside0.mk hc
  have HO := Aside0.mk (Only.refl w g)
  have h1 := h.c1
  have h2 := h.c2
  clear h hc
  go_enter Try.func88, Try.ntmps88
  go_wp2
  go_quiet ((go_at_call 54; exact Calls.quiet_of_same (bad_same w0 _ g A c b i e fa fc true (H.out.drew _) hb)))
  have n1_ := Aside0.mk (H.out.drew nq)
  have n2_ := Aside0.mk (Only.of_below (pw_below_drewN (Below.refl w.heap.size w) nq) g)
  clear H HO
  have H := n1_
  have HO := n2_
  clear n1_ n2_
  go_wp2_with (first
    | (go_at_call 55; refine (fail_bad w0 _ g A c b i e fa fc _ _ H.out HC.out).mono ?_; rintro x w1 ⟨rfl, hq1, hq2⟩; have n1_ := Aside0.mk hq1; have n2_ := Aside0.mk (HO.out.trans hq2); clear H HO hq1 hq2; have H := n1_; have HO := n2_; clear n1_ n2_))
  go_ret
  exact ⟨rfl, H.out, HO.out⟩
theorem take_short (n : Nat) (hn : n ≤ 140737488351232) (h : RS w0 w g A c b i e 0 0) (hs : e < i + n) : Calls Try.prog 88 #[.pointer (some ⟨g, 0, none⟩), .int .i64 n] w fun x w' => x = .returned (.slice none 0 0) ∧ RS w0 w' g A c b i e e 200 ∧ Only w w' g := by
  have H := Aside0.mk h
  have HO := Aside0.mk (Only.refl w g)
  have h1 := h.c1
  have h2 := h.c2
  have hw : IntKind.i64.wrap ((e : Int) - i) = (e : Int) - i := IntWalk.i64_in _ (by have := h.len; have := h.e_; have := h.at_; omega)
  have hd : decide ((n : Int) > (e : Int) - i) = true := decide_eq_true (by omega)
  clear h
  go_enter Try.func88, Try.ntmps88
  go_wp2
  go_quiet ((go_at_call 54; exact Calls.quiet_of_same (bad_same w0 _ g A c b i e 0 0 false (H.out.drew _) rfl)))
  have n1_ := Aside0.mk (H.out.drew nq)
  have n2_ := Aside0.mk (Only.of_below (pw_below_drewN (Below.refl w.heap.size w) nq) g)
  clear H HO
  have H := n1_
  have HO := n2_
  clear n1_ n2_
  try simp only [hw, hd]
  go_wp2_with (first
    | (go_at_call 55; refine (fail_ok w0 _ g A c b i e _ _ H.out).mono ?_; rintro x w1 ⟨rfl, hq1, hq2⟩; have n1_ := Aside0.mk hq1; have n2_ := Aside0.mk (HO.out.trans hq2); clear H HO hq1 hq2; have H := n1_; have HO := n2_; clear n1_ n2_))
  go_ret
  exact ⟨rfl, H.out, HO.out⟩
theorem take_ok (n : Nat) (h : RS w0 w g A c b i e 0 0) (hs : i + n ≤ e) : Calls Try.prog 88 #[.pointer (some ⟨g, 0, none⟩), .int .i64 n] w fun x w' => x = .returned (.slice (cutAt A n i) n n) ∧ RS w0 w' g A c b (i + n : Nat) e 0 0 ∧ Only w w' g := by
  have H := Aside0.mk h
  have HO := Aside0.mk (Only.refl w g)
  have h0 := h.c0
  have h1 := h.c1
  have h2 := h.c2
  have hw : IntKind.i64.wrap ((e : Int) - i) = (e : Int) - i := IntWalk.i64_in _ (by have := h.len; have := h.e_; have := h.at_; omega)
  have hw2 : IntKind.i64.wrap ((i : Int) + n) = (i : Int) + n := IntWalk.i64_in _ (by have := h.len; have := h.e_; omega)
  have hd : decide ((n : Int) > (e : Int) - i) = false := decide_eq_false (by omega)
  have hsl : ∀ W : World, (Instr.slice 37 (.slice A b.length c) (some (.int .i64 (i : Int))) (some (.int .i64 ((i : Int) + n))) (some (.int .i64 ((i : Int) + n)))).run Try.prog W = .ok (.slice (cutAt A n i) n n) W := by
    intro W
    have hl := h.len
    have he := h.e_
    have hc := h.cap
    rw [run_slice_lhm (P := Try.prog) W 37 A b.length c (by kernel_rfl) .i64 .i64 .i64 (i : Int) ((i : Int) + n) ((i : Int) + n) (by omega) (by omega) (by omega) (by omega)]
    rw [show (sizeOf (Try.prog.elem 37)).run Try.prog W = .ok 1 W by kernel_rfl]
    have e1 : ((i : Int) + n).toNat = i + n := by omega
    rw [Result.andThen_ok, e1, Int.toNat_natCast, sliced, cutAt, Nat.add_sub_cancel_left]
    by_cases h0 : n = 0
    · rw [if_pos (by omega), if_pos h0]
    · rw [if_neg (by omega), if_neg h0]
  clear h
  go_enter Try.func88, Try.ntmps88
  go_wp2
  go_quiet ((go_at_call 54; exact Calls.quiet_of_same (bad_same w0 _ g A c b i e 0 0 false (H.out.drew _) rfl)))
  have n1_ := Aside0.mk (H.out.drew nq)
  have n2_ := Aside0.mk (Only.of_below (pw_below_drewN (Below.refl w.heap.size w) nq) g)
  clear H HO
  have H := n1_
  have HO := n2_
  clear n1_ n2_
  clear h0 h1 h2
  generalize w.drewN nq = w1 at *
  clear nq
  have h0 := H.out.c0
  have h1 := H.out.c1
  go_wp2
  go_quiet (fail)
  have n1_ := Aside0.mk (H.out.drew nq)
  have n2_ := Aside0.mk (HO.out.trans (Only.of_below (pw_below_drewN (Below.refl w1.heap.size w1) nq) g))
  clear H HO h0 h1
  have H := n1_
  have HO := n2_
  clear n1_ n2_
  generalize w1.drewN nq = w2 at *
  clear nq
  have h1 := H.out.c1
  go_wp2_with (first
    | ((with_reducible refine gate_store (t := 3) (p := 55) rfl ?_); refine put_event rfl rfl 3 (.tmp 55) (.tmp 53) rfl (off := 1) (u := .int .i64 (i + n : Nat)) (seg := [.int .i64 (i + n : Nat)]) rfl rfl H.out.row rfl (by kernel_rfl) (by simp) (by simp [Value.oneCell']) ?_; intro w2 hrow hgr; have n1_ := Aside0.mk (H.out.set (i' := i + n) (fa' := 0) (fc' := 0) hrow hgr hs); have n2_ := Aside0.mk (HO.out.trans (Only.of_grown hgr)); clear H HO hrow hgr; have H := n1_; have HO := n2_; clear n1_ n2_))
  go_ret
  exact ⟨rfl, H.out, HO.out⟩
/-- What take gives, read. -/
theorem cut_reads {w0 : World} {A : Option Addr} {b : List Int} {i n : Nat} (h : Kd.C (Kd.int .u8) w0 A b.length b) (hs : i + n ≤ b.length) : Kd.C (Kd.int .u8) w0 (cutAt A n i) n ((b.drop i).take n) := by
  refine ⟨by rw [List.length_take, List.length_drop]; omega, by have := h.2.1; omega, fun hn => ?_⟩
  obtain ⟨ad, rfl, hc⟩ := h.2.2 (by omega)
  refine ⟨ad.add (i * 1), by rw [cutAt, if_neg (by omega)]; rfl, fun j p hj => ?_⟩
  have hj' : b[i + j]? = some p := by
    rw [List.getElem?_take] at hj
    split at hj
    · rwa [List.getElem?_drop] at hj
    · cases hj
  obtain ⟨cs, h1, h2, h3⟩ := hc (i + j) p hj'
  refine ⟨cs, h1, h2, fun q u hq => ?_⟩
  have := h3 q u hq
  rw [add_add, show i * 1 + (j * (Kd.int IntKind.u8).sz + q) = (i + j) * (Kd.int IntKind.u8).sz + q from ?_]
  · exact this
  · show i * 1 + (j * 1 + q) = (i + j) * 1 + q
    omega
end
end Go.Proofs.Ytebiogaacikphaa.Pack
end
section
namespace Go.Proofs.Ytebiogaacikphaa.Bits
open Go.RowKit Go.Proofs.YtebiogaacikphaaW.PrintWords
theorem wrap_u (k : IntKind) (hs : k.signed = false) (n : Nat) (h : n < 2 ^ k.bits) : k.wrap (n : Int) = (n : Int) := by
  have h' : ((n : Int) % 2 ^ k.bits) = n := Int.emod_eq_of_lt (by omega) (by exact_mod_cast h)
  unfold IntKind.wrap
  simp [hs, h']
theorem wrap_u64 (x : Int) (h0 : 0 ≤ x) (h : x < 18446744073709551616) : IntKind.u64.wrap x = x := by
  obtain ⟨n, rfl⟩ := Int.eq_ofNat_of_zero_le h0
  exact wrap_u .u64 rfl n (by show n < 2 ^ 64; omega)
theorem ofInt_nat (w n : Nat) : BitVec.ofInt w (n : Int) = BitVec.ofNat w n := BitVec.ofInt_natCast ..
theorem bits_or (k : IntKind) (hs : k.signed = false) (x y : Nat) (hx : x < 2 ^ k.bits) (hy : y < 2 ^ k.bits) : Go.bits .or k (x : Int) (y : Int) = ((x ||| y : Nat) : Int) := by
  unfold Go.bits
  simp only [ofInt_nat, BitVec.toNat_or, BitVec.toNat_ofNat, Nat.mod_eq_of_lt hx, Nat.mod_eq_of_lt hy]
  exact wrap_u k hs _ (Nat.or_lt_two_pow hx hy)
theorem bits_and (k : IntKind) (hs : k.signed = false) (x y : Nat) (hx : x < 2 ^ k.bits) (hy : y < 2 ^ k.bits) : Go.bits .and k (x : Int) (y : Int) = ((x &&& y : Nat) : Int) := by
  unfold Go.bits
  simp only [ofInt_nat, BitVec.toNat_and, BitVec.toNat_ofNat, Nat.mod_eq_of_lt hx, Nat.mod_eq_of_lt hy]
  exact wrap_u k hs _ (Nat.and_lt_two_pow _ hy)
theorem bits_xor (k : IntKind) (hs : k.signed = false) (x y : Nat) (hx : x < 2 ^ k.bits) (hy : y < 2 ^ k.bits) : Go.bits .xor k (x : Int) (y : Int) = ((x ^^^ y : Nat) : Int) := by
  unfold Go.bits
  simp only [ofInt_nat, BitVec.toNat_xor, BitVec.toNat_ofNat, Nat.mod_eq_of_lt hx, Nat.mod_eq_of_lt hy]
  exact wrap_u k hs _ (Nat.xor_lt_two_pow hx hy)
theorem or_add (n m i : Nat) (h : n < 2 ^ i) : n ||| m * 2 ^ i = n + m * 2 ^ i := by
  have := Nat.two_pow_add_eq_or_of_lt h m
  rw [Nat.mul_comm m, Nat.or_comm, ← this, Nat.add_comm]
theorem and_127 (x : Nat) : x &&& 127 = x % 128 := Nat.and_two_pow_sub_one_eq_mod x 7
end Go.Proofs.Ytebiogaacikphaa.Bits
end
section
namespace Go.Proofs.Ytebiogaacikphaa.Pack
open Go.RowKit Go.Proofs.YtebiogaacikphaaW.PrintWords Go.Proofs.Ytebiogaacikphaa.PAll
set_option linter.unusedVariables false
set_option linter.unusedSimpArgs false
/-- A count at the front of what is left: number and rest, or fault; k bytes of it were read, n told. -/
def cntL (e fr : Nat) : Nat → Int → List Int → Except (Int × Int) (Int × List Int)
  | _, _, [] => .error (e, 200)
  | k, n, x :: r =>
    if 128 ≤ x then cntL e fr (k + 1) (if k < 5 then n + x % 128 * 128 ^ k else n) r
    else if 4 < k ∨ (x = 0 ∧ 0 < k) ∨ 2147483647 < (if k < 5 then n + x % 128 * 128 ^ k else n) then .error (fr, 204)
    else .ok (if k < 5 then n + x % 128 * 128 ^ k else n, r)
theorem cntL_nonneg (e fr : Nat) : ∀ (l : List Int) (k : Nat) (n v : Int) (r : List Int), (∀ x ∈ l, 0 ≤ x ∧ x < 256) → 0 ≤ n → cntL e fr k n l = .ok (v, r) → 0 ≤ v
  | [], _, _, _, _, _, _, h => by cases h
  | x :: l, k, n, v, r, hb, hn, h => by
    have hx := hb x List.mem_cons_self
    have hp : (0 : Int) ≤ x % 128 * 128 ^ k := Int.mul_nonneg (by omega) (Int.pow_nonneg (by decide))
    have hn' : 0 ≤ (if k < 5 then n + x % 128 * 128 ^ k else n) := by split <;> omega
    rw [cntL] at h
    generalize (if k < 5 then n + x % 128 * 128 ^ k else n) = N at h hn'
    split at h
    · exact cntL_nonneg e fr l (k + 1) _ v r (fun y hy => hb y (List.mem_cons_of_mem _ hy)) hn' h
    · split at h
      · cases h
      · injection h with h
        injection h with h _
        rw [← h]
        exact hn'
/-- What is left to read, or the fault. -/
def St (w0 W : World) (g : Nat) (A : Option Addr) (c : Nat) (b : List Int) (e : Nat) : Except (Int × Int) (List Int) → Prop
  | .ok r => ∃ i, RS w0 W g A c b i e 0 0 ∧ r = (b.take e).drop i
  | .error f => ∃ i, f.2 ≠ 0 ∧ RS w0 W g A c b i e f.1 f.2
theorem cnt_bits (k : Nat) (n x : Int) (hk : k < 5) (hn : 0 ≤ n ∧ n < 128 ^ min k 5) (hx : 0 ≤ x ∧ x < 256) :
    Go.bits .or .u64 n (IntKind.u64.wrap (IntKind.u64.wrap (Go.bits .and .u8 x 127) * 2 ^ (7 * k))) = n + x % 128 * 128 ^ k ∧ n + x % 128 * 128 ^ k < 128 ^ (k + 1) := by
  obtain ⟨m, rfl⟩ := Int.eq_ofNat_of_zero_le hn.1
  obtain ⟨y, rfl⟩ := Int.eq_ofNat_of_zero_le hx.1
  have hy : y < 256 := by omega
  rw [Nat.min_eq_left (by omega)] at hn
  have hm : m < 128 ^ k := by exact_mod_cast hn.2
  have hp : 128 ^ k ≤ 128 ^ 4 := Nat.pow_le_pow_right (by decide) (by omega)
  have h27 : (2 : Nat) ^ (7 * k) = 128 ^ k := by rw [Nat.pow_mul]
  have ha : Go.bits .and .u8 (y : Int) 127 = ((y % 128 : Nat) : Int) := by
    have := Bits.bits_and .u8 rfl y 127 hy (by decide)
    rw [Bits.and_127] at this
    exact this
  have hw : IntKind.u64.wrap ((y % 128 : Nat) : Int) = ((y % 128 : Nat) : Int) := Bits.wrap_u .u64 rfl _ (by show _ < 2 ^ 64; omega)
  have hprod : (y % 128) * 128 ^ k < 128 * 128 ^ 4 := Nat.lt_of_lt_of_le (Nat.mul_lt_mul_of_pos_right (show y % 128 < 128 by omega) (Nat.pow_pos (by decide))) (Nat.mul_le_mul_left _ hp)
  have hs : IntKind.u64.wrap (((y % 128 : Nat) : Int) * 2 ^ (7 * k)) = (((y % 128) * 128 ^ k : Nat) : Int) := by
    have e : (((y % 128 : Nat) : Int) * 2 ^ (7 * k)) = (((y % 128) * 128 ^ k : Nat) : Int) := by rw [← h27]; push_cast; rfl
    rw [e]
    exact Bits.wrap_u .u64 rfl _ (by show _ < 2 ^ 64; omega)
  have ho : m ||| (y % 128) * 128 ^ k = m + (y % 128) * 128 ^ k := by
    rw [← h27]
    exact Bits.or_add m (y % 128) (7 * k) (by rw [h27]; exact hm)
  rw [ha, hw, hs]
  have hb := Bits.bits_or .u64 rfl m ((y % 128) * 128 ^ k) (by show _ < 2 ^ 64; omega) (by show _ < 2 ^ 64; omega)
  rw [hb, ho]
  refine ⟨by push_cast; rfl, ?_⟩
  have h1 : (y % 128) * 128 ^ k ≤ 127 * 128 ^ k := Nat.mul_le_mul_right _ (by omega)
  have h2 : m + (y % 128) * 128 ^ k < 128 ^ (k + 1) := by rw [Nat.pow_succ]; omega
  exact_mod_cast h2
theorem left_cons {b : List Int} {e i : Nat} (h : i < e) (he : e ≤ b.length) : (b.take e).drop i = b[i] :: (b.take e).drop (i + 1) := by
  rw [List.drop_eq_getElem_cons (by rw [List.length_take]; omega), List.getElem_take]
theorem left_nil {b : List Int} {e i : Nat} (h : e ≤ i) : (b.take e).drop i = [] := List.drop_of_length_le (by rw [List.length_take]; omega)
section
variable (w0 w : World) (g : Nat) (A : Option Addr) (c : Nat) (b : List Int) (i e : Nat)
theorem add_zero_ (ad : Addr) : ad.add 0 = ad := by
  cases ad
  simp [Addr.add]
theorem take_one (h : RS w0 w g A c b i e 0 0) (hi : i < e) (hb : i < b.length) : ∃ ad, w0.cell? ad = some (.int .u8 b[i]) ∧ Calls Try.prog 88 #[.pointer (some ⟨g, 0, none⟩), .int .i64 1] w fun x w' => x = .returned (.slice (some ad) 1 1) ∧ RS w0 w' g A c b (i + 1) e 0 0 ∧ Only w w' g := by
  have hr := cut_reads (i := i) (n := 1) h.rd (by omega)
  obtain ⟨ad, h1, h2⟩ := Kd.at_int (n := 1) hr 0 (by omega) (by omega)
  refine ⟨ad, ?_, ?_⟩
  · rw [rd] at h2
    rw [show ((0 : Int)).toNat = 0 from rfl, add_zero_] at h2
    simpa [List.getElem?_eq_getElem hb] using h2
  · have := take_ok w0 w g A c b i e 1 h hi
    rw [h1] at this
    exact this
set_option maxHeartbeats 1000000 in
set_option maxRecDepth 100000 in
theorem count_ok (h : RS w0 w g A c b i e 0 0) (hby : ∀ x ∈ b, 0 ≤ x ∧ x < 256) : Calls Try.prog 89 #[.pointer (some ⟨g, 0, none⟩)] w fun x w' => ∃ v, x = .returned (.int .i64 v) ∧ St w0 w' g A c b e ((cntL e i 0 0 ((b.take e).drop i)).map (·.2)) ∧ Only w w' g ∧ (∀ n r, cntL e i 0 0 ((b.take e).drop i) = .ok (n, r) → v = n) ∧ (∀ f, cntL e i 0 0 ((b.take e).drop i) = .error f → v = 0) := by
  have H := Aside0.mk h
  have HO := Aside0.mk (Only.refl w g)
  have HY := Aside0.mk hby
  have h1 := h.c1
  clear h hby
  generalize hres : cntL e i 0 0 ((b.take e).drop i) = res
  have HRES := Aside0.mk hres
  clear hres
  go_enter Try.func89, Try.ntmps89
  go_wp2
  go_loopw [4, 5] (fun vn vk wr => ∃ (k : Nat) (n : Int) (j : Nat), vn = .int .u64 n ∧ vk = .int .i64 k ∧ Aside0 (RS w0 wr g A c b j e 0 0) ∧ Aside0 (Only w wr g) ∧ Aside0 (cntL e i k n ((b.take e).drop j) = res) ∧ Aside0 (0 ≤ n ∧ n < 128 ^ (min k 5)) ∧ Aside0 (k ≤ j)) (fun vn vk wr => match wr.cell? ⟨g, 1, none⟩ with | some (.int .i64 q) => e - q.toNat | _ => 0)
  case atStart => exact ⟨0, 0, i, rfl, rfl, H, HO, HRES, ⟨by simp⟩, ⟨Nat.zero_le _⟩⟩
  case round =>
    clear HRES H HO h1
    obtain ⟨k, n, j, rfl, rfl, H, HO, HRES, HN, HK⟩ := hrel
    have HM := Aside0.mk H.out.c1
    rcases Nat.lt_or_ge j e with c1 | c1
    · have hb := H.out.e_
      have kb : (k : Int) ≤ 140737488351232 := by have := HK.out; have := H.out.len; omega
      have c2 : j < b.length := by omega
      obtain ⟨ad, hx, htake⟩ := take_one w0 wr g A c b j e H.out c1 c2
      have HT := Aside0.mk htake
      have HX := Aside0.mk hx
      have hby := HY.out b[j] (List.getElem_mem _)
      have hres := HRES.out
      rw [left_cons c1 hb, cntL] at hres
      clear htake hx HRES
      generalize b[j] = x at *
      by_cases k5 : k < 5
      · obtain ⟨hbit, hlt⟩ := cnt_bits k n x k5 HN.out hby
        rw [if_pos k5] at hres
        have HBIT := Aside0.mk hbit
        have HLT := Aside0.mk hlt
        have b1 : decide ((k : Int) < 5) = true := decide_eq_true (by omega)
        have b4 : decide ((k : Int) > 4) = false := decide_eq_false (by omega)
        have hp := (HN.out).1
        have hxm : 0 ≤ x % 128 * 128 ^ k := Int.mul_nonneg (by omega) (Int.pow_nonneg (by decide))
        have HP := Aside0.mk (show 0 ≤ n + x % 128 * 128 ^ k by omega)
        generalize n + x % 128 * 128 ^ k = nn at *
        clear hbit hlt hp hxm
        by_cases x128 : 128 ≤ x
        · rw [if_pos x128] at hres
          have HRES := Aside0.mk hres
          have b2 : decide (x ≥ 128) = true := decide_eq_true x128
          clear hres
          go_wp2_with (first
          | (go_at_call 88; refine HT.out.mono ?_; rintro xx w1 ⟨rfl, hq1, hq2⟩; have n1_ := Aside0.mk hq1; have n2_ := Aside0.mk (HO.out.trans hq2); clear H HO hq1 hq2; have H := n1_; have HO := n2_; clear n1_ n2_; have hx := (H.out.old.cell (World.block_lt_of_cell? w0 _ HX.out)).trans HX.out)
          | (go_at_call 54; refine (bad_same w0 _ g A c b _ e 0 0 false H.out rfl).mono ?_; rintro xx w1 ⟨rfl, rfl⟩)
          | (go_at_call 55; refine (fail_ok w0 _ g A c b _ e _ _ H.out).mono ?_; rintro xx w1 ⟨rfl, hq1, hq2⟩; have n1_ := Aside0.mk hq1; have n2_ := Aside0.mk (HO.out.trans hq2); clear H HO hq1 hq2 hx; have H := n1_; have HO := n2_; clear n1_ n2_))
          go_roundw
          case measure =>
            have hm1 := H.out.c1
            rw [hm1, HM.out]
            simp only [Int.toNat_natCast]
            omega
          case rel => exact ⟨k + 1, nn, j + 1, by rw [HBIT.out], by go_num, H, HO, HRES, ⟨HP.out, by rw [show min (k + 1) 5 = k + 1 by omega]; exact HLT.out⟩, ⟨by have := HK.out; omega⟩⟩
        rw [if_neg x128] at hres
        have b2 : decide (x ≥ 128) = false := decide_eq_false x128
        by_cases x0 : x = 0
        · subst x0
          by_cases k0 : 0 < k
          · rw [if_pos (.inr (.inl ⟨rfl, k0⟩))] at hres
            have b6 : decide ((k : Int) > 0) = true := decide_eq_true (by omega)
            go_wp2_with (first
          | (go_at_call 88; refine HT.out.mono ?_; rintro xx w1 ⟨rfl, hq1, hq2⟩; have n1_ := Aside0.mk hq1; have n2_ := Aside0.mk (HO.out.trans hq2); clear H HO hq1 hq2; have H := n1_; have HO := n2_; clear n1_ n2_; have hx := (H.out.old.cell (World.block_lt_of_cell? w0 _ HX.out)).trans HX.out)
          | (go_at_call 54; refine (bad_same w0 _ g A c b _ e 0 0 false H.out rfl).mono ?_; rintro xx w1 ⟨rfl, rfl⟩)
          | (go_at_call 55; refine (fail_ok w0 _ g A c b _ e _ _ H.out).mono ?_; rintro xx w1 ⟨rfl, hq1, hq2⟩; have n1_ := Aside0.mk hq1; have n2_ := Aside0.mk (HO.out.trans hq2); clear H HO hq1 hq2 hx; have H := n1_; have HO := n2_; clear n1_ n2_))
            go_ret
            subst hres
            exact ⟨0, rfl, ⟨_, by simp, H.out⟩, HO.out, (fun _ _ h => by cases h), (fun _ _ => rfl)⟩
          · have hk0 : k = 0 := by omega
            subst hk0
            have hn0 : n = 0 := by have := HN.out; simp at this; omega
            subst hn0
            have hnn : nn = 0 := by rw [← HBIT.out]; decide
            subst hnn
            rw [if_neg (by omega)] at hres
            clear HBIT HLT HN
            go_wp2_with (first
          | (go_at_call 88; refine HT.out.mono ?_; rintro xx w1 ⟨rfl, hq1, hq2⟩; have n1_ := Aside0.mk hq1; have n2_ := Aside0.mk (HO.out.trans hq2); clear H HO hq1 hq2; have H := n1_; have HO := n2_; clear n1_ n2_; have hx := (H.out.old.cell (World.block_lt_of_cell? w0 _ HX.out)).trans HX.out)
          | (go_at_call 54; refine (bad_same w0 _ g A c b _ e 0 0 false H.out rfl).mono ?_; rintro xx w1 ⟨rfl, rfl⟩)
          | (go_at_call 55; refine (fail_ok w0 _ g A c b _ e _ _ H.out).mono ?_; rintro xx w1 ⟨rfl, hq1, hq2⟩; have n1_ := Aside0.mk hq1; have n2_ := Aside0.mk (HO.out.trans hq2); clear H HO hq1 hq2 hx; have H := n1_; have HO := n2_; clear n1_ n2_))
            go_ret
            subst hres
            exact ⟨_, rfl, ⟨j + 1, H.out, rfl⟩, HO.out, (fun n r h => by injection h with h; injection h with h1 h2; rw [← h1]; decide +kernel), (fun f h => by cases h)⟩
        by_cases big : 2147483647 < nn
        · rw [if_pos (.inr (.inr big))] at hres
          have b7 : decide (Go.bits .or .u64 n (IntKind.u64.wrap (IntKind.u64.wrap (Go.bits .and .u8 x 127) * 2 ^ (7 * k))) > 2147483647) = true := by rw [HBIT.out]; exact decide_eq_true big
          have b5 : (x == 0) = false := by simp [x0]
          go_wp2_with (first
          | (go_at_call 88; refine HT.out.mono ?_; rintro xx w1 ⟨rfl, hq1, hq2⟩; have n1_ := Aside0.mk hq1; have n2_ := Aside0.mk (HO.out.trans hq2); clear H HO hq1 hq2; have H := n1_; have HO := n2_; clear n1_ n2_; have hx := (H.out.old.cell (World.block_lt_of_cell? w0 _ HX.out)).trans HX.out)
          | (go_at_call 54; refine (bad_same w0 _ g A c b _ e 0 0 false H.out rfl).mono ?_; rintro xx w1 ⟨rfl, rfl⟩)
          | (go_at_call 55; refine (fail_ok w0 _ g A c b _ e _ _ H.out).mono ?_; rintro xx w1 ⟨rfl, hq1, hq2⟩; have n1_ := Aside0.mk hq1; have n2_ := Aside0.mk (HO.out.trans hq2); clear H HO hq1 hq2 hx; have H := n1_; have HO := n2_; clear n1_ n2_))
          go_ret
          subst hres
          exact ⟨0, rfl, ⟨_, by simp, H.out⟩, HO.out, (fun _ _ h => by cases h), (fun _ _ => rfl)⟩
        · rw [if_neg (by rintro (h | h | h); omega; exact x0 h.1; exact big h)] at hres
          have b7 : decide (Go.bits .or .u64 n (IntKind.u64.wrap (IntKind.u64.wrap (Go.bits .and .u8 x 127) * 2 ^ (7 * k))) > 2147483647) = false := by rw [HBIT.out]; exact decide_eq_false big
          have b5 : (x == 0) = false := by simp [x0]
          go_wp2_with (first
          | (go_at_call 88; refine HT.out.mono ?_; rintro xx w1 ⟨rfl, hq1, hq2⟩; have n1_ := Aside0.mk hq1; have n2_ := Aside0.mk (HO.out.trans hq2); clear H HO hq1 hq2; have H := n1_; have HO := n2_; clear n1_ n2_; have hx := (H.out.old.cell (World.block_lt_of_cell? w0 _ HX.out)).trans HX.out)
          | (go_at_call 54; refine (bad_same w0 _ g A c b _ e 0 0 false H.out rfl).mono ?_; rintro xx w1 ⟨rfl, rfl⟩)
          | (go_at_call 55; refine (fail_ok w0 _ g A c b _ e _ _ H.out).mono ?_; rintro xx w1 ⟨rfl, hq1, hq2⟩; have n1_ := Aside0.mk hq1; have n2_ := Aside0.mk (HO.out.trans hq2); clear H HO hq1 hq2 hx; have H := n1_; have HO := n2_; clear n1_ n2_))
          have hv : wrap64 (Go.bits .or .u64 n (IntKind.u64.wrap (IntKind.u64.wrap (Go.bits .and .u8 x 127) * 2 ^ (7 * k)))) = nn := by
            rw [HBIT.out]
            exact w64 (by have := HP.out; omega) (by omega)
          go_ret
          subst hres
          exact ⟨_, rfl, ⟨j + 1, H.out, rfl⟩, HO.out, (fun n r h => by injection h with h; injection h with h1 h2; rw [← h1]; exact hv), (fun f h => by cases h)⟩
      · rw [if_neg k5] at hres
        have b1 : decide ((k : Int) < 5) = false := decide_eq_false (by omega)
        have b4 : decide ((k : Int) > 4) = true := decide_eq_true (by omega)
        by_cases x128 : 128 ≤ x
        · rw [if_pos x128] at hres
          have HRES := Aside0.mk hres
          have b2 : decide (x ≥ 128) = true := decide_eq_true x128
          clear hres
          go_wp2_with (first
          | (go_at_call 88; refine HT.out.mono ?_; rintro xx w1 ⟨rfl, hq1, hq2⟩; have n1_ := Aside0.mk hq1; have n2_ := Aside0.mk (HO.out.trans hq2); clear H HO hq1 hq2; have H := n1_; have HO := n2_; clear n1_ n2_; have hx := (H.out.old.cell (World.block_lt_of_cell? w0 _ HX.out)).trans HX.out)
          | (go_at_call 54; refine (bad_same w0 _ g A c b _ e 0 0 false H.out rfl).mono ?_; rintro xx w1 ⟨rfl, rfl⟩)
          | (go_at_call 55; refine (fail_ok w0 _ g A c b _ e _ _ H.out).mono ?_; rintro xx w1 ⟨rfl, hq1, hq2⟩; have n1_ := Aside0.mk hq1; have n2_ := Aside0.mk (HO.out.trans hq2); clear H HO hq1 hq2 hx; have H := n1_; have HO := n2_; clear n1_ n2_))
          go_roundw
          case measure =>
            have hm1 := H.out.c1
            rw [hm1, HM.out]
            simp only [Int.toNat_natCast]
            omega
          case rel => exact ⟨k + 1, n, j + 1, rfl, by go_num, H, HO, HRES, ⟨HN.out.1, by have := HN.out.2; rw [show min k 5 = 5 by omega] at this; rw [show min (k + 1) 5 = 5 by omega]; exact this⟩, ⟨by have := HK.out; omega⟩⟩
        · rw [if_neg x128, if_pos (.inl (by omega))] at hres
          have b2 : decide (x ≥ 128) = false := decide_eq_false x128
          go_wp2_with (first
          | (go_at_call 88; refine HT.out.mono ?_; rintro xx w1 ⟨rfl, hq1, hq2⟩; have n1_ := Aside0.mk hq1; have n2_ := Aside0.mk (HO.out.trans hq2); clear H HO hq1 hq2; have H := n1_; have HO := n2_; clear n1_ n2_; have hx := (H.out.old.cell (World.block_lt_of_cell? w0 _ HX.out)).trans HX.out)
          | (go_at_call 54; refine (bad_same w0 _ g A c b _ e 0 0 false H.out rfl).mono ?_; rintro xx w1 ⟨rfl, rfl⟩)
          | (go_at_call 55; refine (fail_ok w0 _ g A c b _ e _ _ H.out).mono ?_; rintro xx w1 ⟨rfl, hq1, hq2⟩; have n1_ := Aside0.mk hq1; have n2_ := Aside0.mk (HO.out.trans hq2); clear H HO hq1 hq2 hx; have H := n1_; have HO := n2_; clear n1_ n2_))
          go_ret
          subst hres
          exact ⟨0, rfl, ⟨_, by simp, H.out⟩, HO.out, (fun _ _ h => by cases h), (fun _ _ => rfl)⟩
    · have c2 : j = e := by have := H.out.at_; omega
      subst c2
      have hres := HRES.out
      rw [left_nil (Nat.le_refl _), cntL] at hres
      have HT := Aside0.mk (take_short w0 wr g A c b j j 1 (by omega) H.out (by omega))
      go_wp2_with (first
          | (go_at_call 88; refine HT.out.mono ?_; rintro xx w1 ⟨rfl, hq1, hq2⟩; have n1_ := Aside0.mk hq1; have n2_ := Aside0.mk (HO.out.trans hq2); clear H HO hq1 hq2; have H := n1_; have HO := n2_; clear n1_ n2_)
          | (go_at_call 54; refine (bad_same w0 _ g A c b _ _ _ 200 true H.out rfl).mono ?_; rintro xx w1 ⟨rfl, rfl⟩))
      go_ret
      subst hres
      exact ⟨0, rfl, ⟨_, by simp, H.out⟩, HO.out, (fun _ _ h => by cases h), (fun _ _ => rfl)⟩
theorem count_bad (fa fc : Int) (h : RS w0 w g A c b i e fa fc) (hc : fc ≠ 0) : Calls Try.prog 89 #[.pointer (some ⟨g, 0, none⟩)] w fun x w' => x = .returned (.int .i64 0) ∧ RS w0 w' g A c b i e fa fc ∧ Only w w' g := by
  have H := Aside0.mk h
  have HO := Aside0.mk (Only.refl w g)
  have HC := Aside0.mk hc
  have HB := Aside0.mk (show (fc != 0) = true by simpa using hc)
  have h1 := h.c1
  clear h hc
  go_enter Try.func89, Try.ntmps89
  go_wp2
  refine wp_loop_once ?_
  go_wp2_with (first
    | (go_at_call 88; refine (take_bad w0 _ g A c b i e fa fc 1 H.out HC.out).mono ?_; rintro xx w1 ⟨rfl, hq1, hq2⟩; have n1_ := Aside0.mk hq1; have n2_ := Aside0.mk (HO.out.trans hq2); clear H HO hq1 hq2; have H := n1_; have HO := n2_; clear n1_ n2_)
    | (go_at_call 54; refine (bad_same w0 _ g A c b _ e fa fc true H.out HB.out).mono ?_; rintro xx w1 ⟨rfl, rfl⟩))
  go_ret
  exact ⟨rfl, H.out, HO.out⟩
/-- A count, at most 2^16. -/
def manyL (e fr : Nat) (l : List Int) : Except (Int × Int) (Int × List Int) := match cntL e fr 0 0 l with
  | .error f => .error f
  | .ok (n, r) => if 65536 < n then .error (fr, 204) else .ok (n, r)
theorem manyL_range {e fr : Nat} {l : List Int} (hb : ∀ x ∈ l, 0 ≤ x ∧ x < 256) {n : Int} {r : List Int} (h : manyL e fr l = .ok (n, r)) : 0 ≤ n ∧ n ≤ 65536 := by
  unfold manyL at h
  split at h
  · cases h
  · rename_i v r' hc
    have h0 := cntL_nonneg e fr l 0 0 v r' hb (by omega) hc
    split at h
    · cases h
    · injection h with h
      injection h with h1 _
      omega
theorem many_ok (h : RS w0 w g A c b i e 0 0) (hby : ∀ x ∈ b, 0 ≤ x ∧ x < 256) : Calls Try.prog 87 #[.pointer (some ⟨g, 0, none⟩)] w fun x w' => ∃ v, x = .returned (.int .i64 v) ∧ St w0 w' g A c b e ((manyL e i ((b.take e).drop i)).map (·.2)) ∧ Only w w' g ∧ (∀ n r, manyL e i ((b.take e).drop i) = .ok (n, r) → v = n) ∧ (∀ f, manyL e i ((b.take e).drop i) = .error f → v = 0) := by
  have HCO := Aside0.mk (count_ok w0 w g A c b i e h hby)
  have h1 := h.c1
  clear h hby
  unfold manyL
  generalize cntL e i 0 0 ((b.take e).drop i) = res at *
  match res with
  | .error f =>
    go_enter Try.func87, Try.ntmps87
    go_wp2_with (first
      | (go_at_call 89; refine HCO.out.mono ?_; rintro xx w1 ⟨v, rfl, hq1, hq2, hq3, hq4⟩; obtain rfl := hq4 f rfl; have H := Aside0.mk hq1; have HO := Aside0.mk hq2; clear hq1 hq2 hq3 hq4))
    go_ret
    exact ⟨0, rfl, H.out, HO.out, (fun _ _ h => by cases h), (fun _ _ => rfl)⟩
  | .ok (n, r) =>
    by_cases big : 65536 < n
    · have b1 : decide (n > 65536) = true := decide_eq_true big
      dsimp only
      simp only [if_pos big]
      go_enter Try.func87, Try.ntmps87
      go_wp2_with (first
        | (go_at_call 89; refine HCO.out.mono ?_; rintro xx w1 ⟨v, rfl, hq1, hq2, hq3, hq4⟩; obtain rfl := hq3 n r rfl; obtain ⟨j, hrs, _⟩ := hq1; have H := Aside0.mk hrs; have HO := Aside0.mk hq2; clear hq2 hq3 hq4 hrs)
        | (go_at_call 55; refine (fail_ok w0 _ g A c b _ e _ _ H.out).mono ?_; rintro xx w1 ⟨rfl, hq1, hq2⟩; have n1_ := Aside0.mk hq1; have n2_ := Aside0.mk (HO.out.trans hq2); clear H HO hq1 hq2; have H := n1_; have HO := n2_; clear n1_ n2_))
      go_ret
      exact ⟨0, rfl, ⟨_, by simp, H.out⟩, HO.out, (fun _ _ h => by cases h), (fun _ _ => rfl)⟩
    · have b1 : decide (n > 65536) = false := decide_eq_false big
      dsimp only
      simp only [if_neg big]
      go_enter Try.func87, Try.ntmps87
      go_wp2_with (first
        | (go_at_call 89; refine HCO.out.mono ?_; rintro xx w1 ⟨v, rfl, hq1, hq2, hq3, hq4⟩; obtain rfl := hq3 n r rfl; have H := Aside0.mk hq1; have HO := Aside0.mk hq2; clear hq1 hq2 hq3 hq4))
      go_ret
      exact ⟨_, rfl, H.out, HO.out, (fun n r h => by injection h with h; injection h), (fun f h => by cases h)⟩
theorem many_bad (fa fc : Int) (h : RS w0 w g A c b i e fa fc) (hc : fc ≠ 0) : Calls Try.prog 87 #[.pointer (some ⟨g, 0, none⟩)] w fun x w' => x = .returned (.int .i64 0) ∧ RS w0 w' g A c b i e fa fc ∧ Only w w' g := by
  have HCO := Aside0.mk (count_bad w0 w g A c b i e fa fc h hc)
  have h1 := h.c1
  clear h hc
  go_enter Try.func87, Try.ntmps87
  go_wp2_with (first
    | (go_at_call 89; refine HCO.out.mono ?_; rintro xx w1 ⟨rfl, hq1, hq2⟩; have H := Aside0.mk hq1; have HO := Aside0.mk hq2; clear hq1 hq2))
  go_ret
  exact ⟨rfl, H.out, HO.out⟩
end
end Go.Proofs.Ytebiogaacikphaa.Pack
end
