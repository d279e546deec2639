/- Parts of the proof of packForged and packDecodes and Pack and Pack and Pack: PAllx0, Ev, PackTake, Bits, PackCount, MapEntry. -/
import Derived.ArgAppend
import Derived.Below
import Derived.BigQuiet
import Derived.Deep.AppendLies
import Derived.Deep.CutBlock
import Derived.Deep.DeepCutAuto
import Derived.Deep.Draws
import Derived.Deep.LoopGhost
import Derived.Deep.OwnRows
import Derived.Deep.QuietTactic
import Derived.Deep.RegionHeld3
import Derived.IntWalk
import Derived.KernelRfl
import Derived.Laws.BitsLemmas
import Derived.Laws.BytesArg
import Derived.Laws.IdiomCopy
import Derived.Laws.MakeOwn
import Derived.Laws.OwnMore
import Derived.Laws.Rows
import Derived.Laws.Slices
import Derived.Lib.AppendStr
import Derived.Lib.ConvBytes
import Derived.Maps.AppendAt
import Derived.OrdersHeld
import Derived.Outline
import Derived.OwnWalk
import Derived.RowKit
import Derived.RowKit3
import Derived.Shelf.Small.Strs
import Derived.Shelf.Small.Utf8
import Derived.Shelf.Strings.AsciiSet
import Derived.Shelf.Strings.IndexAny
import Derived.Shelf.Strings.IndexAnyAll
import Derived.Shelf.Strings.Runes
import Derived.Shelf.Strings.Search1
import Derived.Tactics
import Derived.Test.YtebiogaacikphaaProg
import Derived.WalkKit
import Derived.WideLaws
import Derived.Test.YtebiogaacikphaaTP0
import Derived.Test.YtebiogaacikphaaTP1
section
namespace Go.Proofs.Ytebiogaacikphaa.PAll
open Go.RowKit Go.Proofs.YtebiogaacikphaaW.PrintWords Go.Proofs.YtebiogaacikphaaW.PrintLast Go.Proofs.YtebiogaacikphaaW.PrintMore
set_option linter.unusedVariables false
set_option linter.unusedSimpArgs false
def errW : Option Int → Value
  | none => .nilIface
  | some c => .iface 0 (.int .i64 c)
theorem errW_none : errW none = .nilIface := rfl
theorem errW_some (c : Int) : errW (some c) = .iface 0 (.int .i64 c) := rfl
theorem info5 : (Try.prog.info? 5).map (fun i => (i.zero, i.size, i.bytes)) = some (some (.int .u8 0), 1, 1) := by kernel_rfl
theorem info9 : (Try.prog.info? 9).map (fun i => (i.zero, i.size, i.bytes)) = some (some (.string ⟨#[]⟩), 1, 16) := by kernel_rfl
structure S76 where
  f0 : Int
  f1 : Int
  f2 : Int
  f3 : Int
def z76 : S76 := ⟨(0 : Int), (0 : Int), (0 : Int), (0 : Int)⟩
def k76 : Kd S76 := Kd.iso (Kd.pair (Kd.int .u64) (Kd.pair (Kd.int .u64) (Kd.pair (Kd.int .u64) (Kd.int .u64)))) (fun x : S76 => (x.f0, x.f1, x.f2, x.f3))
theorem k76_open {w : World} {x : S76} {cs : List Value} (h : k76.K w x cs) : cs = [.int .u64 x.f0, .int .u64 x.f1, .int .u64 x.f2, .int .u64 x.f3] := by
  obtain ⟨_, _, rfl, rfl, ⟨_, _, rfl, rfl, ⟨_, _, rfl, rfl, rfl⟩⟩⟩ := h
  exact rfl
theorem k76_mk (w : World) (x : S76)  : k76.K w x [.int .u64 x.f0, .int .u64 x.f1, .int .u64 x.f2, .int .u64 x.f3] := ⟨[.int .u64 x.f0], [.int .u64 x.f1, .int .u64 x.f2, .int .u64 x.f3], rfl, rfl, ⟨[.int .u64 x.f1], [.int .u64 x.f2, .int .u64 x.f3], rfl, rfl, ⟨[.int .u64 x.f2], [.int .u64 x.f3], rfl, rfl, rfl⟩⟩⟩
structure S90 where
  f0 : Int
  f1 : S76
  f2 : Int
  f3 : ByteArray
def z90 : S90 := ⟨(0 : Int), z76, (0 : Int), (⟨#[]⟩ : ByteArray)⟩
def k90 : Kd S90 := Kd.iso (Kd.pair (Kd.int .i64) (Kd.pair k76 (Kd.pair (Kd.int .i64) Kd.string))) (fun x : S90 => (x.f0, x.f1, x.f2, x.f3))
theorem k90_open {w : World} {x : S90} {cs : List Value} (h : k90.K w x cs) : cs = [.int .i64 x.f0, .int .u64 x.f1.f0, .int .u64 x.f1.f1, .int .u64 x.f1.f2, .int .u64 x.f1.f3, .int .i64 x.f2, .string x.f3] := by
  obtain ⟨_, _, rfl, rfl, ⟨_, _, rfl, s1, ⟨_, _, rfl, rfl, rfl⟩⟩⟩ := h
  obtain rfl := k76_open s1
  exact rfl
def rd_T90 (xs : List S90) (i : Int) : S90 := xs.getD i.toNat z90
theorem at_T90 {w : World} {A : Option Addr} {n : Nat} {xs : List S90} (h : Kd.C k90 w A n xs) (i : Int) (h0 : 0 ≤ i) (h1 : i < n) : ∃ ad , A = some ad ∧ w.cell? (ad.add (i.toNat * 7)) = some (.int .i64 (rd_T90 xs i).f0) ∧ w.cell? ⟨(ad.add (i.toNat * 7)).block, (ad.add (i.toNat * 7)).off + 1, none⟩ = some (.int .u64 (rd_T90 xs i).f1.f0) ∧ w.cell? ⟨(ad.add (i.toNat * 7)).block, (ad.add (i.toNat * 7)).off + 2, none⟩ = some (.int .u64 (rd_T90 xs i).f1.f1) ∧ w.cell? ⟨(ad.add (i.toNat * 7)).block, (ad.add (i.toNat * 7)).off + 3, none⟩ = some (.int .u64 (rd_T90 xs i).f1.f2) ∧ w.cell? ⟨(ad.add (i.toNat * 7)).block, (ad.add (i.toNat * 7)).off + 4, none⟩ = some (.int .u64 (rd_T90 xs i).f1.f3) ∧ w.cell? ⟨(ad.add (i.toNat * 7)).block, (ad.add (i.toNat * 7)).off + 5, none⟩ = some (.int .i64 (rd_T90 xs i).f2) ∧ w.cell? ⟨(ad.add (i.toNat * 7)).block, (ad.add (i.toNat * 7)).off + 6, none⟩ = some (.string (rd_T90 xs i).f3) := by
  obtain ⟨ad, c, e, _, hK, hc0⟩ := Kd.C_get h z90 i h0 h1
  have hc : ∀ j u, c[j]? = some u → w.cell? (ad.add (i.toNat * 7 + j)) = some u := hc0
  obtain rfl := k90_open hK
  exact ⟨ad, e, hc 0 _ rfl, by rw [← add_field _ _ 1 (by omega)]; exact hc 1 _ rfl, by rw [← add_field _ _ 2 (by omega)]; exact hc 2 _ rfl, by rw [← add_field _ _ 3 (by omega)]; exact hc 3 _ rfl, by rw [← add_field _ _ 4 (by omega)]; exact hc 4 _ rfl, by rw [← add_field _ _ 5 (by omega)]; exact hc 5 _ rfl, by rw [← add_field _ _ 6 (by omega)]; exact hc 6 _ rfl⟩
structure S30 where
  f0 : ByteArray
  f1 : (List S90)
def z30 : S30 := ⟨(⟨#[]⟩ : ByteArray), ([] : List S90)⟩
def k30 : Kd S30 := Kd.iso (Kd.pair Kd.string (Kd.slice 90 k90)) (fun x : S30 => (x.f0, x.f1))
theorem k30_open {w : World} {x : S30} {cs : List Value} (h : k30.K w x cs) : ∃ A1 c1, cs = [.string x.f0, .slice A1 x.f1.length c1] ∧ x.f1.length ≤ c1 ∧ k90.C w A1 x.f1.length x.f1 := by
  obtain ⟨_, _, rfl, rfl, ⟨A1, c1, rfl, l1, g1⟩⟩ := h
  exact ⟨A1, c1, rfl, l1, g1⟩
def rd_T30 (xs : List S30) (i : Int) : S30 := xs.getD i.toNat z30
theorem at_T30 {w : World} {A : Option Addr} {n : Nat} {xs : List S30} (h : Kd.C k30 w A n xs) (i : Int) (h0 : 0 ≤ i) (h1 : i < n) : ∃ ad A1 c1, A = some ad ∧ w.cell? (ad.add (i.toNat * 2)) = some (.string (rd_T30 xs i).f0) ∧ w.cell? ⟨(ad.add (i.toNat * 2)).block, (ad.add (i.toNat * 2)).off + 1, none⟩ = some (.slice A1 (rd_T30 xs i).f1.length c1) ∧ (rd_T30 xs i).f1.length ≤ c1 ∧ k90.C w A1 (rd_T30 xs i).f1.length (rd_T30 xs i).f1 := by
  obtain ⟨ad, c, e, _, hK, hc0⟩ := Kd.C_get h z30 i h0 h1
  have hc : ∀ j u, c[j]? = some u → w.cell? (ad.add (i.toNat * 2 + j)) = some u := hc0
  obtain ⟨A1, c1, rfl, l1, g1⟩ := k30_open hK
  exact ⟨ad, A1, c1, e, hc 0 _ rfl, by rw [← add_field _ _ 1 (by omega)]; exact hc 1 _ rfl, l1, g1⟩
structure S78 where
  f0 : Int
  f1 : Int
  f2 : S76
  f3 : ByteArray
def z78 : S78 := ⟨(0 : Int), (0 : Int), z76, (⟨#[]⟩ : ByteArray)⟩
def k78 : Kd S78 := Kd.iso (Kd.pair (Kd.int .i64) (Kd.pair (Kd.int .i64) (Kd.pair k76 Kd.string))) (fun x : S78 => (x.f0, x.f1, x.f2, x.f3))
theorem k78_open {w : World} {x : S78} {cs : List Value} (h : k78.K w x cs) : cs = [.int .i64 x.f0, .int .i64 x.f1, .int .u64 x.f2.f0, .int .u64 x.f2.f1, .int .u64 x.f2.f2, .int .u64 x.f2.f3, .string x.f3] := by
  obtain ⟨_, _, rfl, rfl, ⟨_, _, rfl, rfl, ⟨_, _, rfl, s2, rfl⟩⟩⟩ := h
  obtain rfl := k76_open s2
  exact rfl
theorem k78_mk (w : World) (x : S78)  : k78.K w x [.int .i64 x.f0, .int .i64 x.f1, .int .u64 x.f2.f0, .int .u64 x.f2.f1, .int .u64 x.f2.f2, .int .u64 x.f2.f3, .string x.f3] := ⟨[.int .i64 x.f0], [.int .i64 x.f1, .int .u64 x.f2.f0, .int .u64 x.f2.f1, .int .u64 x.f2.f2, .int .u64 x.f2.f3, .string x.f3], rfl, rfl, ⟨[.int .i64 x.f1], [.int .u64 x.f2.f0, .int .u64 x.f2.f1, .int .u64 x.f2.f2, .int .u64 x.f2.f3, .string x.f3], rfl, rfl, ⟨[.int .u64 x.f2.f0, .int .u64 x.f2.f1, .int .u64 x.f2.f2, .int .u64 x.f2.f3], [.string x.f3], rfl, (k76_mk w x.f2 ), rfl⟩⟩⟩
def rd_T78 (xs : List S78) (i : Int) : S78 := xs.getD i.toNat z78
theorem at_T78 {w : World} {A : Option Addr} {n : Nat} {xs : List S78} (h : Kd.C k78 w A n xs) (i : Int) (h0 : 0 ≤ i) (h1 : i < n) : ∃ ad , A = some ad ∧ w.cell? (ad.add (i.toNat * 7)) = some (.int .i64 (rd_T78 xs i).f0) ∧ w.cell? ⟨(ad.add (i.toNat * 7)).block, (ad.add (i.toNat * 7)).off + 1, none⟩ = some (.int .i64 (rd_T78 xs i).f1) ∧ w.cell? ⟨(ad.add (i.toNat * 7)).block, (ad.add (i.toNat * 7)).off + 2, none⟩ = some (.int .u64 (rd_T78 xs i).f2.f0) ∧ w.cell? ⟨(ad.add (i.toNat * 7)).block, (ad.add (i.toNat * 7)).off + 3, none⟩ = some (.int .u64 (rd_T78 xs i).f2.f1) ∧ w.cell? ⟨(ad.add (i.toNat * 7)).block, (ad.add (i.toNat * 7)).off + 4, none⟩ = some (.int .u64 (rd_T78 xs i).f2.f2) ∧ w.cell? ⟨(ad.add (i.toNat * 7)).block, (ad.add (i.toNat * 7)).off + 5, none⟩ = some (.int .u64 (rd_T78 xs i).f2.f3) ∧ w.cell? ⟨(ad.add (i.toNat * 7)).block, (ad.add (i.toNat * 7)).off + 6, none⟩ = some (.string (rd_T78 xs i).f3) := by
  obtain ⟨ad, c, e, _, hK, hc0⟩ := Kd.C_get h z78 i h0 h1
  have hc : ∀ j u, c[j]? = some u → w.cell? (ad.add (i.toNat * 7 + j)) = some u := hc0
  obtain rfl := k78_open hK
  exact ⟨ad, e, hc 0 _ rfl, by rw [← add_field _ _ 1 (by omega)]; exact hc 1 _ rfl, by rw [← add_field _ _ 2 (by omega)]; exact hc 2 _ rfl, by rw [← add_field _ _ 3 (by omega)]; exact hc 3 _ rfl, by rw [← add_field _ _ 4 (by omega)]; exact hc 4 _ rfl, by rw [← add_field _ _ 5 (by omega)]; exact hc 5 _ rfl, by rw [← add_field _ _ 6 (by omega)]; exact hc 6 _ rfl⟩
end Go.Proofs.Ytebiogaacikphaa.PAll
end
section
namespace Go.Proofs.YtebiogaacikphaaW.PrintWords
open Go.RowKit
theorem Ev.pos {α : Type} {c : Prop} [Decidable c] {g f : Nat → Option α} {r : α} (h : c) (k : Ev g r) : Ev (fun n => if c then g n else f n) r := Ev.congr (fun _ => if_pos h) k
theorem Ev.neg {α : Type} {c : Prop} [Decidable c] {g f : Nat → Option α} {r : α} (h : ¬ c) (k : Ev f r) : Ev (fun n => if c then g n else f n) r := Ev.congr (fun _ => if_neg h) k
theorem Ev.ite {α : Type} {c : Prop} [Decidable c] {g f : Nat → Option α} {r : α} (h : c → Ev g r) (k : ¬ c → Ev f r) : Ev (fun n => if c then g n else f n) r := by
  by_cases hc : c
  · exact Ev.pos hc (h hc)
  · exact Ev.neg hc (k hc)
theorem Ev.some_ {α : Type} {r r' : α} (h : r = r') : Ev (fun _ => some r) r' := h ▸ Ev.now r
theorem Ev.const {α : Type} {o : Option α} {r : α} (h : o = some r) : Ev (fun _ => o) r := h ▸ Ev.now r
theorem Ev.to {α : Type} {g : Nat → Option α} {r r' : α} (h : Ev g r) (e : r = r') : Ev g r' := e ▸ h
theorem w64 {x : Int} (h0 : -9223372036854775808 ≤ x) (h1 : x ≤ 9223372036854775807) : wrap64 x = x := by
  unfold wrap64
  omega
theorem bt_nat (s : ByteArray) (i : Nat) (h : i < s.data.toList.length) : bt s (i : Int) = ((s.data.toList[i]).toNat : Int) := by
  have h' : i < s.size := by rw [data_length] at h; exact h
  simp [bt, h']
  rfl
theorem size_list (s : ByteArray) : s.size = s.data.toList.length := (data_length s).symm
end Go.Proofs.YtebiogaacikphaaW.PrintWords
end
section
namespace Go.Proofs.Ytebiogaacikphaa.Pack
open Go.RowKit Go.Proofs.YtebiogaacikphaaW.PrintWords Go.Proofs.Ytebiogaacikphaa.PAll
set_option linter.unusedVariables false
set_option linter.unusedSimpArgs false
def rcells (A : Option Addr) (c : Nat) (b : List Int) (i : Int) (e : Nat) (fa fc : Int) : Array Value := #[.slice A b.length c, .int .i64 i, .int .i64 e, .int .i64 fa, .int .i64 fc]
/-- A reader at block g of W: what it reads came in by w0. -/
structure RS (w0 W : World) (g : Nat) (A : Option Addr) (c : Nat) (b : List Int) (i : Nat) (e : Nat) (fa fc : Int) : Prop where
  box : W.heap[g]? = some (.cells (rcells A c b i e fa fc) 99 (0, 0))
  ge : w0.heap.size ≤ g
  rd : Kd.C (Kd.int .u8) w0 A b.length b
  cap : b.length ≤ c
  len : b.length ≤ 140737488351232
  e_ : e ≤ b.length
  at_ : i ≤ e
  old : Below w0.heap.size w0 W
section
variable {w0 W W' : World} {g : Nat} {A : Option Addr} {c : Nat} {b : List Int} {i e : Nat} {fa fc : Int}
theorem RS.below (h : RS w0 W g A c b i e fa fc) (hb : Below W.heap.size W W') : RS w0 W' g A c b i e fa fc := ⟨blk_below h.box hb, h.ge, h.rd, h.cap, h.len, h.e_, h.at_, below_step h.old hb⟩
theorem RS.drew (h : RS w0 W g A c b i e fa fc) (n : Nat) : RS w0 (W.drewN n) g A c b i e fa fc := h.below (pw_below_drewN (Below.refl _ _) n)
theorem RS.c0 (h : RS w0 W g A c b i e fa fc) : W.cell? ⟨g, 0, none⟩ = some (.slice A b.length c) := (blk_cell h.box 0).trans rfl
theorem RS.c1 (h : RS w0 W g A c b i e fa fc) : W.cell? ⟨g, 1, none⟩ = some (.int .i64 i) := (blk_cell h.box 1).trans rfl
theorem RS.c2 (h : RS w0 W g A c b i e fa fc) : W.cell? ⟨g, 2, none⟩ = some (.int .i64 e) := (blk_cell h.box 2).trans rfl
theorem RS.c3 (h : RS w0 W g A c b i e fa fc) : W.cell? ⟨g, 3, none⟩ = some (.int .i64 fa) := (blk_cell h.box 3).trans rfl
theorem RS.c4 (h : RS w0 W g A c b i e fa fc) : W.cell? ⟨g, 4, none⟩ = some (.int .i64 fc) := (blk_cell h.box 4).trans rfl
theorem RS.lt (h : RS w0 W g A c b i e fa fc) : g < W.heap.size := blk_lt h.box
theorem RS.grown (h : RS w0 W g A c b i e fa fc) {row : Nat} (hg : W.grownBy W' (some row)) (h1 : g ≠ row) (h2 : w0.heap.size ≤ row) : RS w0 W' g A c b i e fa fc :=
  ⟨(hg.block _ (blk_lt h.box) (by simpa using h1)).trans h.box, h.ge, h.rd, h.cap, h.len, h.e_, h.at_, pw_below_grown h.old (some row) h.old.size hg (fun k hk => by cases hk; omega)⟩
theorem RS.row (h : RS w0 W g A c b i e fa fc) : RowAt W g 99 [.slice A b.length c, .int .i64 i, .int .i64 e, .int .i64 fa, .int .i64 fc] := ⟨_, h.box, rfl⟩
theorem RS.set (h : RS w0 W g A c b i e fa fc) {i' : Nat} {fa' fc' : Int} (hrow : RowAt W' g 99 [.slice A b.length c, .int .i64 i', .int .i64 e, .int .i64 fa', .int .i64 fc']) (hg : W.grownBy W' (some g)) (hi : i' ≤ e) : RS w0 W' g A c b i' e fa' fc' := by
  obtain ⟨cur, h1, h2⟩ := hrow
  have hc : cur = rcells A c b i' e fa' fc' := by
    rw [← Array.toArray_toList (xs := cur), h2]
    rfl
  rw [hc] at h1
  exact ⟨h1, h.ge, h.rd, h.cap, h.len, h.e_, hi, pw_below_grown h.old (some g) h.old.size hg (fun k hk => by cases hk; exact h.ge)⟩
end
/-- What a walk of the reader changes: its own block, and what is new. -/
def Only (w w' : World) (g : Nat) : Prop := w.heap.size ≤ w'.heap.size ∧ ∀ j, j < w.heap.size → j ≠ g → w'.heap[j]? = w.heap[j]?
theorem Only.refl (w : World) (g : Nat) : Only w w g := ⟨Nat.le_refl _, fun _ _ _ => rfl⟩
theorem Only.of_below {w w' : World} (h : Below w.heap.size w w') (g : Nat) : Only w w' g := ⟨h.size, fun j hj _ => h.block j hj⟩
theorem Only.of_grown {w w' : World} {g : Nat} (h : w.grownBy w' (some g)) : Only w w' g := ⟨h.size, fun j hj hne => h.block j hj (by simpa using hne)⟩
theorem Only.trans {w w1 w2 : World} {g : Nat} (h : Only w w1 g) (k : Only w1 w2 g) : Only w w2 g := ⟨Nat.le_trans h.1 k.1, fun j hj hne => (k.2 j (Nat.lt_of_lt_of_le hj h.1) hne).trans (h.2 j hj hne)⟩
section
variable (w0 w : World) (g : Nat) (A : Option Addr) (c : Nat) (b : List Int) (i e : Nat) (fa fc : Int)
theorem bad_same (v : Bool) (h : RS w0 w g A c b i e fa fc) (hv : (fc != 0) = v) : Calls Try.prog 54 #[.pointer (some ⟨g, 0, none⟩)] w fun x w' => x = .returned (.bool v) ∧ w' = w := by
  have h3 := h.c3
  have h4 := h.c4
  clear h
  subst hv
  go_enter Try.func54, Try.ntmps54
  go_wp2
  go_ret
  exact ⟨rfl, rfl⟩
theorem fail_bad (q r : Int) (h : RS w0 w g A c b i e fa fc) (hc : fc ≠ 0) : Calls Try.prog 55 #[.pointer (some ⟨g, 0, none⟩), .int .i64 q, .int .i64 r] w fun x w' => x = .returned (.tuple #[]) ∧ RS w0 w' g A c b i e fa fc ∧ Only w w' g := by
  have H := Aside0.mk h
  have hb : (fc != 0) = true := by simpa using hc
  have HO := Aside0.mk (Only.refl w g)
  clear h hc
  go_enter Try.func55, Try.ntmps55
  go_wp2_with (first
    | (go_at_call 54; refine (bad_same w0 _ g A c b i e fa fc true H.out hb).mono ?_; rintro x w1 ⟨rfl, rfl⟩))
  first | go_end0 | ((try simp only [Exit.inBlock, Exit.then]); refine bodyPost_ret (results_none rfl _ _ _) rfl ?_)
  exact ⟨rfl, H.out, HO.out⟩
theorem fail_ok (q r : Int) (h : RS w0 w g A c b i e 0 0) : Calls Try.prog 55 #[.pointer (some ⟨g, 0, none⟩), .int .i64 q, .int .i64 r] w fun x w' => x = .returned (.tuple #[]) ∧ RS w0 w' g A c b i e q r ∧ Only w w' g := by
  have H := Aside0.mk h
  have HO := Aside0.mk (Only.refl w g)
  clear h
  go_enter Try.func55, Try.ntmps55
  go_wp2_with (first
    | (go_at_call 54; refine (bad_same w0 _ g A c b i e 0 0 false H.out rfl).mono ?_; rintro x w1 ⟨rfl, rfl⟩)
    | ((with_reducible refine gate_store (t := 42) (p := 14) rfl ?_); refine put_event rfl rfl 42 (.tmp 14) (.tmp 12) rfl (off := 3) (u := .agg #[.int .i64 q, .int .i64 r]) (seg := [.int .i64 q, .int .i64 r]) rfl rfl H.out.row rfl (by kernel_rfl) (by simp) (by simp [Value.oneCell']) ?_; intro w2 hrow hgr; have n1_ := Aside0.mk (H.out.set (i' := i) (fa' := q) (fc' := r) hrow hgr H.out.at_); have n2_ := Aside0.mk (HO.out.trans (Only.of_grown hgr)); clear H HO hrow hgr; have H := n1_; have HO := n2_; clear n1_ n2_))
  first | go_end0 | ((try simp only [Exit.inBlock, Exit.then]); refine bodyPost_ret (results_none rfl _ _ _) rfl ?_)
  exact ⟨rfl, H.out, HO.out⟩
/-- What take gives: a cut of what is read. -/
def cutAt (A : Option Addr) (n i : Nat) : Option Addr := if n = 0 then A else A.map (·.add (i * 1))
theorem take_bad (n : Int) (h : RS w0 w g A c b i e fa fc) (hc : fc ≠ 0) : Calls Try.prog 88 #[.pointer (some ⟨g, 0, none⟩), .int .i64 n] w fun x w' => x = .returned (.slice none 0 0) ∧ RS w0 w' g A c b i e fa fc ∧ Only w w' g := by
  have H := Aside0.mk h
  have hb : (fc != 0) = true := by simpa using hc
  have HC := Aside0.mk hc
  have HO := Aside0.mk (Only.refl w g)
  have h1 := h.c1
  have h2 := h.c2
  clear h hc
  go_enter Try.func88, Try.ntmps88
  go_wp2
  go_quiet ((go_at_call 54; exact Calls.quiet_of_same (bad_same w0 _ g A c b i e fa fc true (H.out.drew _) hb)))
  have n1_ := Aside0.mk (H.out.drew nq)
  have n2_ := Aside0.mk (Only.of_below (pw_below_drewN (Below.refl w.heap.size w) nq) g)
  clear H HO
  have H := n1_
  have HO := n2_
  clear n1_ n2_
  go_wp2_with (first
    | (go_at_call 55; refine (fail_bad w0 _ g A c b i e fa fc _ _ H.out HC.out).mono ?_; rintro x w1 ⟨rfl, hq1, hq2⟩; have n1_ := Aside0.mk hq1; have n2_ := Aside0.mk (HO.out.trans hq2); clear H HO hq1 hq2; have H := n1_; have HO := n2_; clear n1_ n2_))
  go_ret
  exact ⟨rfl, H.out, HO.out⟩
theorem take_short (n : Nat) (hn : n ≤ 140737488351232) (h : RS w0 w g A c b i e 0 0) (hs : e < i + n) : Calls Try.prog 88 #[.pointer (some ⟨g, 0, none⟩), .int .i64 n] w fun x w' => x = .returned (.slice none 0 0) ∧ RS w0 w' g A c b i e e 200 ∧ Only w w' g := by
  have H := Aside0.mk h
  have HO := Aside0.mk (Only.refl w g)
  have h1 := h.c1
  have h2 := h.c2
  have hw : IntKind.i64.wrap ((e : Int) - i) = (e : Int) - i := IntWalk.i64_in _ (by have := h.len; have := h.e_; have := h.at_; omega)
  have hd : decide ((n : Int) > (e : Int) - i) = true := decide_eq_true (by omega)
  clear h
  go_enter Try.func88, Try.ntmps88
  go_wp2
  go_quiet ((go_at_call 54; exact Calls.quiet_of_same (bad_same w0 _ g A c b i e 0 0 false (H.out.drew _) rfl)))
  have n1_ := Aside0.mk (H.out.drew nq)
  have n2_ := Aside0.mk (Only.of_below (pw_below_drewN (Below.refl w.heap.size w) nq) g)
  clear H HO
  have H := n1_
  have HO := n2_
  clear n1_ n2_
  try simp only [hw, hd]
  go_wp2_with (first
    | (go_at_call 55; refine (fail_ok w0 _ g A c b i e _ _ H.out).mono ?_; rintro x w1 ⟨rfl, hq1, hq2⟩; have n1_ := Aside0.mk hq1; have n2_ := Aside0.mk (HO.out.trans hq2); clear H HO hq1 hq2; have H := n1_; have HO := n2_; clear n1_ n2_))
  go_ret
  exact ⟨rfl, H.out, HO.out⟩
theorem take_ok (n : Nat) (h : RS w0 w g A c b i e 0 0) (hs : i + n ≤ e) : Calls Try.prog 88 #[.pointer (some ⟨g, 0, none⟩), .int .i64 n] w fun x w' => x = .returned (.slice (cutAt A n i) n n) ∧ RS w0 w' g A c b (i + n : Nat) e 0 0 ∧ Only w w' g := by
  have H := Aside0.mk h
  have HO := Aside0.mk (Only.refl w g)
  have h0 := h.c0
  have h1 := h.c1
  have h2 := h.c2
  have hw : IntKind.i64.wrap ((e : Int) - i) = (e : Int) - i := IntWalk.i64_in _ (by have := h.len; have := h.e_; have := h.at_; omega)
  have hw2 : IntKind.i64.wrap ((i : Int) + n) = (i : Int) + n := IntWalk.i64_in _ (by have := h.len; have := h.e_; omega)
  have hd : decide ((n : Int) > (e : Int) - i) = false := decide_eq_false (by omega)
  have hsl : ∀ W : World, (Instr.slice 37 (.slice A b.length c) (some (.int .i64 (i : Int))) (some (.int .i64 ((i : Int) + n))) (some (.int .i64 ((i : Int) + n)))).run Try.prog W = .ok (.slice (cutAt A n i) n n) W := by
    intro W
    have hl := h.len
    have he := h.e_
    have hc := h.cap
    rw [run_slice_lhm (P := Try.prog) W 37 A b.length c (by kernel_rfl) .i64 .i64 .i64 (i : Int) ((i : Int) + n) ((i : Int) + n) (by omega) (by omega) (by omega) (by omega)]
    rw [show (sizeOf (Try.prog.elem 37)).run Try.prog W = .ok 1 W by kernel_rfl]
    have e1 : ((i : Int) + n).toNat = i + n := by omega
    rw [Result.andThen_ok, e1, Int.toNat_natCast, sliced, cutAt, Nat.add_sub_cancel_left]
    by_cases h0 : n = 0
    · rw [if_pos (by omega), if_pos h0]
    · rw [if_neg (by omega), if_neg h0]
  clear h
  go_enter Try.func88, Try.ntmps88
  go_wp2
  go_quiet ((go_at_call 54; exact Calls.quiet_of_same (bad_same w0 _ g A c b i e 0 0 false (H.out.drew _) rfl)))
  have n1_ := Aside0.mk (H.out.drew nq)
  have n2_ := Aside0.mk (Only.of_below (pw_below_drewN (Below.refl w.heap.size w) nq) g)
  clear H HO
  have H := n1_
  have HO := n2_
  clear n1_ n2_
  clear h0 h1 h2
  generalize w.drewN nq = w1 at *
  clear nq
  have h0 := H.out.c0
  have h1 := H.out.c1
  go_wp2
  go_quiet (fail)
  have n1_ := Aside0.mk (H.out.drew nq)
  have n2_ := Aside0.mk (HO.out.trans (Only.of_below (pw_below_drewN (Below.refl w1.heap.size w1) nq) g))
  clear H HO h0 h1
  have H := n1_
  have HO := n2_
  clear n1_ n2_
  generalize w1.drewN nq = w2 at *
  clear nq
  have h1 := H.out.c1
  go_wp2_with (first
    | ((with_reducible refine gate_store (t := 3) (p := 55) rfl ?_); refine put_event rfl rfl 3 (.tmp 55) (.tmp 53) rfl (off := 1) (u := .int .i64 (i + n : Nat)) (seg := [.int .i64 (i + n : Nat)]) rfl rfl H.out.row rfl (by kernel_rfl) (by simp) (by simp [Value.oneCell']) ?_; intro w2 hrow hgr; have n1_ := Aside0.mk (H.out.set (i' := i + n) (fa' := 0) (fc' := 0) hrow hgr hs); have n2_ := Aside0.mk (HO.out.trans (Only.of_grown hgr)); clear H HO hrow hgr; have H := n1_; have HO := n2_; clear n1_ n2_))
  go_ret
  exact ⟨rfl, H.out, HO.out⟩
/-- What take gives, read. -/
theorem cut_reads {w0 : World} {A : Option Addr} {b : List Int} {i n : Nat} (h : Kd.C (Kd.int .u8) w0 A b.length b) (hs : i + n ≤ b.length) : Kd.C (Kd.int .u8) w0 (cutAt A n i) n ((b.drop i).take n) := by
  refine ⟨by rw [List.length_take, List.length_drop]; omega, by have := h.2.1; omega, fun hn => ?_⟩
  obtain ⟨ad, rfl, hc⟩ := h.2.2 (by omega)
  refine ⟨ad.add (i * 1), by rw [cutAt, if_neg (by omega)]; rfl, fun j p hj => ?_⟩
  have hj' : b[i + j]? = some p := by
    rw [List.getElem?_take] at hj
    split at hj
    · rwa [List.getElem?_drop] at hj
    · cases hj
  obtain ⟨cs, h1, h2, h3⟩ := hc (i + j) p hj'
  refine ⟨cs, h1, h2, fun q u hq => ?_⟩
  have := h3 q u hq
  rw [add_add, show i * 1 + (j * (Kd.int IntKind.u8).sz + q) = (i + j) * (Kd.int IntKind.u8).sz + q from ?_]
  · exact this
  · show i * 1 + (j * 1 + q) = (i + j) * 1 + q
    omega
end
end Go.Proofs.Ytebiogaacikphaa.Pack
end
section
namespace Go.Proofs.Ytebiogaacikphaa.Bits
open Go.RowKit Go.Proofs.YtebiogaacikphaaW.PrintWords
theorem wrap_u (k : IntKind) (hs : k.signed = false) (n : Nat) (h : n < 2 ^ k.bits) : k.wrap (n : Int) = (n : Int) := by
  have h' : ((n : Int) % 2 ^ k.bits) = n := Int.emod_eq_of_lt (by omega) (by exact_mod_cast h)
  unfold IntKind.wrap
  simp [hs, h']
theorem wrap_u64 (x : Int) (h0 : 0 ≤ x) (h : x < 18446744073709551616) : IntKind.u64.wrap x = x := by
  obtain ⟨n, rfl⟩ := Int.eq_ofNat_of_zero_le h0
  exact wrap_u .u64 rfl n (by show n < 2 ^ 64; omega)
theorem ofInt_nat (w n : Nat) : BitVec.ofInt w (n : Int) = BitVec.ofNat w n := BitVec.ofInt_natCast ..
theorem bits_or (k : IntKind) (hs : k.signed = false) (x y : Nat) (hx : x < 2 ^ k.bits) (hy : y < 2 ^ k.bits) : Go.bits .or k (x : Int) (y : Int) = ((x ||| y : Nat) : Int) := by
  unfold Go.bits
  simp only [ofInt_nat, BitVec.toNat_or, BitVec.toNat_ofNat, Nat.mod_eq_of_lt hx, Nat.mod_eq_of_lt hy]
  exact wrap_u k hs _ (Nat.or_lt_two_pow hx hy)
theorem bits_and (k : IntKind) (hs : k.signed = false) (x y : Nat) (hx : x < 2 ^ k.bits) (hy : y < 2 ^ k.bits) : Go.bits .and k (x : Int) (y : Int) = ((x &&& y : Nat) : Int) := by
  unfold Go.bits
  simp only [ofInt_nat, BitVec.toNat_and, BitVec.toNat_ofNat, Nat.mod_eq_of_lt hx, Nat.mod_eq_of_lt hy]
  exact wrap_u k hs _ (Nat.and_lt_two_pow _ hy)
theorem or_add (n m i : Nat) (h : n < 2 ^ i) : n ||| m * 2 ^ i = n + m * 2 ^ i := by
  have := Nat.two_pow_add_eq_or_of_lt h m
  rw [Nat.mul_comm m, Nat.or_comm, ← this, Nat.add_comm]
theorem and_127 (x : Nat) : x &&& 127 = x % 128 := Nat.and_two_pow_sub_one_eq_mod x 7
end Go.Proofs.Ytebiogaacikphaa.Bits
end
section
namespace Go.Proofs.Ytebiogaacikphaa.Pack
open Go.RowKit Go.Proofs.YtebiogaacikphaaW.PrintWords Go.Proofs.Ytebiogaacikphaa.PAll
set_option linter.unusedVariables false
set_option linter.unusedSimpArgs false
/-- A count at the front of what is left: number and rest, or fault; k bytes of it were read, n told. -/
def cntL (e fr : Nat) : Nat → Int → List Int → Except (Int × Int) (Int × List Int)
  | _, _, [] => .error (e, 200)
  | k, n, x :: r =>
    if 128 ≤ x then cntL e fr (k + 1) (if k < 5 then n + x % 128 * 128 ^ k else n) r
    else if 4 < k ∨ (x = 0 ∧ 0 < k) ∨ 2147483647 < (if k < 5 then n + x % 128 * 128 ^ k else n) then .error (fr, 204)
    else .ok (if k < 5 then n + x % 128 * 128 ^ k else n, r)
theorem cntL_nonneg (e fr : Nat) : ∀ (l : List Int) (k : Nat) (n v : Int) (r : List Int), (∀ x ∈ l, 0 ≤ x ∧ x < 256) → 0 ≤ n → cntL e fr k n l = .ok (v, r) → 0 ≤ v
  | [], _, _, _, _, _, _, h => by cases h
  | x :: l, k, n, v, r, hb, hn, h => by
    have hx := hb x List.mem_cons_self
    have hp : (0 : Int) ≤ x % 128 * 128 ^ k := Int.mul_nonneg (by omega) (Int.pow_nonneg (by decide))
    have hn' : 0 ≤ (if k < 5 then n + x % 128 * 128 ^ k else n) := by split <;> omega
    rw [cntL] at h
    generalize (if k < 5 then n + x % 128 * 128 ^ k else n) = N at h hn'
    split at h
    · exact cntL_nonneg e fr l (k + 1) _ v r (fun y hy => hb y (List.mem_cons_of_mem _ hy)) hn' h
    · split at h
      · cases h
      · injection h with h
        injection h with h _
        rw [← h]
        exact hn'
/-- What is left to read, or the fault. -/
def St (w0 W : World) (g : Nat) (A : Option Addr) (c : Nat) (b : List Int) (e : Nat) : Except (Int × Int) (List Int) → Prop
  | .ok r => ∃ i, RS w0 W g A c b i e 0 0 ∧ r = (b.take e).drop i
  | .error f => ∃ i, f.2 ≠ 0 ∧ RS w0 W g A c b i e f.1 f.2
theorem cnt_bits (k : Nat) (n x : Int) (hk : k < 5) (hn : 0 ≤ n ∧ n < 128 ^ min k 5) (hx : 0 ≤ x ∧ x < 256) :
    Go.bits .or .u64 n (IntKind.u64.wrap (IntKind.u64.wrap (Go.bits .and .u8 x 127) * 2 ^ (7 * k))) = n + x % 128 * 128 ^ k ∧ n + x % 128 * 128 ^ k < 128 ^ (k + 1) := by
  obtain ⟨m, rfl⟩ := Int.eq_ofNat_of_zero_le hn.1
  obtain ⟨y, rfl⟩ := Int.eq_ofNat_of_zero_le hx.1
  have hy : y < 256 := by omega
  rw [Nat.min_eq_left (by omega)] at hn
  have hm : m < 128 ^ k := by exact_mod_cast hn.2
  have hp : 128 ^ k ≤ 128 ^ 4 := Nat.pow_le_pow_right (by decide) (by omega)
  have h27 : (2 : Nat) ^ (7 * k) = 128 ^ k := by rw [Nat.pow_mul]
  have ha : Go.bits .and .u8 (y : Int) 127 = ((y % 128 : Nat) : Int) := by
    have := Bits.bits_and .u8 rfl y 127 hy (by decide)
    rw [Bits.and_127] at this
    exact this
  have hw : IntKind.u64.wrap ((y % 128 : Nat) : Int) = ((y % 128 : Nat) : Int) := Bits.wrap_u .u64 rfl _ (by show _ < 2 ^ 64; omega)
  have hprod : (y % 128) * 128 ^ k < 128 * 128 ^ 4 := Nat.lt_of_lt_of_le (Nat.mul_lt_mul_of_pos_right (show y % 128 < 128 by omega) (Nat.pow_pos (by decide))) (Nat.mul_le_mul_left _ hp)
  have hs : IntKind.u64.wrap (((y % 128 : Nat) : Int) * 2 ^ (7 * k)) = (((y % 128) * 128 ^ k : Nat) : Int) := by
    have e : (((y % 128 : Nat) : Int) * 2 ^ (7 * k)) = (((y % 128) * 128 ^ k : Nat) : Int) := by rw [← h27]; push_cast; rfl
    rw [e]
    exact Bits.wrap_u .u64 rfl _ (by show _ < 2 ^ 64; omega)
  have ho : m ||| (y % 128) * 128 ^ k = m + (y % 128) * 128 ^ k := by
    rw [← h27]
    exact Bits.or_add m (y % 128) (7 * k) (by rw [h27]; exact hm)
  rw [ha, hw, hs]
  have hb := Bits.bits_or .u64 rfl m ((y % 128) * 128 ^ k) (by show _ < 2 ^ 64; omega) (by show _ < 2 ^ 64; omega)
  rw [hb, ho]
  refine ⟨by push_cast; rfl, ?_⟩
  have h1 : (y % 128) * 128 ^ k ≤ 127 * 128 ^ k := Nat.mul_le_mul_right _ (by omega)
  have h2 : m + (y % 128) * 128 ^ k < 128 ^ (k + 1) := by rw [Nat.pow_succ]; omega
  exact_mod_cast h2
theorem left_cons {b : List Int} {e i : Nat} (h : i < e) (he : e ≤ b.length) : (b.take e).drop i = b[i] :: (b.take e).drop (i + 1) := by
  rw [List.drop_eq_getElem_cons (by rw [List.length_take]; omega), List.getElem_take]
theorem left_nil {b : List Int} {e i : Nat} (h : e ≤ i) : (b.take e).drop i = [] := List.drop_of_length_le (by rw [List.length_take]; omega)
section
variable (w0 w : World) (g : Nat) (A : Option Addr) (c : Nat) (b : List Int) (i e : Nat)
theorem add_zero_ (ad : Addr) : ad.add 0 = ad := by
  cases ad
  simp [Addr.add]
theorem take_one (h : RS w0 w g A c b i e 0 0) (hi : i < e) (hb : i < b.length) : ∃ ad, w0.cell? ad = some (.int .u8 b[i]) ∧ Calls Try.prog 88 #[.pointer (some ⟨g, 0, none⟩), .int .i64 1] w fun x w' => x = .returned (.slice (some ad) 1 1) ∧ RS w0 w' g A c b (i + 1) e 0 0 ∧ Only w w' g := by
  have hr := cut_reads (i := i) (n := 1) h.rd (by omega)
  obtain ⟨ad, h1, h2⟩ := Kd.at_int (n := 1) hr 0 (by omega) (by omega)
  refine ⟨ad, ?_, ?_⟩
  · rw [rd] at h2
    rw [show ((0 : Int)).toNat = 0 from rfl, add_zero_] at h2
    simpa [List.getElem?_eq_getElem hb] using h2
  · have := take_ok w0 w g A c b i e 1 h hi
    rw [h1] at this
    exact this
set_option maxHeartbeats 1000000 in
set_option maxRecDepth 100000 in
theorem count_ok (h : RS w0 w g A c b i e 0 0) (hby : ∀ x ∈ b, 0 ≤ x ∧ x < 256) : Calls Try.prog 89 #[.pointer (some ⟨g, 0, none⟩)] w fun x w' => ∃ v, x = .returned (.int .i64 v) ∧ St w0 w' g A c b e ((cntL e i 0 0 ((b.take e).drop i)).map (·.2)) ∧ Only w w' g ∧ (∀ n r, cntL e i 0 0 ((b.take e).drop i) = .ok (n, r) → v = n) ∧ (∀ f, cntL e i 0 0 ((b.take e).drop i) = .error f → v = 0) := by
  have H := Aside0.mk h
  have HO := Aside0.mk (Only.refl w g)
  have HY := Aside0.mk hby
  have h1 := h.c1
  clear h hby
  generalize hres : cntL e i 0 0 ((b.take e).drop i) = res
  have HRES := Aside0.mk hres
  clear hres
  go_enter Try.func89, Try.ntmps89
  go_wp2
  go_loopw [4, 5] (fun vn vk wr => ∃ (k : Nat) (n : Int) (j : Nat), vn = .int .u64 n ∧ vk = .int .i64 k ∧ Aside0 (RS w0 wr g A c b j e 0 0) ∧ Aside0 (Only w wr g) ∧ Aside0 (cntL e i k n ((b.take e).drop j) = res) ∧ Aside0 (0 ≤ n ∧ n < 128 ^ (min k 5)) ∧ Aside0 (k ≤ j)) (fun vn vk wr => match wr.cell? ⟨g, 1, none⟩ with | some (.int .i64 q) => e - q.toNat | _ => 0)
  case atStart => exact ⟨0, 0, i, rfl, rfl, H, HO, HRES, ⟨by simp⟩, ⟨Nat.zero_le _⟩⟩
  case round =>
    clear HRES H HO h1
    obtain ⟨k, n, j, rfl, rfl, H, HO, HRES, HN, HK⟩ := hrel
    have HM := Aside0.mk H.out.c1
    rcases Nat.lt_or_ge j e with c1 | c1
    · have hb := H.out.e_
      have kb : (k : Int) ≤ 140737488351232 := by have := HK.out; have := H.out.len; omega
      have c2 : j < b.length := by omega
      obtain ⟨ad, hx, htake⟩ := take_one w0 wr g A c b j e H.out c1 c2
      have HT := Aside0.mk htake
      have HX := Aside0.mk hx
      have hby := HY.out b[j] (List.getElem_mem _)
      have hres := HRES.out
      rw [left_cons c1 hb, cntL] at hres
      clear htake hx HRES
      generalize b[j] = x at *
      by_cases k5 : k < 5
      · obtain ⟨hbit, hlt⟩ := cnt_bits k n x k5 HN.out hby
        rw [if_pos k5] at hres
        have HBIT := Aside0.mk hbit
        have HLT := Aside0.mk hlt
        have b1 : decide ((k : Int) < 5) = true := decide_eq_true (by omega)
        have b4 : decide ((k : Int) > 4) = false := decide_eq_false (by omega)
        have hp := (HN.out).1
        have hxm : 0 ≤ x % 128 * 128 ^ k := Int.mul_nonneg (by omega) (Int.pow_nonneg (by decide))
        have HP := Aside0.mk (show 0 ≤ n + x % 128 * 128 ^ k by omega)
        generalize n + x % 128 * 128 ^ k = nn at *
        clear hbit hlt hp hxm
        by_cases x128 : 128 ≤ x
        · rw [if_pos x128] at hres
          have HRES := Aside0.mk hres
          have b2 : decide (x ≥ 128) = true := decide_eq_true x128
          clear hres
          go_wp2_with (first
          | (go_at_call 88; refine HT.out.mono ?_; rintro xx w1 ⟨rfl, hq1, hq2⟩; have n1_ := Aside0.mk hq1; have n2_ := Aside0.mk (HO.out.trans hq2); clear H HO hq1 hq2; have H := n1_; have HO := n2_; clear n1_ n2_; have hx := (H.out.old.cell (World.block_lt_of_cell? w0 _ HX.out)).trans HX.out)
          | (go_at_call 54; refine (bad_same w0 _ g A c b _ e 0 0 false H.out rfl).mono ?_; rintro xx w1 ⟨rfl, rfl⟩)
          | (go_at_call 55; refine (fail_ok w0 _ g A c b _ e _ _ H.out).mono ?_; rintro xx w1 ⟨rfl, hq1, hq2⟩; have n1_ := Aside0.mk hq1; have n2_ := Aside0.mk (HO.out.trans hq2); clear H HO hq1 hq2 hx; have H := n1_; have HO := n2_; clear n1_ n2_))
          go_roundw
          case measure =>
            have hm1 := H.out.c1
            rw [hm1, HM.out]
            simp only [Int.toNat_natCast]
            omega
          case rel => exact ⟨k + 1, nn, j + 1, by rw [HBIT.out], by go_num, H, HO, HRES, ⟨HP.out, by rw [show min (k + 1) 5 = k + 1 by omega]; exact HLT.out⟩, ⟨by have := HK.out; omega⟩⟩
        rw [if_neg x128] at hres
        have b2 : decide (x ≥ 128) = false := decide_eq_false x128
        by_cases x0 : x = 0
        · subst x0
          by_cases k0 : 0 < k
          · rw [if_pos (.inr (.inl ⟨rfl, k0⟩))] at hres
            have b6 : decide ((k : Int) > 0) = true := decide_eq_true (by omega)
            go_wp2_with (first
          | (go_at_call 88; refine HT.out.mono ?_; rintro xx w1 ⟨rfl, hq1, hq2⟩; have n1_ := Aside0.mk hq1; have n2_ := Aside0.mk (HO.out.trans hq2); clear H HO hq1 hq2; have H := n1_; have HO := n2_; clear n1_ n2_; have hx := (H.out.old.cell (World.block_lt_of_cell? w0 _ HX.out)).trans HX.out)
          | (go_at_call 54; refine (bad_same w0 _ g A c b _ e 0 0 false H.out rfl).mono ?_; rintro xx w1 ⟨rfl, rfl⟩)
          | (go_at_call 55; refine (fail_ok w0 _ g A c b _ e _ _ H.out).mono ?_; rintro xx w1 ⟨rfl, hq1, hq2⟩; have n1_ := Aside0.mk hq1; have n2_ := Aside0.mk (HO.out.trans hq2); clear H HO hq1 hq2 hx; have H := n1_; have HO := n2_; clear n1_ n2_))
            go_ret
            subst hres
            exact ⟨0, rfl, ⟨_, by simp, H.out⟩, HO.out, (fun _ _ h => by cases h), (fun _ _ => rfl)⟩
          · have hk0 : k = 0 := by omega
            subst hk0
            have hn0 : n = 0 := by have := HN.out; simp at this; omega
            subst hn0
            have hnn : nn = 0 := by rw [← HBIT.out]; decide
            subst hnn
            rw [if_neg (by omega)] at hres
            clear HBIT HLT HN
            go_wp2_with (first
          | (go_at_call 88; refine HT.out.mono ?_; rintro xx w1 ⟨rfl, hq1, hq2⟩; have n1_ := Aside0.mk hq1; have n2_ := Aside0.mk (HO.out.trans hq2); clear H HO hq1 hq2; have H := n1_; have HO := n2_; clear n1_ n2_; have hx := (H.out.old.cell (World.block_lt_of_cell? w0 _ HX.out)).trans HX.out)
          | (go_at_call 54; refine (bad_same w0 _ g A c b _ e 0 0 false H.out rfl).mono ?_; rintro xx w1 ⟨rfl, rfl⟩)
          | (go_at_call 55; refine (fail_ok w0 _ g A c b _ e _ _ H.out).mono ?_; rintro xx w1 ⟨rfl, hq1, hq2⟩; have n1_ := Aside0.mk hq1; have n2_ := Aside0.mk (HO.out.trans hq2); clear H HO hq1 hq2 hx; have H := n1_; have HO := n2_; clear n1_ n2_))
            go_ret
            subst hres
            exact ⟨_, rfl, ⟨j + 1, H.out, rfl⟩, HO.out, (fun n r h => by injection h with h; injection h with h1 h2; rw [← h1]; decide +kernel), (fun f h => by cases h)⟩
        by_cases big : 2147483647 < nn
        · rw [if_pos (.inr (.inr big))] at hres
          have b7 : decide (Go.bits .or .u64 n (IntKind.u64.wrap (IntKind.u64.wrap (Go.bits .and .u8 x 127) * 2 ^ (7 * k))) > 2147483647) = true := by rw [HBIT.out]; exact decide_eq_true big
          have b5 : (x == 0) = false := by simp [x0]
          go_wp2_with (first
          | (go_at_call 88; refine HT.out.mono ?_; rintro xx w1 ⟨rfl, hq1, hq2⟩; have n1_ := Aside0.mk hq1; have n2_ := Aside0.mk (HO.out.trans hq2); clear H HO hq1 hq2; have H := n1_; have HO := n2_; clear n1_ n2_; have hx := (H.out.old.cell (World.block_lt_of_cell? w0 _ HX.out)).trans HX.out)
          | (go_at_call 54; refine (bad_same w0 _ g A c b _ e 0 0 false H.out rfl).mono ?_; rintro xx w1 ⟨rfl, rfl⟩)
          | (go_at_call 55; refine (fail_ok w0 _ g A c b _ e _ _ H.out).mono ?_; rintro xx w1 ⟨rfl, hq1, hq2⟩; have n1_ := Aside0.mk hq1; have n2_ := Aside0.mk (HO.out.trans hq2); clear H HO hq1 hq2 hx; have H := n1_; have HO := n2_; clear n1_ n2_))
          go_ret
          subst hres
          exact ⟨0, rfl, ⟨_, by simp, H.out⟩, HO.out, (fun _ _ h => by cases h), (fun _ _ => rfl)⟩
        · rw [if_neg (by rintro (h | h | h); omega; exact x0 h.1; exact big h)] at hres
          have b7 : decide (Go.bits .or .u64 n (IntKind.u64.wrap (IntKind.u64.wrap (Go.bits .and .u8 x 127) * 2 ^ (7 * k))) > 2147483647) = false := by rw [HBIT.out]; exact decide_eq_false big
          have b5 : (x == 0) = false := by simp [x0]
          go_wp2_with (first
          | (go_at_call 88; refine HT.out.mono ?_; rintro xx w1 ⟨rfl, hq1, hq2⟩; have n1_ := Aside0.mk hq1; have n2_ := Aside0.mk (HO.out.trans hq2); clear H HO hq1 hq2; have H := n1_; have HO := n2_; clear n1_ n2_; have hx := (H.out.old.cell (World.block_lt_of_cell? w0 _ HX.out)).trans HX.out)
          | (go_at_call 54; refine (bad_same w0 _ g A c b _ e 0 0 false H.out rfl).mono ?_; rintro xx w1 ⟨rfl, rfl⟩)
          | (go_at_call 55; refine (fail_ok w0 _ g A c b _ e _ _ H.out).mono ?_; rintro xx w1 ⟨rfl, hq1, hq2⟩; have n1_ := Aside0.mk hq1; have n2_ := Aside0.mk (HO.out.trans hq2); clear H HO hq1 hq2 hx; have H := n1_; have HO := n2_; clear n1_ n2_))
          have hv : wrap64 (Go.bits .or .u64 n (IntKind.u64.wrap (IntKind.u64.wrap (Go.bits .and .u8 x 127) * 2 ^ (7 * k)))) = nn := by
            rw [HBIT.out]
            exact w64 (by have := HP.out; omega) (by omega)
          go_ret
          subst hres
          exact ⟨_, rfl, ⟨j + 1, H.out, rfl⟩, HO.out, (fun n r h => by injection h with h; injection h with h1 h2; rw [← h1]; exact hv), (fun f h => by cases h)⟩
      · rw [if_neg k5] at hres
        have b1 : decide ((k : Int) < 5) = false := decide_eq_false (by omega)
        have b4 : decide ((k : Int) > 4) = true := decide_eq_true (by omega)
        by_cases x128 : 128 ≤ x
        · rw [if_pos x128] at hres
          have HRES := Aside0.mk hres
          have b2 : decide (x ≥ 128) = true := decide_eq_true x128
          clear hres
          go_wp2_with (first
          | (go_at_call 88; refine HT.out.mono ?_; rintro xx w1 ⟨rfl, hq1, hq2⟩; have n1_ := Aside0.mk hq1; have n2_ := Aside0.mk (HO.out.trans hq2); clear H HO hq1 hq2; have H := n1_; have HO := n2_; clear n1_ n2_; have hx := (H.out.old.cell (World.block_lt_of_cell? w0 _ HX.out)).trans HX.out)
          | (go_at_call 54; refine (bad_same w0 _ g A c b _ e 0 0 false H.out rfl).mono ?_; rintro xx w1 ⟨rfl, rfl⟩)
          | (go_at_call 55; refine (fail_ok w0 _ g A c b _ e _ _ H.out).mono ?_; rintro xx w1 ⟨rfl, hq1, hq2⟩; have n1_ := Aside0.mk hq1; have n2_ := Aside0.mk (HO.out.trans hq2); clear H HO hq1 hq2 hx; have H := n1_; have HO := n2_; clear n1_ n2_))
          go_roundw
          case measure =>
            have hm1 := H.out.c1
            rw [hm1, HM.out]
            simp only [Int.toNat_natCast]
            omega
          case rel => exact ⟨k + 1, n, j + 1, rfl, by go_num, H, HO, HRES, ⟨HN.out.1, by have := HN.out.2; rw [show min k 5 = 5 by omega] at this; rw [show min (k + 1) 5 = 5 by omega]; exact this⟩, ⟨by have := HK.out; omega⟩⟩
        · rw [if_neg x128, if_pos (.inl (by omega))] at hres
          have b2 : decide (x ≥ 128) = false := decide_eq_false x128
          go_wp2_with (first
          | (go_at_call 88; refine HT.out.mono ?_; rintro xx w1 ⟨rfl, hq1, hq2⟩; have n1_ := Aside0.mk hq1; have n2_ := Aside0.mk (HO.out.trans hq2); clear H HO hq1 hq2; have H := n1_; have HO := n2_; clear n1_ n2_; have hx := (H.out.old.cell (World.block_lt_of_cell? w0 _ HX.out)).trans HX.out)
          | (go_at_call 54; refine (bad_same w0 _ g A c b _ e 0 0 false H.out rfl).mono ?_; rintro xx w1 ⟨rfl, rfl⟩)
          | (go_at_call 55; refine (fail_ok w0 _ g A c b _ e _ _ H.out).mono ?_; rintro xx w1 ⟨rfl, hq1, hq2⟩; have n1_ := Aside0.mk hq1; have n2_ := Aside0.mk (HO.out.trans hq2); clear H HO hq1 hq2 hx; have H := n1_; have HO := n2_; clear n1_ n2_))
          go_ret
          subst hres
          exact ⟨0, rfl, ⟨_, by simp, H.out⟩, HO.out, (fun _ _ h => by cases h), (fun _ _ => rfl)⟩
    · have c2 : j = e := by have := H.out.at_; omega
      subst c2
      have hres := HRES.out
      rw [left_nil (Nat.le_refl _), cntL] at hres
      have HT := Aside0.mk (take_short w0 wr g A c b j j 1 (by omega) H.out (by omega))
      go_wp2_with (first
          | (go_at_call 88; refine HT.out.mono ?_; rintro xx w1 ⟨rfl, hq1, hq2⟩; have n1_ := Aside0.mk hq1; have n2_ := Aside0.mk (HO.out.trans hq2); clear H HO hq1 hq2; have H := n1_; have HO := n2_; clear n1_ n2_)
          | (go_at_call 54; refine (bad_same w0 _ g A c b _ _ _ 200 true H.out rfl).mono ?_; rintro xx w1 ⟨rfl, rfl⟩))
      go_ret
      subst hres
      exact ⟨0, rfl, ⟨_, by simp, H.out⟩, HO.out, (fun _ _ h => by cases h), (fun _ _ => rfl)⟩
theorem count_bad (fa fc : Int) (h : RS w0 w g A c b i e fa fc) (hc : fc ≠ 0) : Calls Try.prog 89 #[.pointer (some ⟨g, 0, none⟩)] w fun x w' => x = .returned (.int .i64 0) ∧ RS w0 w' g A c b i e fa fc ∧ Only w w' g := by
  have H := Aside0.mk h
  have HO := Aside0.mk (Only.refl w g)
  have HC := Aside0.mk hc
  have HB := Aside0.mk (show (fc != 0) = true by simpa using hc)
  have h1 := h.c1
  clear h hc
  go_enter Try.func89, Try.ntmps89
  go_wp2
  refine wp_loop_once ?_
  go_wp2_with (first
    | (go_at_call 88; refine (take_bad w0 _ g A c b i e fa fc 1 H.out HC.out).mono ?_; rintro xx w1 ⟨rfl, hq1, hq2⟩; have n1_ := Aside0.mk hq1; have n2_ := Aside0.mk (HO.out.trans hq2); clear H HO hq1 hq2; have H := n1_; have HO := n2_; clear n1_ n2_)
    | (go_at_call 54; refine (bad_same w0 _ g A c b _ e fa fc true H.out HB.out).mono ?_; rintro xx w1 ⟨rfl, rfl⟩))
  go_ret
  exact ⟨rfl, H.out, HO.out⟩
/-- A count, at most 2^16. -/
def manyL (e fr : Nat) (l : List Int) : Except (Int × Int) (Int × List Int) := match cntL e fr 0 0 l with
  | .error f => .error f
  | .ok (n, r) => if 65536 < n then .error (fr, 204) else .ok (n, r)
theorem manyL_range {e fr : Nat} {l : List Int} (hb : ∀ x ∈ l, 0 ≤ x ∧ x < 256) {n : Int} {r : List Int} (h : manyL e fr l = .ok (n, r)) : 0 ≤ n ∧ n ≤ 65536 := by
  unfold manyL at h
  split at h
  · cases h
  · rename_i v r' hc
    have h0 := cntL_nonneg e fr l 0 0 v r' hb (by omega) hc
    split at h
    · cases h
    · injection h with h
      injection h with h1 _
      omega
theorem many_ok (h : RS w0 w g A c b i e 0 0) (hby : ∀ x ∈ b, 0 ≤ x ∧ x < 256) : Calls Try.prog 87 #[.pointer (some ⟨g, 0, none⟩)] w fun x w' => ∃ v, x = .returned (.int .i64 v) ∧ St w0 w' g A c b e ((manyL e i ((b.take e).drop i)).map (·.2)) ∧ Only w w' g ∧ (∀ n r, manyL e i ((b.take e).drop i) = .ok (n, r) → v = n) ∧ (∀ f, manyL e i ((b.take e).drop i) = .error f → v = 0) := by
  have HCO := Aside0.mk (count_ok w0 w g A c b i e h hby)
  have h1 := h.c1
  clear h hby
  unfold manyL
  generalize cntL e i 0 0 ((b.take e).drop i) = res at *
  match res with
  | .error f =>
    go_enter Try.func87, Try.ntmps87
    go_wp2_with (first
      | (go_at_call 89; refine HCO.out.mono ?_; rintro xx w1 ⟨v, rfl, hq1, hq2, hq3, hq4⟩; obtain rfl := hq4 f rfl; have H := Aside0.mk hq1; have HO := Aside0.mk hq2; clear hq1 hq2 hq3 hq4))
    go_ret
    exact ⟨0, rfl, H.out, HO.out, (fun _ _ h => by cases h), (fun _ _ => rfl)⟩
  | .ok (n, r) =>
    by_cases big : 65536 < n
    · have b1 : decide (n > 65536) = true := decide_eq_true big
      dsimp only
      simp only [if_pos big]
      go_enter Try.func87, Try.ntmps87
      go_wp2_with (first
        | (go_at_call 89; refine HCO.out.mono ?_; rintro xx w1 ⟨v, rfl, hq1, hq2, hq3, hq4⟩; obtain rfl := hq3 n r rfl; obtain ⟨j, hrs, _⟩ := hq1; have H := Aside0.mk hrs; have HO := Aside0.mk hq2; clear hq2 hq3 hq4 hrs)
        | (go_at_call 55; refine (fail_ok w0 _ g A c b _ e _ _ H.out).mono ?_; rintro xx w1 ⟨rfl, hq1, hq2⟩; have n1_ := Aside0.mk hq1; have n2_ := Aside0.mk (HO.out.trans hq2); clear H HO hq1 hq2; have H := n1_; have HO := n2_; clear n1_ n2_))
      go_ret
      exact ⟨0, rfl, ⟨_, by simp, H.out⟩, HO.out, (fun _ _ h => by cases h), (fun _ _ => rfl)⟩
    · have b1 : decide (n > 65536) = false := decide_eq_false big
      dsimp only
      simp only [if_neg big]
      go_enter Try.func87, Try.ntmps87
      go_wp2_with (first
        | (go_at_call 89; refine HCO.out.mono ?_; rintro xx w1 ⟨v, rfl, hq1, hq2, hq3, hq4⟩; obtain rfl := hq3 n r rfl; have H := Aside0.mk hq1; have HO := Aside0.mk hq2; clear hq1 hq2 hq3 hq4))
      go_ret
      exact ⟨_, rfl, H.out, HO.out, (fun n r h => by injection h with h; injection h), (fun f h => by cases h)⟩
theorem many_bad (fa fc : Int) (h : RS w0 w g A c b i e fa fc) (hc : fc ≠ 0) : Calls Try.prog 87 #[.pointer (some ⟨g, 0, none⟩)] w fun x w' => x = .returned (.int .i64 0) ∧ RS w0 w' g A c b i e fa fc ∧ Only w w' g := by
  have HCO := Aside0.mk (count_bad w0 w g A c b i e fa fc h hc)
  have h1 := h.c1
  clear h hc
  go_enter Try.func87, Try.ntmps87
  go_wp2_with (first
    | (go_at_call 89; refine HCO.out.mono ?_; rintro xx w1 ⟨rfl, hq1, hq2⟩; have H := Aside0.mk hq1; have HO := Aside0.mk hq2; clear hq1 hq2))
  go_ret
  exact ⟨rfl, H.out, HO.out⟩
end
end Go.Proofs.Ytebiogaacikphaa.Pack
end
section
namespace Go.Proofs.YtebiogaacikphaaW.PrintWords
open Go.RowKit Go.MapKept
section
variable {P : Program}
abbrev Four := Int × Int × Int × Int
def encFour (k : IntKind) (x : Four) : Value := .agg #[.int k x.1, .int k x.2.1, .int k x.2.2.1, .int k x.2.2.2]
theorem four_keys {t et : TypeId} {k : IntKind} (ht : P.underlying t = some (.array 4 et)) (he : P.underlying et = some (.int k)) (hi : (P.info? et).map (·.size) = some 1) : KeyKind P t (encFour k) where
  check := fun b x w => by
    obtain ⟨i, hi, hz⟩ := Option.map_eq_some_iff.1 hi
    have hs : ∀ w, (sizeOf et).run P w = .ok 1 w := fun w => by simp [sizeOf, typeInfo, hi, hz]
    have hg : ∀ w, (isAgg et).run P w = .ok false w := fun w => by simp [isAgg, run_underlying he]
    have hl : List.range' 0 4 1 = [0, 1, 2, 3] := rfl
    have hc : ∀ (y : Int) (w : World), (Instr.checkKey b 9999 et (.int k y)).run P w = .ok () w := fun y w => by
      rw [show (9999 : Nat) = 9998 + 1 from rfl, Instr.checkKey]
      simp [Sem.run_bind, run_underlying he]
    rw [show (10000 : Nat) = 9999 + 1 from rfl, Instr.checkKey]
    simp [encFour, Sem.run_bind, run_underlying ht, Result.andThen_ok, hs, Std.Legacy.Range.forIn_eq_forIn_range', Std.Legacy.Range.size, hl, part, hg, hc]
  find := fun x l es w h => by
    have eq : ∀ (x y : Four) (w : World), (Op.equal t (encFour k x) (encFour k y)).run P w = .ok (decide (x = y)) w := fun x y w => by
      have := eqArr4 (P := P) ht he hi 9998 w x.1 y.1 x.2.1 y.2.1 x.2.2.1 y.2.2.1 x.2.2.2 y.2.2.2
      have hb : decide (x = y) = (x.1 == y.1 && (x.2.1 == y.2.1 && (x.2.2.1 == y.2.2.1 && x.2.2.2 == y.2.2.2))) := by
        obtain ⟨x0, x1, x2, x3⟩ := x
        obtain ⟨y0, y1, y2, y3⟩ := y
        by_cases h0 : x0 = y0 <;> by_cases h1 : x1 = y1 <;> by_cases h2 : x2 = y2 <;> by_cases h3 : x3 = y3 <;> simp [h0, h1, h2, h3]
      rw [hb]
      exact this
    have ask : ∀ (l : List (Four × Value)) (es : List MapEntry) (i : Nat), es.map (fun e => (e.key, e.val)) = l.map (fun p => (encFour k p.1, p.2)) → (Instr.findAsking t (encFour k x) es i).run P w = .ok (mapFind x l i) w := by
      intro l
      induction l with
      | nil =>
        intro es i h
        have : es = [] := by simpa using h
        subst this
        rfl
      | cons p l ih =>
        intro es i h
        cases es with
        | nil => simp at h
        | cons e es =>
          simp only [List.map_cons, List.cons.injEq, Prod.mk.injEq] at h
          obtain ⟨⟨h1, h2⟩, h3⟩ := h
          rw [Instr.findAsking, h1, mapFind, Sem.run_bind, eq, Result.andThen_ok]
          by_cases hx : x = p.1
          · rw [if_pos hx]
            simp [hx, h2]
          · rw [if_neg hx]
            simp only [hx, decide_false, Bool.false_eq_true, if_false]
            exact ih es (i + 1) h3
    unfold Instr.findKey
    simp only [Sem.run_bind, run_underlying ht, Result.andThen_ok]
    cases l with
    | nil =>
      have : es = [] := by simpa using h
      subst this
      rfl
    | cons p l =>
      cases es with
      | nil => simp at h
      | cons e es =>
        have hn : Instr.findNow (.array 4 et) (encFour k x) (e :: es) 0 = none := by
          rw [Instr.findNow]
          rfl
        rw [hn]
        exact ask (p :: l) (e :: es) 0 h
  same := fun x => by
    rw [show (10000 : Nat) = 9998 + 1 + 1 from rfl]
    simp [encFour, Instr.sameBits]
end
section
variable {κ : Type} [DecidableEq κ] {P : Program}
/-- 'm[k]++' of a key that isn't there yet: the entry is made. -/
theorem map_entry_new {enc : κ → Value} {t kt e : TypeId} (K : KeyKind P kt enc) (ht : P.underlying t = some (.map kt e)) {w : World} {b : Nat} {l : List (κ × Value)} (h : MapAt enc w b l) (x : κ) (hx : x ∉ l.map (·.1)) {z : Value} (hz : ∀ w, (zeroValue e).run P w = .ok z w) :
    ∃ w', (Instr.mapEntry t (.map (some b)) (enc x)).run P w = .ok (.tuple #[z, .int .i64 l.length]) w' ∧ MapAt enc w' b (l ++ [(x, z)]) ∧ w.grownBy w' (some b) := by
  obtain ⟨es, c, h1, h2, h3, h4⟩ := h
  have hc := K.check false x w
  have hf := K.find x l es.toList w h2
  rw [mapFind_none.2 hx] at hf
  refine ⟨{ w with heap := w.heap.setIfInBounds b (.map (es.push { key := enc x, val := z, born := c }) (c + 1)) }, ?_, ⟨es.push { key := enc x, val := z, born := c }, c + 1, ?_, ?_, ?_, ?_⟩, ⟨rfl, rfl, rfl, by simp, fun i _ hi => ?_⟩⟩
  · unfold Instr.mapEntry
    simp only [Sem.run_bind, run_underlying ht, Result.andThen_ok, getObj, Sem.run, h1]
    rw [hc, Result.andThen_ok, hf, Result.andThen_ok]
    simp only [Sem.run_bind, hz, Result.andThen_ok, setObj, Sem.run, h1]
    rw [h4]
    rfl
  · show (w.heap.setIfInBounds b _)[b]? = _
    rw [Array.getElem?_setIfInBounds_self_of_lt (blk_lt h1)]
  · rw [Array.toList_push, List.map_append, List.map_append, h2]
    rfl
  · rw [Array.toList_push, List.map_append, h3, h4]
    simp [List.range_succ]
  · simp [h4]
  · show (w.heap.setIfInBounds b _)[i]? = _
    rw [Array.getElem?_setIfInBounds_ne (fun e => hi (by rw [e]))]
/-- .. of one that is there. -/
theorem map_entry_hit {enc : κ → Value} {t kt e : TypeId} (K : KeyKind P kt enc) (ht : P.underlying t = some (.map kt e)) {w : World} {b : Nat} {l : List (κ × Value)} (h : MapAt enc w b l) (x : κ) {j : Nat} {v : Value} (hx : mapFind x l 0 = some (j, v)) :
    ∃ w', (Instr.mapEntry t (.map (some b)) (enc x)).run P w = .ok (.tuple #[v, .int .i64 j]) w' ∧ MapAt enc w' b l ∧ w.grownBy w' (some b) := by
  obtain ⟨es, c, h1, h2, h3, h4⟩ := h
  have hc := K.check false x w
  have hf := K.find x l es.toList w h2
  rw [hx] at hf
  have hj := (mapFind_some hx).2
  rw [Nat.sub_zero] at hj
  have hjl : j < l.length := (List.getElem?_eq_some_iff.1 hj).1
  have hlen : es.toList.length = l.length := by have := congrArg List.length h2; simpa using this
  have hjs : j < es.size := by simpa using (by omega : j < es.toList.length)
  have hk : (es[j]?.map (·.key)).getD (enc x) = enc x := by
    have := congrArg (fun q => q[j]?) h2
    simp only [List.getElem?_map, hj, Option.map_some] at this
    rw [Array.getElem?_toList] at this
    obtain ⟨en, h5, h6⟩ := Option.map_eq_some_iff.1 this
    rw [h5]
    simp only [Prod.mk.injEq] at h6
    exact h6.1
  have hb : (es[j]?.map (fun x => (x.born : Int))).getD 0 = (j : Int) := by
    have := congrArg (fun q => q[j]?) h3
    simp only [List.getElem?_map, List.getElem?_range hjl] at this
    rw [Array.getElem?_toList] at this
    obtain ⟨en, h5, h6⟩ := Option.map_eq_some_iff.1 this
    rw [h5]
    simp [h6]
  have hsame : (es.modify j fun e => { e with key := enc x }) = es := by
    apply Array.toList_inj.1
    apply List.ext_getElem?
    intro q
    rw [Array.getElem?_toList, Array.getElem?_toList, Array.getElem?_modify]
    split
    · rename_i hq
      subst hq
      cases hq : es[j]? with
      | none => rfl
      | some en =>
        rw [hq] at hk
        simp only [Option.map_some, Option.getD_some] at hk
        simp only [Option.map_some, Option.some.injEq]
        rw [← hk]
    · rfl
  refine ⟨{ w with heap := w.heap.setIfInBounds b (.map es c) }, ?_, ⟨es, c, ?_, h2, h3, h4⟩, ⟨rfl, rfl, rfl, by simp, fun i _ hi => ?_⟩⟩
  · unfold Instr.mapEntry
    simp only [Sem.run_bind, run_underlying ht, Result.andThen_ok, getObj, Sem.run, h1]
    rw [hc, Result.andThen_ok, hf, Result.andThen_ok]
    simp only [Sem.run_bind, hk, Instr.keyThatStays, K.same, if_true]
    rw [show (pure (enc x) : Sem Value).run P w = .ok (enc x) w from rfl, Result.andThen_ok]
    simp only [setObj, Sem.run, h1, Result.andThen, hsame]
    rw [hb]
    rfl
  · show (w.heap.setIfInBounds b _)[b]? = _
    rw [Array.getElem?_setIfInBounds_self_of_lt (blk_lt h1)]
  · show (w.heap.setIfInBounds b _)[i]? = _
    rw [Array.getElem?_setIfInBounds_ne (fun e => hi (by rw [e]))]
/-- 'm[k] = v' of a key that is there. -/
theorem map_update_hit {enc : κ → Value} {t kt e : TypeId} (K : KeyKind P kt enc) (ht : P.underlying t = some (.map kt e)) {w : World} {b : Nat} {l : List (κ × Value)} (h : MapAt enc w b l) (x : κ) {j : Nat} {u : Value} (hx : mapFind x l 0 = some (j, u)) (v : Value) :
    ∃ w', (Instr.mapUpdate t (.map (some b)) (enc x) v).run P w = .ok () w' ∧ MapAt enc w' b (l.set j (x, v)) ∧ w.grownBy w' (some b) := by
  obtain ⟨es, c, h1, h2, h3, h4⟩ := h
  have hc := K.check false x w
  have hf := K.find x l es.toList w h2
  rw [hx] at hf
  have hj := (mapFind_some hx).2
  rw [Nat.sub_zero] at hj
  have hjl : j < l.length := (List.getElem?_eq_some_iff.1 hj).1
  have hk : (es[j]?.map (·.key)).getD (enc x) = enc x := by
    have := congrArg (fun q => q[j]?) h2
    simp only [List.getElem?_map, hj, Option.map_some] at this
    rw [Array.getElem?_toList] at this
    obtain ⟨en, h5, h6⟩ := Option.map_eq_some_iff.1 this
    rw [h5]
    simp only [Prod.mk.injEq] at h6
    exact h6.1
  refine ⟨{ w with heap := w.heap.setIfInBounds b (.map (es.modify j fun e => { e with key := enc x, val := v }) c) }, ?_, ⟨es.modify j fun e => { e with key := enc x, val := v }, c, ?_, ?_, ?_, ?_⟩, ⟨rfl, rfl, rfl, by simp, fun i _ hi => ?_⟩⟩
  · unfold Instr.mapUpdate
    simp only [Sem.run_bind, run_underlying ht, Result.andThen_ok, getObj, Sem.run, h1]
    rw [hc, Result.andThen_ok, hf, Result.andThen_ok]
    simp only [Sem.run_bind, hk, Instr.keyThatStays, K.same, if_true]
    rw [show (pure (enc x) : Sem Value).run P w = .ok (enc x) w from rfl, Result.andThen_ok]
    simp only [setObj, Sem.run, h1]
  · show (w.heap.setIfInBounds b _)[b]? = _
    rw [Array.getElem?_setIfInBounds_self_of_lt (blk_lt h1)]
  · apply List.ext_getElem?
    intro q
    have hq := congrArg (fun y => y[q]?) h2
    simp only [List.getElem?_map] at hq
    rw [List.getElem?_map, List.getElem?_map, Array.getElem?_toList, Array.getElem?_modify, List.getElem?_set]
    rw [Array.getElem?_toList] at hq
    split
    · rename_i e
      subst e
      rw [hj] at hq
      obtain ⟨en, h5, h6⟩ := Option.map_eq_some_iff.1 hq
      rw [h5]
      simp
    · exact hq
  · apply List.ext_getElem?
    intro q
    have hq := congrArg (fun y => y[q]?) h3
    rw [List.length_set]
    simp only [List.getElem?_map] at hq ⊢
    rw [Array.getElem?_toList] at hq
    rw [Array.getElem?_toList, Array.getElem?_modify, ← hq]
    split
    · cases es[q]? <;> rfl
    · rfl
  · rw [List.length_set]
    exact h4
  · show (w.heap.setIfInBounds b _)[i]? = _
    rw [Array.getElem?_setIfInBounds_ne (fun e => hi (by rw [e]))]
omit [DecidableEq κ] in
/-- .. and its value is written. -/
theorem map_entry_store {enc : κ → Value} {t : TypeId} {w : World} {b : Nat} {l : List (κ × Value)} (h : MapAt enc w b l) {j : Nat} {x : κ} {u : Value} (hj : l[j]? = some (x, u)) (v : Value) :
    ∃ w', (Instr.entryStore t (.map (some b)) (.int .i64 j) v).run P w = .ok () w' ∧ MapAt enc w' b (l.set j (x, v)) ∧ w.grownBy w' (some b) := by
  obtain ⟨es, c, h1, h2, h3, h4⟩ := h
  have hjl : j < l.length := (List.getElem?_eq_some_iff.1 hj).1
  have hlen : es.toList.length = l.length := by have := congrArg List.length h2; simpa using this
  have hjs : j < es.size := by simpa using (by omega : j < es.toList.length)
  have hborn : ∀ (i : Nat) (hi : i < es.size), es[i].born = i := fun i hi => by
    have := congrArg (fun q => q[i]?) h3
    simp only [List.getElem?_map, List.getElem?_range (show i < l.length by have := (Array.length_toList (xs := es)); omega)] at this
    rw [Array.getElem?_toList, Array.getElem?_eq_getElem hi] at this
    exact Option.some.inj this
  have hfind : es.findIdx? (fun e => (e.born : Int) == ((j : Nat) : Int)) = some j := by
    rw [Array.findIdx?_eq_some_iff_getElem]
    refine ⟨hjs, by simp [hborn j hjs], fun i hi => ?_⟩
    rw [hborn i (by omega)]
    simp
    omega
  refine ⟨{ w with heap := w.heap.setIfInBounds b (.map (es.modify j fun e => { e with val := v }) c) }, ?_, ⟨es.modify j fun e => { e with val := v }, c, ?_, ?_, ?_, ?_⟩, ⟨rfl, rfl, rfl, by simp, fun i _ hi => ?_⟩⟩
  · unfold Instr.entryStore
    simp only [Sem.run_bind, Result.andThen_ok, getObj, Sem.run, h1]
    have ha : (asInt (.int .i64 (j : Int))).run P w = .ok (j : Int) w := rfl
    rw [ha, Result.andThen_ok, hfind]
    simp only [setObj, Sem.run, h1]
  · show (w.heap.setIfInBounds b _)[b]? = _
    rw [Array.getElem?_setIfInBounds_self_of_lt (blk_lt h1)]
  · apply List.ext_getElem?
    intro q
    have hq := congrArg (fun y => y[q]?) h2
    simp only [List.getElem?_map] at hq
    rw [List.getElem?_map, List.getElem?_map, Array.getElem?_toList, Array.getElem?_modify, List.getElem?_set]
    rw [Array.getElem?_toList] at hq
    split
    · rename_i e
      subst e
      rw [hj] at hq
      obtain ⟨en, h5, h6⟩ := Option.map_eq_some_iff.1 hq
      rw [h5]
      simp only [Prod.mk.injEq] at h6
      simp [h6.1]
    · exact hq
  · apply List.ext_getElem?
    intro q
    have hq := congrArg (fun y => y[q]?) h3
    rw [List.length_set]
    simp only [List.getElem?_map] at hq ⊢
    rw [Array.getElem?_toList] at hq
    rw [Array.getElem?_toList, Array.getElem?_modify, ← hq]
    split
    · cases es[q]? <;> rfl
    · rfl
  · rw [List.length_set]
    exact h4
  · show (w.heap.setIfInBounds b _)[i]? = _
    rw [Array.getElem?_setIfInBounds_ne (fun e => hi (by rw [e]))]
end
section
variable {P : Program} {ops : Array Oper} {o : Oper} {a : Act} {Q : Exit → Act → World → Prop} {Kc : Act → World → Prop}
/-- One operation that gives a value, in a region that draws. -/
theorem rstep_value {w w' : World} {v : Value} (hw : Region.wanted o (yielded ops a.tmps) = true) (hr : (execOp a.eval o).run P w = .ok (.value v) w') (h : Kc (a.put o.dst v) w') :
    if Region.wanted o (yielded ops a.tmps) = true then Oper.wp P o a w Kc Q else Kc (a.put o.dst undef) w := by
  rw [if_pos hw]
  unfold Oper.wp
  rw [hr]
  exact h
theorem rstep_skip {w w' : World} (hw : Region.wanted o (yielded ops a.tmps) = true) (hr : (execOp a.eval o).run P w = .ok .skip w') (h : Kc (a.put o.dst undef) w') :
    if Region.wanted o (yielded ops a.tmps) = true then Oper.wp P o a w Kc Q else Kc (a.put o.dst undef) w := by
  rw [if_pos hw]
  unfold Oper.wp
  rw [hr]
  exact h
end
section
variable {P : Program} {ops : Array Oper} {rest : List Oper} {o : Oper} {a : Act} {Q : Exit → Act → World → Prop}
/-- One operation that gives nothing. -/
theorem wpList_mute {w w' : World} (hg : o.guard = none) (hr : (execOp a.eval o).run P w = .ok .skip w') (h : wpList P ops Q rest (a.put o.dst undef) w') : wpList P ops Q (o :: rest) a w := by
  refine wpList_plain hg fun K hK => ?_
  unfold Oper.wp
  rw [hr]
  exact hK _ _ h
end
end Go.Proofs.YtebiogaacikphaaW.PrintWords
end
