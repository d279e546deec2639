/- Parts of the proof of packEncodes: PAllx36. No condition beyond each lemma's own. -/
import Derived.Test.YtebiogaacikphaaTE3
import Derived.Test.YtebiogaacikphaaTE7
import Derived.Test.YtebiogaacikphaaTE8
section
namespace Go.Proofs.Ytebiogaacikphaa.PAll
open Go.RowKit Go.Proofs.YtebiogaacikphaaW.PrintWords Go.Proofs.YtebiogaacikphaaW.PrintLast Go.Proofs.YtebiogaacikphaaW.PrintMore
set_option linter.unusedVariables false
set_option linter.unusedSimpArgs false
attribute [local go_sem high] eqA76
mutual
def dowelref20_tables.l0 : Nat → List (S78) → Int → List (S76) → List ByteArray → List Int → Option ((List (S76)) × List ByteArray × List Int)
 | 0, _, _, _, _, _ => none
 | k + 1, x0, x4, x531000, x531001, x531002 => if x4 < (x0.length : Int) then (if 0 ≤ x4 then ((dowelref20_kind.f k ((rd_T78 x0 x4).f0)).bind fun t532 => (if t532 = 2 then (dowelref20_tables.l1 k x0 x4 0 x531000 x531001 x531002) else (if t532 = 3 then (dowelref20_tables.l2 k x0 x4 0 x531000 x531001 x531002) else (if x4 < (x531002.length : Int) then (dowelref20_tables.l0 k x0 (wrap64 (x4 + 1)) x531000 x531001 (x531002.set (x4 : Int).toNat 0)) else (none))))) else (none)) else (some (x531000, x531001, x531002))
def dowelref20_tables.l1 : Nat → List (S78) → Int → Int → List (S76) → List ByteArray → List Int → Option ((List (S76)) × List ByteArray × List Int)
 | 0, _, _, _, _, _, _ => none
 | k + 1, x0, x4, x5, x531000, x531001, x531002 => if x5 < (x531000.length : Int) then (if 0 ≤ x5 then (if 0 ≤ x4 then (if x4 < (x0.length : Int) then (if (!(((rd_T76 x531000 x5).f0) == ((rd_T78 x0 x4).f2.f0)) || (!(((rd_T76 x531000 x5).f1) == ((rd_T78 x0 x4).f2.f1)) || (!(((rd_T76 x531000 x5).f2) == ((rd_T78 x0 x4).f2.f2)) || (!(((rd_T76 x531000 x5).f3) == ((rd_T78 x0 x4).f2.f3)))))) = true then (dowelref20_tables.l1 k x0 x4 (wrap64 (x5 + 1)) x531000 x531001 x531002) else (if x5 = (x531000.length : Int) then (if x531000.length < 4398046511104 then (if x4 < (x531002.length : Int) then (dowelref20_tables.l0 k x0 (wrap64 (x4 + 1)) (x531000 ++ [(⟨(rd_T78 x0 x4).f2.f0, (rd_T78 x0 x4).f2.f1, (rd_T78 x0 x4).f2.f2, (rd_T78 x0 x4).f2.f3⟩ : S76)]) x531001 (x531002.set (x4 : Int).toNat x5)) else (none)) else (none)) else (if x4 < (x531002.length : Int) then (dowelref20_tables.l0 k x0 (wrap64 (x4 + 1)) x531000 x531001 (x531002.set (x4 : Int).toNat x5)) else (none)))) else (none)) else (none)) else (none)) else (if x5 = (x531000.length : Int) then (if 0 ≤ x4 then (if x4 < (x0.length : Int) then (if x531000.length < 4398046511104 then (if x4 < (x531002.length : Int) then (dowelref20_tables.l0 k x0 (wrap64 (x4 + 1)) (x531000 ++ [(⟨(rd_T78 x0 x4).f2.f0, (rd_T78 x0 x4).f2.f1, (rd_T78 x0 x4).f2.f2, (rd_T78 x0 x4).f2.f3⟩ : S76)]) x531001 (x531002.set (x4 : Int).toNat x5)) else (none)) else (none)) else (none)) else (none)) else (if 0 ≤ x4 then (if x4 < (x531002.length : Int) then (dowelref20_tables.l0 k x0 (wrap64 (x4 + 1)) x531000 x531001 (x531002.set (x4 : Int).toNat x5)) else (none)) else (none)))
def dowelref20_tables.l2 : Nat → List (S78) → Int → Int → List (S76) → List ByteArray → List Int → Option ((List (S76)) × List ByteArray × List Int)
 | 0, _, _, _, _, _, _ => none
 | k + 1, x0, x4, x5, x531000, x531001, x531002 => if x5 < (x531001.length : Int) then (if 0 ≤ x5 then (if 0 ≤ x4 then (if x4 < (x0.length : Int) then (if (rdOf ByteArray.empty x531001 x5).toList = ((rd_T78 x0 x4).f3).toList then (if x5 = (x531001.length : Int) then (if x531001.length < 8796093022208 then (if x4 < (x531002.length : Int) then (dowelref20_tables.l0 k x0 (wrap64 (x4 + 1)) x531000 (x531001 ++ [(rd_T78 x0 x4).f3]) (x531002.set (x4 : Int).toNat x5)) else (none)) else (none)) else (if x4 < (x531002.length : Int) then (dowelref20_tables.l0 k x0 (wrap64 (x4 + 1)) x531000 x531001 (x531002.set (x4 : Int).toNat x5)) else (none))) else (dowelref20_tables.l2 k x0 x4 (wrap64 (x5 + 1)) x531000 x531001 x531002)) else (none)) else (none)) else (none)) else (if x5 = (x531001.length : Int) then (if 0 ≤ x4 then (if x4 < (x0.length : Int) then (if x531001.length < 8796093022208 then (if x4 < (x531002.length : Int) then (dowelref20_tables.l0 k x0 (wrap64 (x4 + 1)) x531000 (x531001 ++ [(rd_T78 x0 x4).f3]) (x531002.set (x4 : Int).toNat x5)) else (none)) else (none)) else (none)) else (none)) else (if 0 ≤ x4 then (if x4 < (x531002.length : Int) then (dowelref20_tables.l0 k x0 (wrap64 (x4 + 1)) x531000 x531001 (x531002.set (x4 : Int).toNat x5)) else (none)) else (none)))
end
def dowelref20_tables.f (k : Nat) (l0 : List (S78)) : Option ((List (S76)) × List ByteArray × List Int) := if 0 ≤ (l0.length : Int) then (if ((l0.length : Int) : Int).toNat ≤ 35184372088832 then (dowelref20_tables.l0 k l0 0 ([] : List (S76)) ([] : List ByteArray) (List.replicate ((l0.length : Int) : Int).toNat 0)) else (none)) else (none)
theorem dowelref20_tables.mono_l : ∀ k, (∀ y0 y1 y2 y3 y4, LeO (dowelref20_tables.l0 k y0 y1 y2 y3 y4) (dowelref20_tables.l0 (k + 1) y0 y1 y2 y3 y4)) ∧ (∀ y0 y1 y2 y3 y4 y5, LeO (dowelref20_tables.l1 k y0 y1 y2 y3 y4 y5) (dowelref20_tables.l1 (k + 1) y0 y1 y2 y3 y4 y5)) ∧ (∀ y0 y1 y2 y3 y4 y5, LeO (dowelref20_tables.l2 k y0 y1 y2 y3 y4 y5) (dowelref20_tables.l2 (k + 1) y0 y1 y2 y3 y4 y5))
 | 0 => ⟨fun _ _ _ _ _ r h => by simp [dowelref20_tables.l0] at h, fun _ _ _ _ _ _ r h => by simp [dowelref20_tables.l1] at h, fun _ _ _ _ _ _ r h => by simp [dowelref20_tables.l2] at h⟩
 | k + 1 => by
  obtain ⟨ih0, ih1, ih2⟩ := dowelref20_tables.mono_l k
  refine ⟨?_, ?_, ?_⟩
  ·intro y0 y1 y2 y3 y4
   unfold dowelref20_tables.l0
   repeat' first
   | (with_reducible exact ih0 _ _ _ _ _)
   | (with_reducible exact ih1 _ _ _ _ _ _)
   | (with_reducible exact ih2 _ _ _ _ _ _)
   | (with_reducible exact dowelref20_kind.mono _ _)
   | (with_reducible exact LeO.refl _)
   | (with_reducible exact LeO.none _)
   | (with_reducible refine LeO.ite ?_ ?_)
   | (with_reducible refine LeO.bind ?_ (fun _ => ?_))
   | exact ih0 _ _ _ _ _
   | exact ih1 _ _ _ _ _ _
   | exact ih2 _ _ _ _ _ _
   | exact dowelref20_kind.mono _ _
   | exact LeO.none _
   | refine LeO.ite ?_ ?_
   | refine LeO.bind ?_ (fun _ => ?_)
  ·intro y0 y1 y2 y3 y4 y5
   unfold dowelref20_tables.l1
   repeat' first
   | (with_reducible exact ih0 _ _ _ _ _)
   | (with_reducible exact ih1 _ _ _ _ _ _)
   | (with_reducible exact ih2 _ _ _ _ _ _)
   | (with_reducible exact dowelref20_kind.mono _ _)
   | (with_reducible exact LeO.refl _)
   | (with_reducible exact LeO.none _)
   | (with_reducible refine LeO.ite ?_ ?_)
   | (with_reducible refine LeO.bind ?_ (fun _ => ?_))
   | exact ih0 _ _ _ _ _
   | exact ih1 _ _ _ _ _ _
   | exact ih2 _ _ _ _ _ _
   | exact dowelref20_kind.mono _ _
   | exact LeO.none _
   | refine LeO.ite ?_ ?_
   | refine LeO.bind ?_ (fun _ => ?_)
  ·intro y0 y1 y2 y3 y4 y5
   unfold dowelref20_tables.l2
   repeat' first
   | (with_reducible exact ih0 _ _ _ _ _)
   | (with_reducible exact ih1 _ _ _ _ _ _)
   | (with_reducible exact ih2 _ _ _ _ _ _)
   | (with_reducible exact dowelref20_kind.mono _ _)
   | (with_reducible exact LeO.refl _)
   | (with_reducible exact LeO.none _)
   | (with_reducible refine LeO.ite ?_ ?_)
   | (with_reducible refine LeO.bind ?_ (fun _ => ?_))
   | exact ih0 _ _ _ _ _
   | exact ih1 _ _ _ _ _ _
   | exact ih2 _ _ _ _ _ _
   | exact dowelref20_kind.mono _ _
   | exact LeO.none _
   | refine LeO.ite ?_ ?_
   | refine LeO.bind ?_ (fun _ => ?_)
theorem dowelref20_tables.mono : ∀ a0 k, LeO (dowelref20_tables.f k a0) (dowelref20_tables.f (k + 1) a0) := by
 intro a0 k
 obtain ⟨ih0, ih1, ih2⟩ := dowelref20_tables.mono_l k
 unfold dowelref20_tables.f
 repeat' first
   | (with_reducible exact ih0 _ _ _ _ _)
   | (with_reducible exact ih1 _ _ _ _ _ _)
   | (with_reducible exact ih2 _ _ _ _ _ _)
   | (with_reducible exact dowelref20_kind.mono _ _)
   | (with_reducible exact LeO.refl _)
   | (with_reducible exact LeO.none _)
   | (with_reducible refine LeO.ite ?_ ?_)
   | (with_reducible refine LeO.bind ?_ (fun _ => ?_))
   | exact ih0 _ _ _ _ _
   | exact ih1 _ _ _ _ _ _
   | exact ih2 _ _ _ _ _ _
   | exact dowelref20_kind.mono _ _
   | exact LeO.none _
   | refine LeO.ite ?_ ?_
   | refine LeO.bind ?_ (fun _ => ?_)
def dowelref20_tables.T8 : Bool × List (List Nat × List Nat) := (true, [([], []), ([], []), ([1], [1]), ([2], [2]), ([0, 3], [0, 3]), ([4], [4]), ([5], [5]), ([6, 5], [5, 6]), ([5], [5]), ([7, 8, 5], [5, 7, 8]), ([9, 5], [5, 9]), ([5], [5]), ([5], [5]), ([11, 12, 5], [5, 11, 12]), ([13, 5], [5, 13]), ([14, 5], [5, 14]), ([10, 15, 5], [5, 10, 15]), ([5, 16], [5, 16])])
def dowelref20_tables.B8 : List Nat := [0, 0, 2, 6, 15, 31, 63, 127, 63, 511, 1023, 63, 63, 6207, 14399, 30783, 65535, 131071]
theorem dowelref20_tables.tab8 : rtab .any (opsOf Try.f78 8) = dowelref20_tables.T8 := by kernel_rfl
theorem dowelref20_tables.bits8 : waitsOk dowelref20_tables.T8.2 dowelref20_tables.B8 = true := by kernel_rfl
def dowelref20_tables.T11 : Bool × List (List Nat × List Nat) := (true, [([], []), ([0], [0]), ([], []), ([], []), ([2, 3], [2, 3]), ([4], [4]), ([5], [5]), ([6], [6]), ([1, 7], [1, 7]), ([0, 1, 2, 3, 4, 5, 6, 7, 8], []), ([9, 8, 8, 0, 1, 2, 3, 4, 5, 6, 7, 8], [8, 9])])
def dowelref20_tables.B11 : List Nat := [0, 1, 0, 0, 12, 28, 60, 124, 255, 511, 1023]
theorem dowelref20_tables.tab11 : rtab .any (opsOf Try.f78 11) = dowelref20_tables.T11 := by kernel_rfl
theorem dowelref20_tables.bits11 : waitsOk dowelref20_tables.T11.2 dowelref20_tables.B11 = true := by kernel_rfl
def dowelref20_tables.T13 : Bool × List (List Nat × List Nat) := (true, [([], []), ([], []), ([1], [1]), ([2], [2]), ([0, 3], [0, 3]), ([4], [4]), ([5], [5]), ([6, 5], [5, 6]), ([5], [5]), ([7, 8, 5], [5, 7, 8]), ([9, 5], [5, 9]), ([5], [5]), ([5], [5]), ([11, 12, 5], [5, 11, 12]), ([13, 5], [5, 13]), ([14, 5], [5, 14]), ([10, 15, 5], [5, 10, 15]), ([5, 16], [5, 16])])
def dowelref20_tables.B13 : List Nat := [0, 0, 2, 6, 15, 31, 63, 127, 63, 511, 1023, 63, 63, 6207, 14399, 30783, 65535, 131071]
theorem dowelref20_tables.tab13 : rtab .any (opsOf Try.f78 13) = dowelref20_tables.T13 := by kernel_rfl
theorem dowelref20_tables.bits13 : waitsOk dowelref20_tables.T13.2 dowelref20_tables.B13 = true := by kernel_rfl
def dowelref20_tables.T16 : Bool × List (List Nat × List Nat) := (true, [([], []), ([0], [0]), ([], []), ([], []), ([2, 3], [2, 3]), ([4], [4]), ([5], [5]), ([6], [6]), ([1, 7], [1, 7]), ([0, 1, 2, 3, 4, 5, 6, 7, 8], []), ([9, 8, 8, 0, 1, 2, 3, 4, 5, 6, 7, 8], [8, 9])])
def dowelref20_tables.B16 : List Nat := [0, 1, 0, 0, 12, 28, 60, 124, 255, 511, 1023]
theorem dowelref20_tables.tab16 : rtab .any (opsOf Try.f78 16) = dowelref20_tables.T16 := by kernel_rfl
theorem dowelref20_tables.bits16 : waitsOk dowelref20_tables.T16.2 dowelref20_tables.B16 = true := by kernel_rfl
theorem sqa {α : Type} (l : List α) (i : Nat) (a : α) : l.toArray.setIfInBounds i a = (l.set i a).toArray := List.setIfInBounds_toArray l i a
theorem sqb {α : Type} {x : α} {xs : List α} {a : α} : (x :: xs).set 0 a = a :: xs := List.set_cons_zero
theorem sqc {α : Type} {x : α} {xs : List α} {i : Nat} {a : α} : (x :: xs).set (i + 1) a = x :: xs.set i a := List.set_cons_succ
theorem sqd (w : World) (a : Addr) {u : Value} : w.cell? a = some u → a.block < w.heap.size := World.block_lt_of_cell? w a
set_option maxHeartbeats 8000000 in
set_option maxRecDepth 100000 in
theorem dowelref20_tables.calls (k : Nat) (A0 : Option Addr) (c0 : Nat) (l0 : List (S78)) (r1 : List (S76)) (r2 : List ByteArray) (r3 : List Int) (w : World) (hr0 : Kd.C k78 w A0 l0.length l0) (hc0 : l0.length ≤ c0) (h : dowelref20_tables.f k l0 = some (r1, r2, r3)) :
  Calls Try.prog 78 #[.slice A0 l0.length c0] w fun e w' => ∃ v0_ v1_ v2_ : Value, e = .returned (.agg #[v0_, v1_, v2_]) ∧ Kd.R k76 76 w' w.heap.size (fun _ => True) v0_ r1 ∧ Kd.R Kd.string 9 w' w.heap.size (fun _ => True) v1_ r2 ∧ Kd.R (Kd.int .i64) 3 w' w.heap.size (fun _ => True) v2_ r3 ∧ Below w.heap.size w w' := by
 have hu112 := Try.underlying112
 have hu76 := Try.underlying76
 have HR0 := Aside0.mk hr0; have HC0 := Aside0.mk hc0; clear hr0 hc0
 have HB := Aside0.mk (Below.refl w.heap.size w)
 have H : (if 0 ≤ (l0.length : Int) then (if ((l0.length : Int) : Int).toNat ≤ 35184372088832 then (dowelref20_tables.l0 k l0 0 ([] : List (S76)) ([] : List ByteArray) (List.replicate ((l0.length : Int) : Int).toNat 0)) else (none)) else (none)) = some (r1, r2, r3) := h
 clear h
 by_cases c2 : 0 ≤ (l0.length : Int)
 ·rw [if_pos c2] at H
  have c2b0 := eq_true c2
  have c2b1 : decide (0 ≤ (l0.length : Int)) = true := decide_eq_true c2
  clear c2
  by_cases c3 : ((l0.length : Int) : Int).toNat ≤ 35184372088832
  ·rw [if_pos c3] at H
   have c3b0 := eq_true c3
   have c3b1 : decide (((l0.length : Int) : Int).toNat ≤ 35184372088832) = true := decide_eq_true c3
   clear c3
   obtain ⟨y527, hy527⟩ : ∃ y_ : List Int, y_ = (List.replicate ((l0.length : Int) : Int).toNat 0) := ⟨_, rfl⟩
   replace H : (dowelref20_tables.l0 k l0 0 ([] : List (S76)) ([] : List ByteArray) y527) = some (r1, r2, r3) := by first | (rw [hy527]; with_reducible exact H) | (have H2_ := (Option.bind_some _ _).symm.trans H; rw [hy527]; with_reducible exact H2_) | (have H2_ := (Option.bind_some _ _).symm.trans H; with_reducible exact H2_) | with_reducible exact H | (rw [hy527]; exact H) | exact H
   have Ny527 := Aside0.mk hy527; clear hy527
   have H' := Aside0.mk H
   clear H
   go_enter Try.func78, Try.ntmps78
   go_wp2_with (first | ((with_reducible refine gate_dst (N := 2) rfl ?_); refine box_event ?hg (N := 2) ?hd (cs := #[.slice none 0 0, .slice none 0 0, .slice none 0 0]) (t := 112) ?hr ?_; (case hd => rfl); (case hg => rfl); (case hr => first | (go_simp; done) | (go_simp; rfl)); intro gb526 hg w4 hbox hb; have n0_ := Aside0.mk (below_step (by repeat (first | (with_reducible first | exact HB.out | apply below_alloc | apply pw_below_drewN | apply below_drew1) | exact HB.out)) hb); have n1_ := Aside0.mk (hbox); have n2_ := Aside0.mk ((by rw [hg]; exact (below_size (by repeat (first | (with_reducible first | exact HB.out | apply below_alloc | apply pw_below_drewN | apply below_drew1) | exact HB.out))) : w.heap.size ≤ gb526)); have n3_ := Aside0.mk ((by rw [hg]; exact (below_size (by repeat (first | (with_reducible first | exact HB.out | apply below_alloc | apply pw_below_drewN | apply below_drew1) | exact HB.out))) : w.heap.size ≤ gb526)); clear HB; have HB := n0_; have BK526 := n1_; have GW526 := n2_; have GE526 := n3_; clear n0_ n1_ n2_ n3_; clear hb hbox hg) | ((with_reducible refine gate_dst (N := 8) rfl ?_); refine Kd.R_make (Kd.int .i64) _ 3 rfl (N := 8) rfl 101 _ _ rfl (l0.length : Int) rfl rfl Try.underlying101 (.int .i64 0) 8 info3 rfl (by decide) (by omega) 0 (ok := fun _ => True) (okp := fun _ => True) rfl (fun _ hk => hk) trivial (of_decide_eq_true (by first | (with_reducible assumption) | assumption)) (Nat.le_trans (Nat.mul_le_mul_right _ (of_decide_eq_true (by first | (with_reducible assumption) | assumption) : (l0.length : Int).toNat ≤ 35184372088832)) (by omega)) (Below.refl _ _) (Nat.le_refl _) ?_; intro v528 w5 ho6 hb hg_ hnew_; clear hg_ hnew_; (first | rw [← Ny527.out] at ho6 | (simp only [Int.reduceToNat] at ho6; rw [← Ny527.out] at ho6)); have n0_ := Aside0.mk (Kd.R_lower ho6 (below_size (by repeat (first | (with_reducible first | exact HB.out | apply below_alloc | apply pw_below_drewN | apply below_drew1 | refine below_set ?_ GE526.out) | exact HB.out)))); have n1_ := Aside0.mk (blk_below (g := gb526) (o := .cells #[.slice none 0 0, .slice none 0 0, .slice none 0 0] 112 (0, 0)) (by (with_reducible repeat (first | refine blk_drewN ?_ _ | refine blk_drew ?_ | refine blk_alloc ?_ _)); exact BK526.out) hb); have n2_ := Aside0.mk (below_step (by repeat (first | (with_reducible first | exact HB.out | apply below_alloc | apply pw_below_drewN | apply below_drew1 | refine below_set ?_ GE526.out) | exact HB.out)) hb); clear BK526; clear HB; have HO529 := n0_; have BK526 := n1_; have HB := n2_; clear n0_ n1_ n2_; clear hb ho6; obtain ⟨Ao7, co7, eo7⟩ := Kd.R_slice HO529.out; subst eo7) | ((with_reducible refine gate_dst (N := 3) rfl ?_); refine box_event ?hg (N := 3) ?hd (cs := #[.slice none 0 0, .slice none 0 0, .slice none 0 0]) (t := 112) ?hr ?_; (case hd => rfl); (case hg => rfl); (case hr => first | (go_simp; done) | (go_simp; rfl)); intro gb530 hg w8 hbox hb; have n0_ := Aside0.mk (Kd.R_below (by (with_reducible repeat (first | apply Kd.R_alloc | apply Kd.R_drewN | apply Kd.R_drew)); exact HO529.out) hb); have n1_ := Aside0.mk (blk_below (g := gb526) (o := .cells #[.slice none 0 0, .slice none 0 0, .slice none 0 0] 112 (0, 0)) (by (with_reducible repeat (first | refine blk_drewN ?_ _ | refine blk_drew ?_ | refine blk_alloc ?_ _)); exact BK526.out) hb); have n2_ := Aside0.mk (below_step (by repeat (first | (with_reducible first | exact HB.out | apply below_alloc | apply pw_below_drewN | apply below_drew1 | refine below_set ?_ GE526.out) | exact HB.out)) hb); have n3_ := Aside0.mk (hbox); have n4_ := Aside0.mk ((by rw [hg]; exact (below_size (by repeat (first | (with_reducible first | exact HB.out | apply below_alloc | apply pw_below_drewN | apply below_drew1 | refine below_set ?_ GE526.out) | exact HB.out))) : w.heap.size ≤ gb530)); have n5_ := Aside0.mk ((by rw [hg]; exact (below_size (by repeat (first | (with_reducible first | exact HB.out | apply below_alloc | apply pw_below_drewN | apply below_drew1 | refine below_set ?_ GE526.out) | exact HB.out))) : w.heap.size ≤ gb530)); have n6_ := Aside0.mk ((by rw [hg]; exact Nat.ne_of_lt (blk_lt (g := gb526) (o := .cells #[.slice none 0 0, .slice none 0 0, .slice none 0 0] 112 (0, 0)) (by (with_reducible repeat (first | refine blk_drewN ?_ _ | refine blk_drew ?_ | refine blk_alloc ?_ _)); exact BK526.out)) : gb526 ≠ gb530)); have n7_ := Aside0.mk ((by rw [hg]; exact Nat.ne_of_gt (blk_lt (g := gb526) (o := .cells #[.slice none 0 0, .slice none 0 0, .slice none 0 0] 112 (0, 0)) (by (with_reducible repeat (first | refine blk_drewN ?_ _ | refine blk_drew ?_ | refine blk_alloc ?_ _)); exact BK526.out)) : gb530 ≠ gb526)); clear HO529; clear BK526; clear HB; have HO529 := n0_; have BK526 := n1_; have HB := n2_; have BK530 := n3_; have GW530 := n4_; have GE530 := n5_; have NB526_530 := n6_; have NB530_526 := n7_; clear n0_ n1_ n2_ n3_ n4_ n5_ n6_ n7_; clear hb hbox hg; have hnb9 := NB530_526.out; have hnc9 := NB526_530.out; have hcz10_0 : w8.cell? ⟨gb530, 0, none⟩ = some (.slice none 0 0) := (blk_cell BK530.out 0).trans rfl; have hcz10_1 : w8.cell? ⟨gb530, 1, none⟩ = some (.slice none 0 0) := (blk_cell BK530.out 1).trans rfl; have hcz10_2 : w8.cell? ⟨gb530, 2, none⟩ = some (.slice none 0 0) := (blk_cell BK530.out 2).trans rfl; have hfz10_0 := blk_frozen BK530.out 0; have hfz10_1 := blk_frozen BK530.out 1; have hfz10_2 := blk_frozen BK530.out 2))
   go_loopg [4] k (fun kq v4 w' => ∃ (x4_1 : Int) (x531000_1 : List (S76)) (x531001_1 : List ByteArray) (x531002_1 : List Int) (u531000 : Value) (u531001 : Value) (u531002 : Value), v4 = .int .i64 x4_1 ∧ Aside0 (dowelref20_tables.l0 kq l0 x4_1 x531000_1 x531001_1 x531002_1 = some (r1, r2, r3)) ∧ Aside0 (kq ≤ k) ∧ Aside0 (Kd.R k76 76 w' w.heap.size (fun _ => True) u531000 x531000_1) ∧ Aside0 (Kd.R Kd.string 9 w' w.heap.size (fun _ => True) u531001 x531001_1) ∧ Aside0 (Kd.R (Kd.int .i64) 3 w' w.heap.size (fun _ => True) u531002 x531002_1) ∧ Aside0 (w'.heap[gb526]? = some (.cells #[(.slice none 0 0), (.slice none 0 0), (.slice none 0 0)] 112 (0, 0))) ∧ Aside0 (w'.heap[gb530]? = some (.cells #[u531000, u531001, u531002] 112 (0, 0))) ∧ Aside0 (Below w.heap.size w w'))
   case atStart => exact ⟨(0), (([] : List (S76))), (([] : List ByteArray)), (y527), (.slice none 0 0), (.slice none 0 0), (.slice Ao7 y527.length co7), (by first | rfl | (simp; done) | (simp [*]; done)), H', ⟨Nat.le_refl _⟩, ⟨by first | exact Kd.R_nil _ _ _ _ _ | exact Kd.N_nil _ _ _ _ _ | exact Kd.V_nil _ _ _ _ _ | exact Kd.Q_nil _ _ _ _ _ | exact Kd.S_nil _ _ _ _ _⟩, ⟨by first | exact Kd.R_nil _ _ _ _ _ | exact Kd.N_nil _ _ _ _ _ | exact Kd.V_nil _ _ _ _ _ | exact Kd.Q_nil _ _ _ _ _ | exact Kd.S_nil _ _ _ _ _⟩, ⟨by (with_reducible repeat (first | apply Kd.R_alloc | apply Kd.R_drewN | apply Kd.R_drew)); exact Kd.R_mono (Kd.R_far (p := ⟨gb530, 2, none⟩) (Kd.R_far (p := ⟨gb530, 1, none⟩) (Kd.R_far (p := ⟨gb530, 0, none⟩) (Kd.R_types HO529.out BK530.out (by decide)) (fun _ hk => hk.2) (.slice none 0 0)) (fun _ hk => hk.2) (.slice none 0 0)) (fun _ hk => hk.2) (.slice Ao7 y527.length co7)) (fun _ hk => trivial)⟩, ⟨by (with_reducible repeat (first | refine blk_drewN ?_ _ | refine blk_drew ?_ | refine blk_alloc ?_ _)); refine blk_far ?_ NB526_530.out _; (with_reducible repeat (first | refine blk_drewN ?_ _ | refine blk_drew ?_ | refine blk_alloc ?_ _)); refine blk_far ?_ NB526_530.out _; (with_reducible repeat (first | refine blk_drewN ?_ _ | refine blk_drew ?_ | refine blk_alloc ?_ _)); refine blk_far ?_ NB526_530.out _; (with_reducible repeat (first | refine blk_drewN ?_ _ | refine blk_drew ?_ | refine blk_alloc ?_ _)); exact BK526.out⟩, ⟨by (with_reducible repeat (first | refine blk_drewN ?_ _ | refine blk_drew ?_ | refine blk_alloc ?_ _)); refine blk_put (cs := #[.slice none 0 0, .slice none 0 0, .slice none 0 0]) ?_ 2 _ rfl; (with_reducible repeat (first | refine blk_drewN ?_ _ | refine blk_drew ?_ | refine blk_alloc ?_ _)); refine blk_put (cs := #[.slice none 0 0, .slice none 0 0, .slice none 0 0]) ?_ 1 _ rfl; (with_reducible repeat (first | refine blk_drewN ?_ _ | refine blk_drew ?_ | refine blk_alloc ?_ _)); refine blk_put (cs := #[.slice none 0 0, .slice none 0 0, .slice none 0 0]) ?_ 0 _ rfl; (with_reducible repeat (first | refine blk_drewN ?_ _ | refine blk_drew ?_ | refine blk_alloc ?_ _)); exact BK530.out⟩, ⟨by repeat (first | (with_reducible first | exact HB.out | apply below_alloc | apply pw_below_drewN | apply below_drew1 | refine below_set ?_ GE526.out | refine below_set ?_ GE530.out) | exact HB.out)⟩⟩
   case round =>
    clear H'; (try clear c2); (try clear c2b0); (try clear c2b1); (try clear p2); (try clear c3); (try clear c3b0); (try clear c3b1); (try clear c7); (try clear c9); (try clear hcz10_0); (try clear hcz10_1); (try clear hcz10_2); (try clear hfz10_0); (try clear hfz10_1); (try clear hfz10_2)
    obtain ⟨x4_1, x531000_1, x531001_1, x531002_1, u531000, u531001, u531002, rfl, HA, HK1, HO_531000, HO_531001, HO_531002, BK526, BK530, HB⟩ := hrel
    cases gk with
    | zero => exact absurd HA.out (by simp [dowelref20_tables.l0])
    | succ k1 =>
     have H := HA.out
     clear HA
     simp only [dowelref20_tables.l0] at H
     by_cases c11 : x4_1 < (l0.length : Int)
     ·rw [if_pos c11] at H
      have c11b0 : decide (x4_1 < (l0.length : Int)) = true := decide_eq_true c11
      clear c11
      by_cases c12 : 0 ≤ x4_1
      ·rw [if_pos c12] at H
       have c12b0 : decide (0 ≤ x4_1) = true := decide_eq_true c12
       clear c12
       replace H := Option.bind_eq_some_iff.mp H
       obtain ⟨t532, A130, H⟩ := H
       replace H : (if t532 = 2 then (dowelref20_tables.l1 k1 l0 x4_1 0 x531000_1 x531001_1 x531002_1) else (if t532 = 3 then (dowelref20_tables.l2 k1 l0 x4_1 0 x531000_1 x531001_1 x531002_1) else (if x4_1 < (x531002_1.length : Int) then (dowelref20_tables.l0 k1 l0 (wrap64 (x4_1 + 1)) x531000_1 x531001_1 (x531002_1.set (x4_1 : Int).toNat 0)) else (none)))) = some (r1, r2, r3) := H
       have A13 := Aside0.mk A130; clear A130
       by_cases c14 : t532 = 2
       ·rw [if_pos c14] at H
        have c14b0 : (t532 == 2) = true := beq_iff_eq.mpr c14
        have c14b1 : (t532 != 2) = false := bne_eq_false_iff_eq.mpr c14
        clear c14
        have H' := Aside0.mk H
        clear H
        have p531 : 0 ≤ (x4_1 : Int) := of_decide_eq_true (by first | (with_reducible assumption) | assumption)
        have q531 : x4_1 < (l0.length : Int) := of_decide_eq_true (by first | (with_reducible assumption) | assumption)
        obtain ⟨ad531, e531, hx531_0, hx531_1, hx531_2, hx531_3, hx531_4, hx531_5, hx531_6⟩ := at_T78 HR0.out x4_1 p531 q531
        cases e531
        replace hx531_0 := (HB.out.cell (sqd w _ hx531_0)).trans hx531_0
        replace hx531_1 := (HB.out.cell (sqd w _ hx531_1)).trans hx531_1
        replace hx531_2 := (HB.out.cell (sqd w _ hx531_2)).trans hx531_2
        replace hx531_3 := (HB.out.cell (sqd w _ hx531_3)).trans hx531_3
        replace hx531_4 := (HB.out.cell (sqd w _ hx531_4)).trans hx531_4
        replace hx531_5 := (HB.out.cell (sqd w _ hx531_5)).trans hx531_5
        replace hx531_6 := (HB.out.cell (sqd w _ hx531_6)).trans hx531_6
        replace p531 := eq_true p531
        replace q531 := eq_true q531
        go_wp2_with (first | ((with_reducible refine gate_callee (f := 80) rfl ?_); refine goesL_ (some 21) rfl rfl Try.func80 (by kernel_rfl) rfl #[.int .i64 ((rd_T78 l0 x4_1).f0)] rfl (by (try simp only [List.map_toArray, List.map_cons, List.map_nil]); first | done | rfl | (simp only [List.length_drop, List.length_take]; rfl)) ?_; (with_reducible refine (dowelref20_kind.calls k1 ((rd_T78 l0 x4_1).f0) t532 _ A13.out).mono ?_); rintro e w' ⟨rfl, ⟨nd, rfl⟩⟩; refine ⟨_, rfl, ?_⟩))
        go_loopg [5] k1 (fun kq v5 w' => ∃ (x5_2 : Int), v5 = .int .i64 x5_2 ∧ Aside0 (dowelref20_tables.l1 kq l0 x4_1 x5_2 x531000_1 x531001_1 x531002_1 = some (r1, r2, r3)) ∧ Aside0 (kq ≤ k1) ∧ Aside0 (Kd.R k76 76 w' w.heap.size (fun _ => True) u531000 x531000_1) ∧ Aside0 (Kd.R Kd.string 9 w' w.heap.size (fun _ => True) u531001 x531001_1) ∧ Aside0 (Kd.R (Kd.int .i64) 3 w' w.heap.size (fun _ => True) u531002 x531002_1) ∧ Aside0 (w'.heap[gb526]? = some (.cells #[(.slice none 0 0), (.slice none 0 0), (.slice none 0 0)] 112 (0, 0))) ∧ Aside0 (w'.heap[gb530]? = some (.cells #[u531000, u531001, u531002] 112 (0, 0))) ∧ Aside0 (Below w.heap.size w w'))
        case atStart => exact ⟨(0), (by first | rfl | (simp; done) | (simp [*]; done)), H', ⟨Nat.le_refl _⟩, ⟨by (with_reducible repeat (first | apply Kd.R_alloc | apply Kd.R_drewN | apply Kd.R_drew)); exact HO_531000.out⟩, ⟨by (with_reducible repeat (first | apply Kd.R_alloc | apply Kd.R_drewN | apply Kd.R_drew)); exact HO_531001.out⟩, ⟨by (with_reducible repeat (first | apply Kd.R_alloc | apply Kd.R_drewN | apply Kd.R_drew)); exact HO_531002.out⟩, ⟨by (with_reducible repeat (first | refine blk_drewN ?_ _ | refine blk_drew ?_ | refine blk_alloc ?_ _)); exact BK526.out⟩, ⟨by (with_reducible repeat (first | refine blk_drewN ?_ _ | refine blk_drew ?_ | refine blk_alloc ?_ _)); exact BK530.out⟩, ⟨by repeat (first | (with_reducible first | exact HB.out | apply below_alloc | apply pw_below_drewN | apply below_drew1 | refine below_set ?_ GE526.out | refine below_set ?_ GE530.out) | exact HB.out)⟩⟩
        case round =>
         clear H'; (try clear c1); (try clear c2); (try clear c2b0); (try clear c2b1); (try clear p2); (try clear c3); (try clear c3b0); (try clear c3b1); (try clear p5); (try clear q5); (try clear hx5); (try clear p6); (try clear c7); (try clear c8); (try clear c9); (try clear c11); (try clear c11b0); (try clear c12); (try clear c12b0); (try clear c14); (try clear c14b0); (try clear c14b1); (try clear hcz10_0); (try clear hcz10_1); (try clear hcz10_2); (try clear hfz10_0); (try clear hfz10_1); (try clear hfz10_2); (try clear hx531_0); (try clear hx531_1); (try clear hx531_2); (try clear hx531_3); (try clear hx531_4); (try clear hx531_5); (try clear hx531_6); (try clear p2); (try clear p531); (try clear q531)
         obtain ⟨x5_2, rfl, HA, HK2, HO_531000, HO_531001, HO_531002, BK526, BK530, HB⟩ := hrel
         cases gk with
         | zero => exact absurd HA.out (by simp [dowelref20_tables.l1])
         | succ k2 =>
          have H := HA.out
          clear HA
          simp only [dowelref20_tables.l1] at H
          by_cases c15 : x5_2 < (x531000_1.length : Int)
          ·rw [if_pos c15] at H
           have c15b0 : decide (x5_2 < (x531000_1.length : Int)) = true := decide_eq_true c15
           clear c15
           by_cases c16 : 0 ≤ x5_2
           ·rw [if_pos c16] at H
            have c16b0 : decide (0 ≤ x5_2) = true := decide_eq_true c16
            clear c16
            by_cases c17 : 0 ≤ x4_1
            ·rw [if_pos c17] at H
             have c17b0 : decide (0 ≤ x4_1) = true := decide_eq_true c17
             clear c17
             by_cases c18 : x4_1 < (l0.length : Int)
             ·rw [if_pos c18] at H
              have c18b0 : decide (x4_1 < (l0.length : Int)) = true := decide_eq_true c18
              clear c18
              by_cases c19 : (!(((rd_T76 x531000_1 x5_2).f0) == ((rd_T78 l0 x4_1).f2.f0)) || (!(((rd_T76 x531000_1 x5_2).f1) == ((rd_T78 l0 x4_1).f2.f1)) || (!(((rd_T76 x531000_1 x5_2).f2) == ((rd_T78 l0 x4_1).f2.f2)) || (!(((rd_T76 x531000_1 x5_2).f3) == ((rd_T78 l0 x4_1).f2.f3)))))) = true
              ·rw [if_pos c19] at H
               have c19b0 : (!(((rd_T76 x531000_1 x5_2).f0) == ((rd_T78 l0 x4_1).f2.f0)) || (!(((rd_T76 x531000_1 x5_2).f1) == ((rd_T78 l0 x4_1).f2.f1)) || (!(((rd_T76 x531000_1 x5_2).f2) == ((rd_T78 l0 x4_1).f2.f2)) || (!(((rd_T76 x531000_1 x5_2).f3) == ((rd_T78 l0 x4_1).f2.f3)))))) = true := c19
               clear c19
               have H' := Aside0.mk H
               clear H
               try go_wp2
               have n0_ := Aside0.mk (Kd.R_drew HO_531000.out)
               have n1_ := Aside0.mk (Kd.R_drew HO_531001.out)
               have n2_ := Aside0.mk (Kd.R_drew HO_531002.out)
               have n3_ := Aside0.mk (blk_drew BK526.out)
               have n4_ := Aside0.mk (blk_drew BK530.out)
               have n5_ := Aside0.mk (below_drew1 HB.out)
               clear HO_531000; clear HO_531001; clear HO_531002; clear BK526; clear BK530; clear HB
               have HO_531000 := n0_
               have HO_531001 := n1_
               have HO_531002 := n2_
               have BK526 := n3_
               have BK530 := n4_
               have HB := n5_
               clear n0_ n1_ n2_ n3_ n4_ n5_
               obtain ⟨Ao21, co21, eo21⟩ := Kd.R_slice HO_531000.out
               (first | subst eo21 | (injection eo21 with f1_ f2_ f3_; have f4_ := f1_.symm; have f5_ := f3_.symm; clear f1_ f2_ f3_; subst f4_; subst f5_))
               have p533 : 0 ≤ (x5_2 : Int) := of_decide_eq_true (by first | (with_reducible assumption) | assumption)
               have q533 : x5_2 < (x531000_1.length : Int) := of_decide_eq_true (by first | (with_reducible assumption) | assumption)
               obtain ⟨ad533, e533, hx533_0, hx533_1, hx533_2, hx533_3⟩ := at_T76 (Kd.R_reads' HO_531000.out).2.2 x5_2 p533 q533
               cases e533
               replace p533 := eq_true p533
               replace q533 := eq_true q533
               have p534 : 0 ≤ (x4_1 : Int) := of_decide_eq_true (by first | (with_reducible assumption) | assumption)
               have q534 : x4_1 < (l0.length : Int) := of_decide_eq_true (by first | (with_reducible assumption) | assumption)
               obtain ⟨ad534, e534, hx534_0, hx534_1, hx534_2, hx534_3, hx534_4, hx534_5, hx534_6⟩ := at_T78 HR0.out x4_1 p534 q534
               have hw534_6 := hx534_6
               have hw534_5 := hx534_5
               have hw534_4 := hx534_4
               have hw534_3 := hx534_3
               have hw534_2 := hx534_2
               have hw534_1 := hx534_1
               have hw534_0 := hx534_0
               obtain rfl : ad531 = ad534 := (by injection e534)
               replace hx534_0 := (HB.out.cell (sqd w _ hx534_0)).trans hx534_0
               replace hx534_1 := (HB.out.cell (sqd w _ hx534_1)).trans hx534_1
               replace hx534_2 := (HB.out.cell (sqd w _ hx534_2)).trans hx534_2
               replace hx534_3 := (HB.out.cell (sqd w _ hx534_3)).trans hx534_3
               replace hx534_4 := (HB.out.cell (sqd w _ hx534_4)).trans hx534_4
               replace hx534_5 := (HB.out.cell (sqd w _ hx534_5)).trans hx534_5
               replace hx534_6 := (HB.out.cell (sqd w _ hx534_6)).trans hx534_6
               replace p534 := eq_true p534
               replace q534 := eq_true q534
               refine start_ (n := 18) (S := fun w' => w'.cell? ⟨gb530, 0, none⟩ = some (.slice (some ad533) x531000_1.length co21) ∧ w'.cell? ⟨gb530, 1, none⟩ = some (u531001) ∧ w'.cell? ⟨gb530, 2, none⟩ = some (u531002) ∧ w'.cell? (ad533.add ((x5_2).toNat * 4)) = some (.int .u64 ((rd_T76 x531000_1 x5_2).f0)) ∧ w'.cell? ⟨(ad533.add ((x5_2).toNat * 4)).block, (ad533.add ((x5_2).toNat * 4)).off + 1, none⟩ = some (.int .u64 ((rd_T76 x531000_1 x5_2).f1)) ∧ w'.cell? ⟨(ad533.add ((x5_2).toNat * 4)).block, (ad533.add ((x5_2).toNat * 4)).off + 2, none⟩ = some (.int .u64 ((rd_T76 x531000_1 x5_2).f2)) ∧ w'.cell? ⟨(ad533.add ((x5_2).toNat * 4)).block, (ad533.add ((x5_2).toNat * 4)).off + 3, none⟩ = some (.int .u64 ((rd_T76 x531000_1 x5_2).f3)) ∧ w'.cell? (ad531.add ((x4_1).toNat * 7)) = some (.int .i64 ((rd_T78 l0 x4_1).f0)) ∧ w'.cell? ⟨(ad531.add ((x4_1).toNat * 7)).block, (ad531.add ((x4_1).toNat * 7)).off + 1, none⟩ = some (.int .i64 ((rd_T78 l0 x4_1).f1)) ∧ w'.cell? ⟨(ad531.add ((x4_1).toNat * 7)).block, (ad531.add ((x4_1).toNat * 7)).off + 2, none⟩ = some (.int .u64 ((rd_T78 l0 x4_1).f2.f0)) ∧ w'.cell? ⟨(ad531.add ((x4_1).toNat * 7)).block, (ad531.add ((x4_1).toNat * 7)).off + 3, none⟩ = some (.int .u64 ((rd_T78 l0 x4_1).f2.f1)) ∧ w'.cell? ⟨(ad531.add ((x4_1).toNat * 7)).block, (ad531.add ((x4_1).toNat * 7)).off + 4, none⟩ = some (.int .u64 ((rd_T78 l0 x4_1).f2.f2)) ∧ w'.cell? ⟨(ad531.add ((x4_1).toNat * 7)).block, (ad531.add ((x4_1).toNat * 7)).off + 5, none⟩ = some (.int .u64 ((rd_T78 l0 x4_1).f2.f3)) ∧ w'.cell? ⟨(ad531.add ((x4_1).toNat * 7)).block, (ad531.add ((x4_1).toNat * 7)).off + 6, none⟩ = some (.string ((rd_T78 l0 x4_1).f3))) (ds := []) #[false,false,false,false,false,false,false,false,false,false,false,false,false,false,false,false,false,false] (by kernel_rfl) rfl rfl ⟨(blk_cell BK530.out 0).trans rfl, (blk_cell BK530.out 1).trans rfl, (blk_cell BK530.out 2).trans rfl, hx533_0, hx533_1, hx533_2, hx533_3, ((HB.out.cell (sqd w _ hw534_0)).trans hw534_0), ((HB.out.cell (sqd w _ hw534_1)).trans hw534_1), ((HB.out.cell (sqd w _ hw534_2)).trans hw534_2), ((HB.out.cell (sqd w _ hw534_3)).trans hw534_3), ((HB.out.cell (sqd w _ hw534_4)).trans hw534_4), ((HB.out.cell (sqd w _ hw534_5)).trans hw534_5), ((HB.out.cell (sqd w _ hw534_6)).trans hw534_6)⟩ (fun hHeld => ?_); refine with_tabW dowelref20_tables.tab8 dowelref20_tables.bits8 (fun HT_ HW_ => ?_)
               generalize wr.drew = w20 at HO_531000 HO_531001 HO_531002 BK526 BK530 HB hx533_0 hx533_1 hx533_2 hx533_3 hx534_0 hx534_1 hx534_2 hx534_3 hx534_4 hx534_5 hx534_6 hHeld ⊢
               refine pure_ (i := 0) (N := some 24) (v := ?_) (a' := ?_) #[true,false,false,false,false,false,false,false,false,false,false,false,false,false,false,false,false,false] rfl rfl (any_of HT_.out (by kernel_rfl)) (fun _ _ _ h => h) (Or.inl ⟨by rfl, ?_⟩) ?_ ?_
               rotate_left; (· intro w'; go_simp; with_reducible rfl); rotate_left; (· simp only [Act.put, sqa, sqb, sqc, i64_w, i32_w]; rfl)
               refine pure_ (i := 1) (N := some 25) (v := ?_) (a' := ?_) #[true,true,false,false,false,false,false,false,false,false,false,false,false,false,false,false,false,false] rfl rfl (any_of HT_.out (by kernel_rfl)) (fun _ _ _ h => h) (Or.inl ⟨by rfl, ?_⟩) ?_ ?_
               rotate_left; (· intro w'; go_simp; with_reducible rfl); rotate_left; (· simp only [Act.put, sqa, sqb, sqc, i64_w, i32_w]; rfl)
               refine take_ (i := 2) (N := some 26) (v := ?_) (a' := ?_) #[true,true,true,false,false,false,false,false,false,false,false,false,false,false,false,false,false,false] rfl rfl (take_ofW HT_.out HW_.out (by kernel_rfl)) (fun _ _ _ h => h) (Or.inl ⟨by rfl, ?_⟩) hHeld ?_ ?_
               rotate_left; (· rintro w' ⟨s0, s1, s2, s3, s4, s5, s6, s7, s8, s9, s10, s11, s12, s13⟩; go_simp; with_reducible rfl); rotate_left; (· simp only [Act.put, sqa, sqb, sqc, i64_w, i32_w]; rfl)
               refine pure_ (i := 3) (N := some 27) (v := ?_) (a' := ?_) #[true,true,true,true,false,false,false,false,false,false,false,false,false,false,false,false,false,false] rfl rfl (any_of HT_.out (by kernel_rfl)) (fun _ _ _ h => h) (Or.inl ⟨by rfl, ?_⟩) ?_ ?_
               rotate_left; (· intro w'; go_simp; with_reducible rfl); rotate_left; (· simp only [Act.put, sqa, sqb, sqc, i64_w, i32_w]; rfl)
               refine pure_ (i := 4) (N := some 28) (v := ?_) (a' := ?_) #[true,true,true,true,true,false,false,false,false,false,false,false,false,false,false,false,false,false] rfl rfl (any_of HT_.out (by kernel_rfl)) (fun _ _ _ h => h) (Or.inl ⟨by rfl, ?_⟩) ?_ ?_
               rotate_left; (· intro w'; go_simp; with_reducible rfl); rotate_left; (· simp only [Act.put, sqa, sqb, sqc, i64_w, i32_w]; rfl)
               refine pure_ (i := 5) (N := some 29) (v := ?_) (a' := ?_) #[true,true,true,true,true,true,false,false,false,false,false,false,false,false,false,false,false,false] rfl rfl (any_of HT_.out (by kernel_rfl)) (fun _ _ _ h => h) (Or.inl ⟨by rfl, ?_⟩) ?_ ?_
               rotate_left; (· intro w'; go_simp; with_reducible rfl); rotate_left; (· simp only [Act.put, sqa, sqb, sqc, i64_w, i32_w]; rfl)
               refine pure_ (i := 6) (N := some 30) (v := ?_) (a' := ?_) #[true,true,true,true,true,true,true,false,false,false,false,false,false,false,false,false,false,false] rfl rfl (any_of HT_.out (by kernel_rfl)) (fun _ _ _ h => h) (Or.inl ⟨by rfl, ?_⟩) ?_ ?_
               rotate_left; (· intro w'; go_simp; with_reducible rfl); rotate_left; (· simp only [Act.put, sqa, sqb, sqc, i64_w, i32_w]; rfl)
               refine pure_ (i := 8) (N := some 32) (v := ?_) (a' := ?_) #[true,true,true,true,true,true,true,false,true,false,false,false,false,false,false,false,false,false] rfl rfl (any_of HT_.out (by kernel_rfl)) (fun _ _ _ h => h) (Or.inl ⟨by rfl, ?_⟩) ?_ ?_
               rotate_left; (· intro w'; go_simp; with_reducible rfl); rotate_left; (· simp only [Act.put, sqa, sqb, sqc, i64_w, i32_w]; rfl)
               refine pure_ (i := 11) (N := some 35) (v := ?_) (a' := ?_) #[true,true,true,true,true,true,true,false,true,false,false,true,false,false,false,false,false,false] rfl rfl (any_of HT_.out (by kernel_rfl)) (fun _ _ _ h => h) (Or.inl ⟨by rfl, ?_⟩) ?_ ?_
               rotate_left; (· intro w'; go_simp; with_reducible rfl); rotate_left; (· simp only [Act.put, sqa, sqb, sqc, i64_w, i32_w]; rfl)
               refine pure_ (i := 12) (N := some 36) (v := ?_) (a' := ?_) #[true,true,true,true,true,true,true,false,true,false,false,true,true,false,false,false,false,false] rfl rfl (any_of HT_.out (by kernel_rfl)) (fun _ _ _ h => h) (Or.inl ⟨by rfl, ?_⟩) ?_ ?_
               rotate_left; (· intro w'; go_simp; with_reducible rfl); rotate_left; (· simp only [Act.put, sqa, sqb, sqc, i64_w, i32_w]; rfl)
               refine pure_ (i := 13) (N := some 37) (v := ?_) (a' := ?_) #[true,true,true,true,true,true,true,false,true,false,false,true,true,true,false,false,false,false] rfl rfl (any_of HT_.out (by kernel_rfl)) (fun _ _ _ h => h) (Or.inl ⟨by rfl, ?_⟩) ?_ ?_
               rotate_left; (· intro w'; go_simp; with_reducible rfl); rotate_left; (· simp only [Act.put, sqa, sqb, sqc, i64_w, i32_w]; rfl)
               refine pure_ (i := 14) (N := some 38) (v := ?_) (a' := ?_) #[true,true,true,true,true,true,true,false,true,false,false,true,true,true,true,false,false,false] rfl rfl (any_of HT_.out (by kernel_rfl)) (fun _ _ _ h => h) (Or.inl ⟨by rfl, ?_⟩) ?_ ?_
               rotate_left; (· intro w'; go_simp; with_reducible rfl); rotate_left; (· simp only [Act.put, sqa, sqb, sqc, i64_w, i32_w]; rfl)
               refine take_ (i := 7) (N := some 31) (v := ?_) (a' := ?_) #[true,true,true,true,true,true,true,true,true,false,false,true,true,true,true,false,false,false] rfl rfl (take_ofW HT_.out HW_.out (by kernel_rfl)) (fun _ _ _ h => h) (Or.inl ⟨by rfl, ?_⟩) hHeld ?_ ?_
               rotate_left; (· rintro w' ⟨s0, s1, s2, s3, s4, s5, s6, s7, s8, s9, s10, s11, s12, s13⟩; go_simp; with_reducible rfl); rotate_left; (· simp only [Act.put, sqa, sqb, sqc, i64_w, i32_w]; rfl)
               refine pure_ (i := 9) (N := some 33) (v := ?_) (a' := ?_) #[true,true,true,true,true,true,true,true,true,true,false,true,true,true,true,false,false,false] rfl rfl (any_of HT_.out (by kernel_rfl)) (fun _ _ _ h => h) (Or.inl ⟨by rfl, ?_⟩) ?_ ?_
               rotate_left; (· intro w'; go_simp; with_reducible rfl); rotate_left; (· simp only [Act.put, sqa, sqb, sqc, i64_w, i32_w]; rfl)
               refine take_ (i := 10) (N := some 34) (v := ?_) (a' := ?_) #[true,true,true,true,true,true,true,true,true,true,true,true,true,true,true,false,false,false] rfl rfl (take_ofW HT_.out HW_.out (by kernel_rfl)) (fun _ _ _ h => h) (Or.inl ⟨by rfl, ?_⟩) hHeld ?_ ?_
               rotate_left; (· rintro w' ⟨s0, s1, s2, s3, s4, s5, s6, s7, s8, s9, s10, s11, s12, s13⟩; go_simp; with_reducible rfl); rotate_left; (· simp only [Act.put, sqa, sqb, sqc, i64_w, i32_w]; rfl)
               refine take_ (i := 15) (N := some 39) (v := ?_) (a' := ?_) #[true,true,true,true,true,true,true,true,true,true,true,true,true,true,true,true,false,false] rfl rfl (take_ofW HT_.out HW_.out (by kernel_rfl)) (fun _ _ _ h => h) (Or.inl ⟨by rfl, ?_⟩) hHeld ?_ ?_
               rotate_left; (· rintro w' ⟨s0, s1, s2, s3, s4, s5, s6, s7, s8, s9, s10, s11, s12, s13⟩; go_simp; with_reducible rfl); rotate_left; (· simp only [Act.put, sqa, sqb, sqc, i64_w, i32_w]; rfl)
               refine pure_ (i := 16) (N := some 40) (v := ?_) (a' := ?_) #[true,true,true,true,true,true,true,true,true,true,true,true,true,true,true,true,true,false] rfl rfl (any_of HT_.out (by kernel_rfl)) (fun _ _ _ h => h) (Or.inl ⟨by rfl, ?_⟩) ?_ ?_
               rotate_left; (· intro w'; go_simp; with_reducible rfl); rotate_left; (· simp only [Act.put, sqa, sqb, sqc, i64_w, i32_w]; rfl)
               refine pure_ (i := 17) (N := some 41) (v := ?_) (a' := ?_) #[true,true,true,true,true,true,true,true,true,true,true,true,true,true,true,true,true,true] rfl rfl (any_of HT_.out (by kernel_rfl)) (fun _ _ _ h => h) (Or.inl ⟨by rfl, ?_⟩) ?_ ?_
               rotate_left; (· intro w'; go_simp; with_reducible rfl); rotate_left; (· simp only [Act.put, sqa, sqb, sqc, i64_w, i32_w]; rfl)
               refine done_ (done_of HT_.out (by kernel_rfl)) ?_
               try go_wp2
               go_roundg k2
               case measure => have := HK1.out; have := HK2.out; omega
               case rel => exact ⟨(wrap64 (x5_2 + 1)), (by first | rfl | (simp; done) | (simp [*]; done)), H', ⟨by have := HK1.out; have := HK2.out; omega⟩, ⟨by (with_reducible repeat (first | apply Kd.R_alloc | apply Kd.R_drewN | apply Kd.R_drew)); exact HO_531000.out⟩, ⟨by (with_reducible repeat (first | apply Kd.R_alloc | apply Kd.R_drewN | apply Kd.R_drew)); exact HO_531001.out⟩, ⟨by (with_reducible repeat (first | apply Kd.R_alloc | apply Kd.R_drewN | apply Kd.R_drew)); exact HO_531002.out⟩, ⟨by (with_reducible repeat (first | refine blk_drewN ?_ _ | refine blk_drew ?_ | refine blk_alloc ?_ _)); exact BK526.out⟩, ⟨by (with_reducible repeat (first | refine blk_drewN ?_ _ | refine blk_drew ?_ | refine blk_alloc ?_ _)); exact BK530.out⟩, ⟨by repeat (first | (with_reducible first | exact HB.out | apply below_alloc | apply pw_below_drewN | apply below_drew1 | refine below_set ?_ GE526.out | refine below_set ?_ GE530.out) | exact HB.out)⟩⟩
              ·rw [if_neg c19] at H
               have c19b0 : (!(((rd_T76 x531000_1 x5_2).f0) == ((rd_T78 l0 x4_1).f2.f0)) || (!(((rd_T76 x531000_1 x5_2).f1) == ((rd_T78 l0 x4_1).f2.f1)) || (!(((rd_T76 x531000_1 x5_2).f2) == ((rd_T78 l0 x4_1).f2.f2)) || (!(((rd_T76 x531000_1 x5_2).f3) == ((rd_T78 l0 x4_1).f2.f3)))))) = false := by simpa using c19
               clear c19
               by_cases c22 : x5_2 = (x531000_1.length : Int)
               ·rw [if_pos c22] at H
                have c22b0 : (x5_2 == (x531000_1.length : Int)) = true := beq_iff_eq.mpr c22
                have c22b1 : (x5_2 != (x531000_1.length : Int)) = false := bne_eq_false_iff_eq.mpr c22
                clear c22
                by_cases c23 : x531000_1.length < 4398046511104
                ·rw [if_pos c23] at H
                 have LMc23 := Aside0.mk c23; clear c23
                 obtain ⟨y536, hy536⟩ : ∃ y_ : List (S76), y_ = (x531000_1 ++ [(⟨(rd_T78 l0 x4_1).f2.f0, (rd_T78 l0 x4_1).f2.f1, (rd_T78 l0 x4_1).f2.f2, (rd_T78 l0 x4_1).f2.f3⟩ : S76)]) := ⟨_, rfl⟩
                 replace H : (if x4_1 < (x531002_1.length : Int) then (dowelref20_tables.l0 k2 l0 (wrap64 (x4_1 + 1)) y536 x531001_1 (x531002_1.set (x4_1 : Int).toNat x5_2)) else (none)) = some (r1, r2, r3) := by first | (rw [hy536]; with_reducible exact H) | (have H2_ := (Option.bind_some _ _).symm.trans H; rw [hy536]; with_reducible exact H2_) | (have H2_ := (Option.bind_some _ _).symm.trans H; with_reducible exact H2_) | with_reducible exact H | (rw [hy536]; exact H) | exact H
                 have Ny536 := Aside0.mk hy536; clear hy536
                 by_cases c24 : x4_1 < (x531002_1.length : Int)
                 ·rw [if_pos c24] at H
                  have c24b0 : decide (x4_1 < (x531002_1.length : Int)) = true := decide_eq_true c24
                  clear c24
                  obtain ⟨y539, hy539⟩ : ∃ y_ : List Int, y_ = (x531002_1.set (x4_1 : Int).toNat x5_2) := ⟨_, rfl⟩
                  replace H : (dowelref20_tables.l0 k2 l0 (wrap64 (x4_1 + 1)) y536 x531001_1 y539) = some (r1, r2, r3) := by first | (rw [hy539]; with_reducible exact H) | (have H2_ := (Option.bind_some _ _).symm.trans H; rw [hy539]; with_reducible exact H2_) | (have H2_ := (Option.bind_some _ _).symm.trans H; with_reducible exact H2_) | with_reducible exact H | (rw [hy539]; exact H) | exact H
                  have Ny539 := Aside0.mk hy539; clear hy539
                  have H' := Aside0.mk H
                  clear H
                  try go_wp2
                  have n0_ := Aside0.mk (Kd.R_drew HO_531000.out)
                  have n1_ := Aside0.mk (Kd.R_drew HO_531001.out)
                  have n2_ := Aside0.mk (Kd.R_drew HO_531002.out)
                  have n3_ := Aside0.mk (blk_drew BK526.out)
                  have n4_ := Aside0.mk (blk_drew BK530.out)
                  have n5_ := Aside0.mk (below_drew1 HB.out)
                  clear HO_531000; clear HO_531001; clear HO_531002; clear BK526; clear BK530; clear HB
                  have HO_531000 := n0_
                  have HO_531001 := n1_
                  have HO_531002 := n2_
                  have BK526 := n3_
                  have BK530 := n4_
                  have HB := n5_
                  clear n0_ n1_ n2_ n3_ n4_ n5_
                  obtain ⟨Ao27, co27, eo27⟩ := Kd.R_slice HO_531000.out
                  (first | subst eo27 | (injection eo27 with f1_ f2_ f3_; have f4_ := f1_.symm; have f5_ := f3_.symm; clear f1_ f2_ f3_; subst f4_; subst f5_))
                  have p533 : 0 ≤ (x5_2 : Int) := of_decide_eq_true (by first | (with_reducible assumption) | assumption)
                  have q533 : x5_2 < (x531000_1.length : Int) := of_decide_eq_true (by first | (with_reducible assumption) | assumption)
                  obtain ⟨ad533, e533, hx533_0, hx533_1, hx533_2, hx533_3⟩ := at_T76 (Kd.R_reads' HO_531000.out).2.2 x5_2 p533 q533
                  cases e533
                  replace p533 := eq_true p533
                  replace q533 := eq_true q533
                  have p534 : 0 ≤ (x4_1 : Int) := of_decide_eq_true (by first | (with_reducible assumption) | assumption)
                  have q534 : x4_1 < (l0.length : Int) := of_decide_eq_true (by first | (with_reducible assumption) | assumption)
                  obtain ⟨ad534, e534, hx534_0, hx534_1, hx534_2, hx534_3, hx534_4, hx534_5, hx534_6⟩ := at_T78 HR0.out x4_1 p534 q534
                  have hw534_6 := hx534_6
                  have hw534_5 := hx534_5
                  have hw534_4 := hx534_4
                  have hw534_3 := hx534_3
                  have hw534_2 := hx534_2
                  have hw534_1 := hx534_1
                  have hw534_0 := hx534_0
                  obtain rfl : ad531 = ad534 := (by injection e534)
                  replace hx534_0 := (HB.out.cell (sqd w _ hx534_0)).trans hx534_0
                  replace hx534_1 := (HB.out.cell (sqd w _ hx534_1)).trans hx534_1
                  replace hx534_2 := (HB.out.cell (sqd w _ hx534_2)).trans hx534_2
                  replace hx534_3 := (HB.out.cell (sqd w _ hx534_3)).trans hx534_3
                  replace hx534_4 := (HB.out.cell (sqd w _ hx534_4)).trans hx534_4
                  replace hx534_5 := (HB.out.cell (sqd w _ hx534_5)).trans hx534_5
                  replace hx534_6 := (HB.out.cell (sqd w _ hx534_6)).trans hx534_6
                  replace p534 := eq_true p534
                  replace q534 := eq_true q534
                  refine start_ (n := 18) (S := fun w' => w'.cell? ⟨gb530, 0, none⟩ = some (.slice (some ad533) x531000_1.length co27) ∧ w'.cell? ⟨gb530, 1, none⟩ = some (u531001) ∧ w'.cell? ⟨gb530, 2, none⟩ = some (u531002) ∧ w'.cell? (ad533.add ((x5_2).toNat * 4)) = some (.int .u64 ((rd_T76 x531000_1 x5_2).f0)) ∧ w'.cell? ⟨(ad533.add ((x5_2).toNat * 4)).block, (ad533.add ((x5_2).toNat * 4)).off + 1, none⟩ = some (.int .u64 ((rd_T76 x531000_1 x5_2).f1)) ∧ w'.cell? ⟨(ad533.add ((x5_2).toNat * 4)).block, (ad533.add ((x5_2).toNat * 4)).off + 2, none⟩ = some (.int .u64 ((rd_T76 x531000_1 x5_2).f2)) ∧ w'.cell? ⟨(ad533.add ((x5_2).toNat * 4)).block, (ad533.add ((x5_2).toNat * 4)).off + 3, none⟩ = some (.int .u64 ((rd_T76 x531000_1 x5_2).f3)) ∧ w'.cell? (ad531.add ((x4_1).toNat * 7)) = some (.int .i64 ((rd_T78 l0 x4_1).f0)) ∧ w'.cell? ⟨(ad531.add ((x4_1).toNat * 7)).block, (ad531.add ((x4_1).toNat * 7)).off + 1, none⟩ = some (.int .i64 ((rd_T78 l0 x4_1).f1)) ∧ w'.cell? ⟨(ad531.add ((x4_1).toNat * 7)).block, (ad531.add ((x4_1).toNat * 7)).off + 2, none⟩ = some (.int .u64 ((rd_T78 l0 x4_1).f2.f0)) ∧ w'.cell? ⟨(ad531.add ((x4_1).toNat * 7)).block, (ad531.add ((x4_1).toNat * 7)).off + 3, none⟩ = some (.int .u64 ((rd_T78 l0 x4_1).f2.f1)) ∧ w'.cell? ⟨(ad531.add ((x4_1).toNat * 7)).block, (ad531.add ((x4_1).toNat * 7)).off + 4, none⟩ = some (.int .u64 ((rd_T78 l0 x4_1).f2.f2)) ∧ w'.cell? ⟨(ad531.add ((x4_1).toNat * 7)).block, (ad531.add ((x4_1).toNat * 7)).off + 5, none⟩ = some (.int .u64 ((rd_T78 l0 x4_1).f2.f3)) ∧ w'.cell? ⟨(ad531.add ((x4_1).toNat * 7)).block, (ad531.add ((x4_1).toNat * 7)).off + 6, none⟩ = some (.string ((rd_T78 l0 x4_1).f3))) (ds := []) #[false,false,false,false,false,false,false,false,false,false,false,false,false,false,false,false,false,false] (by kernel_rfl) rfl rfl ⟨(blk_cell BK530.out 0).trans rfl, (blk_cell BK530.out 1).trans rfl, (blk_cell BK530.out 2).trans rfl, hx533_0, hx533_1, hx533_2, hx533_3, ((HB.out.cell (sqd w _ hw534_0)).trans hw534_0), ((HB.out.cell (sqd w _ hw534_1)).trans hw534_1), ((HB.out.cell (sqd w _ hw534_2)).trans hw534_2), ((HB.out.cell (sqd w _ hw534_3)).trans hw534_3), ((HB.out.cell (sqd w _ hw534_4)).trans hw534_4), ((HB.out.cell (sqd w _ hw534_5)).trans hw534_5), ((HB.out.cell (sqd w _ hw534_6)).trans hw534_6)⟩ (fun hHeld => ?_); refine with_tabW dowelref20_tables.tab8 dowelref20_tables.bits8 (fun HT_ HW_ => ?_)
                  generalize wr.drew = w26 at HO_531000 HO_531001 HO_531002 BK526 BK530 HB hx533_0 hx533_1 hx533_2 hx533_3 hx534_0 hx534_1 hx534_2 hx534_3 hx534_4 hx534_5 hx534_6 hHeld ⊢
                  refine pure_ (i := 0) (N := some 24) (v := ?_) (a' := ?_) #[true,false,false,false,false,false,false,false,false,false,false,false,false,false,false,false,false,false] rfl rfl (any_of HT_.out (by kernel_rfl)) (fun _ _ _ h => h) (Or.inl ⟨by rfl, ?_⟩) ?_ ?_
                  rotate_left; (· intro w'; go_simp; with_reducible rfl); rotate_left; (· simp only [Act.put, sqa, sqb, sqc, i64_w, i32_w]; rfl)
                  refine pure_ (i := 1) (N := some 25) (v := ?_) (a' := ?_) #[true,true,false,false,false,false,false,false,false,false,false,false,false,false,false,false,false,false] rfl rfl (any_of HT_.out (by kernel_rfl)) (fun _ _ _ h => h) (Or.inl ⟨by rfl, ?_⟩) ?_ ?_
                  rotate_left; (· intro w'; go_simp; with_reducible rfl); rotate_left; (· simp only [Act.put, sqa, sqb, sqc, i64_w, i32_w]; rfl)
                  refine take_ (i := 2) (N := some 26) (v := ?_) (a' := ?_) #[true,true,true,false,false,false,false,false,false,false,false,false,false,false,false,false,false,false] rfl rfl (take_ofW HT_.out HW_.out (by kernel_rfl)) (fun _ _ _ h => h) (Or.inl ⟨by rfl, ?_⟩) hHeld ?_ ?_
                  rotate_left; (· rintro w' ⟨s0, s1, s2, s3, s4, s5, s6, s7, s8, s9, s10, s11, s12, s13⟩; go_simp; with_reducible rfl); rotate_left; (· simp only [Act.put, sqa, sqb, sqc, i64_w, i32_w]; rfl)
                  refine pure_ (i := 3) (N := some 27) (v := ?_) (a' := ?_) #[true,true,true,true,false,false,false,false,false,false,false,false,false,false,false,false,false,false] rfl rfl (any_of HT_.out (by kernel_rfl)) (fun _ _ _ h => h) (Or.inl ⟨by rfl, ?_⟩) ?_ ?_
                  rotate_left; (· intro w'; go_simp; with_reducible rfl); rotate_left; (· simp only [Act.put, sqa, sqb, sqc, i64_w, i32_w]; rfl)
                  refine pure_ (i := 4) (N := some 28) (v := ?_) (a' := ?_) #[true,true,true,true,true,false,false,false,false,false,false,false,false,false,false,false,false,false] rfl rfl (any_of HT_.out (by kernel_rfl)) (fun _ _ _ h => h) (Or.inl ⟨by rfl, ?_⟩) ?_ ?_
                  rotate_left; (· intro w'; go_simp; with_reducible rfl); rotate_left; (· simp only [Act.put, sqa, sqb, sqc, i64_w, i32_w]; rfl)
                  refine pure_ (i := 5) (N := some 29) (v := ?_) (a' := ?_) #[true,true,true,true,true,true,false,false,false,false,false,false,false,false,false,false,false,false] rfl rfl (any_of HT_.out (by kernel_rfl)) (fun _ _ _ h => h) (Or.inl ⟨by rfl, ?_⟩) ?_ ?_
                  rotate_left; (· intro w'; go_simp; with_reducible rfl); rotate_left; (· simp only [Act.put, sqa, sqb, sqc, i64_w, i32_w]; rfl)
                  refine pure_ (i := 6) (N := some 30) (v := ?_) (a' := ?_) #[true,true,true,true,true,true,true,false,false,false,false,false,false,false,false,false,false,false] rfl rfl (any_of HT_.out (by kernel_rfl)) (fun _ _ _ h => h) (Or.inl ⟨by rfl, ?_⟩) ?_ ?_
                  rotate_left; (· intro w'; go_simp; with_reducible rfl); rotate_left; (· simp only [Act.put, sqa, sqb, sqc, i64_w, i32_w]; rfl)
                  refine pure_ (i := 8) (N := some 32) (v := ?_) (a' := ?_) #[true,true,true,true,true,true,true,false,true,false,false,false,false,false,false,false,false,false] rfl rfl (any_of HT_.out (by kernel_rfl)) (fun _ _ _ h => h) (Or.inl ⟨by rfl, ?_⟩) ?_ ?_
                  rotate_left; (· intro w'; go_simp; with_reducible rfl); rotate_left; (· simp only [Act.put, sqa, sqb, sqc, i64_w, i32_w]; rfl)
                  refine pure_ (i := 11) (N := some 35) (v := ?_) (a' := ?_) #[true,true,true,true,true,true,true,false,true,false,false,true,false,false,false,false,false,false] rfl rfl (any_of HT_.out (by kernel_rfl)) (fun _ _ _ h => h) (Or.inl ⟨by rfl, ?_⟩) ?_ ?_
                  rotate_left; (· intro w'; go_simp; with_reducible rfl); rotate_left; (· simp only [Act.put, sqa, sqb, sqc, i64_w, i32_w]; rfl)
                  refine pure_ (i := 12) (N := some 36) (v := ?_) (a' := ?_) #[true,true,true,true,true,true,true,false,true,false,false,true,true,false,false,false,false,false] rfl rfl (any_of HT_.out (by kernel_rfl)) (fun _ _ _ h => h) (Or.inl ⟨by rfl, ?_⟩) ?_ ?_
                  rotate_left; (· intro w'; go_simp; with_reducible rfl); rotate_left; (· simp only [Act.put, sqa, sqb, sqc, i64_w, i32_w]; rfl)
                  refine pure_ (i := 13) (N := some 37) (v := ?_) (a' := ?_) #[true,true,true,true,true,true,true,false,true,false,false,true,true,true,false,false,false,false] rfl rfl (any_of HT_.out (by kernel_rfl)) (fun _ _ _ h => h) (Or.inl ⟨by rfl, ?_⟩) ?_ ?_
                  rotate_left; (· intro w'; go_simp; with_reducible rfl); rotate_left; (· simp only [Act.put, sqa, sqb, sqc, i64_w, i32_w]; rfl)
                  refine pure_ (i := 14) (N := some 38) (v := ?_) (a' := ?_) #[true,true,true,true,true,true,true,false,true,false,false,true,true,true,true,false,false,false] rfl rfl (any_of HT_.out (by kernel_rfl)) (fun _ _ _ h => h) (Or.inl ⟨by rfl, ?_⟩) ?_ ?_
                  rotate_left; (· intro w'; go_simp; with_reducible rfl); rotate_left; (· simp only [Act.put, sqa, sqb, sqc, i64_w, i32_w]; rfl)
                  refine take_ (i := 7) (N := some 31) (v := ?_) (a' := ?_) #[true,true,true,true,true,true,true,true,true,false,false,true,true,true,true,false,false,false] rfl rfl (take_ofW HT_.out HW_.out (by kernel_rfl)) (fun _ _ _ h => h) (Or.inl ⟨by rfl, ?_⟩) hHeld ?_ ?_
                  rotate_left; (· rintro w' ⟨s0, s1, s2, s3, s4, s5, s6, s7, s8, s9, s10, s11, s12, s13⟩; go_simp; with_reducible rfl); rotate_left; (· simp only [Act.put, sqa, sqb, sqc, i64_w, i32_w]; rfl)
                  refine pure_ (i := 9) (N := some 33) (v := ?_) (a' := ?_) #[true,true,true,true,true,true,true,true,true,true,false,true,true,true,true,false,false,false] rfl rfl (any_of HT_.out (by kernel_rfl)) (fun _ _ _ h => h) (Or.inl ⟨by rfl, ?_⟩) ?_ ?_
                  rotate_left; (· intro w'; go_simp; with_reducible rfl); rotate_left; (· simp only [Act.put, sqa, sqb, sqc, i64_w, i32_w]; rfl)
                  refine take_ (i := 10) (N := some 34) (v := ?_) (a' := ?_) #[true,true,true,true,true,true,true,true,true,true,true,true,true,true,true,false,false,false] rfl rfl (take_ofW HT_.out HW_.out (by kernel_rfl)) (fun _ _ _ h => h) (Or.inl ⟨by rfl, ?_⟩) hHeld ?_ ?_
                  rotate_left; (· rintro w' ⟨s0, s1, s2, s3, s4, s5, s6, s7, s8, s9, s10, s11, s12, s13⟩; go_simp; with_reducible rfl); rotate_left; (· simp only [Act.put, sqa, sqb, sqc, i64_w, i32_w]; rfl)
                  refine take_ (i := 15) (N := some 39) (v := ?_) (a' := ?_) #[true,true,true,true,true,true,true,true,true,true,true,true,true,true,true,true,false,false] rfl rfl (take_ofW HT_.out HW_.out (by kernel_rfl)) (fun _ _ _ h => h) (Or.inl ⟨by rfl, ?_⟩) hHeld ?_ ?_
                  rotate_left; (· rintro w' ⟨s0, s1, s2, s3, s4, s5, s6, s7, s8, s9, s10, s11, s12, s13⟩; go_simp; with_reducible rfl); rotate_left; (· simp only [Act.put, sqa, sqb, sqc, i64_w, i32_w]; rfl)
                  refine pure_ (i := 16) (N := some 40) (v := ?_) (a' := ?_) #[true,true,true,true,true,true,true,true,true,true,true,true,true,true,true,true,true,false] rfl rfl (any_of HT_.out (by kernel_rfl)) (fun _ _ _ h => h) (Or.inl ⟨by rfl, ?_⟩) ?_ ?_
                  rotate_left; (· intro w'; go_simp; with_reducible rfl); rotate_left; (· simp only [Act.put, sqa, sqb, sqc, i64_w, i32_w]; rfl)
                  refine pure_ (i := 17) (N := some 41) (v := ?_) (a' := ?_) #[true,true,true,true,true,true,true,true,true,true,true,true,true,true,true,true,true,true] rfl rfl (any_of HT_.out (by kernel_rfl)) (fun _ _ _ h => h) (Or.inl ⟨by rfl, ?_⟩) ?_ ?_
                  rotate_left; (· intro w'; go_simp; with_reducible rfl); rotate_left; (· simp only [Act.put, sqa, sqb, sqc, i64_w, i32_w]; rfl)
                  refine done_ (done_of HT_.out (by kernel_rfl)) ?_
                  have hnb28 := NB530_526.out
                  have hnc28 := NB526_530.out
                  have hcz29_0 : w26.cell? ⟨gb530, 0, none⟩ = some (.slice (some ad533) x531000_1.length co27) := (blk_cell BK530.out 0).trans rfl
                  have hcz29_1 : w26.cell? ⟨gb530, 1, none⟩ = some (u531001) := (blk_cell BK530.out 1).trans rfl
                  have hcz29_2 : w26.cell? ⟨gb530, 2, none⟩ = some (u531002) := (blk_cell BK530.out 2).trans rfl
                  have hfz29_0 := blk_frozen BK530.out 0
                  have hfz29_1 := blk_frozen BK530.out 1
                  have hfz29_2 := blk_frozen BK530.out 2
                  try go_wp2
                  have n0_ := Aside0.mk (Kd.R_drew HO_531000.out)
                  have n1_ := Aside0.mk (Kd.R_drew HO_531001.out)
                  have n2_ := Aside0.mk (Kd.R_drew HO_531002.out)
                  have n3_ := Aside0.mk (blk_drew BK526.out)
                  have n4_ := Aside0.mk (blk_drew BK530.out)
                  have n5_ := Aside0.mk (below_drew1 HB.out)
                  clear HO_531000; clear HO_531001; clear HO_531002; clear BK526; clear BK530; clear HB
                  have HO_531000 := n0_
                  have HO_531001 := n1_
                  have HO_531002 := n2_
                  have BK526 := n3_
                  have BK530 := n4_
                  have HB := n5_
                  clear n0_ n1_ n2_ n3_ n4_ n5_
                  have p535 : 0 ≤ (x4_1 : Int) := of_decide_eq_true (by first | (with_reducible assumption) | assumption)
                  have q535 : x4_1 < (l0.length : Int) := of_decide_eq_true (by first | (with_reducible assumption) | assumption)
                  obtain ⟨ad535, e535, hx535_0, hx535_1, hx535_2, hx535_3, hx535_4, hx535_5, hx535_6⟩ := at_T78 HR0.out x4_1 p535 q535
                  have hw535_6 := hx535_6
                  have hw535_5 := hx535_5
                  have hw535_4 := hx535_4
                  have hw535_3 := hx535_3
                  have hw535_2 := hx535_2
                  have hw535_1 := hx535_1
                  have hw535_0 := hx535_0
                  obtain rfl : ad531 = ad535 := (by injection e535)
                  replace hx535_0 := (HB.out.cell (sqd w _ hx535_0)).trans hx535_0
                  replace hx535_1 := (HB.out.cell (sqd w _ hx535_1)).trans hx535_1
                  replace hx535_2 := (HB.out.cell (sqd w _ hx535_2)).trans hx535_2
                  replace hx535_3 := (HB.out.cell (sqd w _ hx535_3)).trans hx535_3
                  replace hx535_4 := (HB.out.cell (sqd w _ hx535_4)).trans hx535_4
                  replace hx535_5 := (HB.out.cell (sqd w _ hx535_5)).trans hx535_5
                  replace hx535_6 := (HB.out.cell (sqd w _ hx535_6)).trans hx535_6
                  replace p535 := eq_true p535
                  replace q535 := eq_true q535
                  refine start_ (n := 11) (S := fun w' => w'.cell? ⟨gb530, 0, none⟩ = some (.slice (some ad533) x531000_1.length co27) ∧ w'.cell? ⟨gb530, 1, none⟩ = some (u531001) ∧ w'.cell? ⟨gb530, 2, none⟩ = some (u531002) ∧ w'.cell? (ad531.add ((x4_1).toNat * 7)) = some (.int .i64 ((rd_T78 l0 x4_1).f0)) ∧ w'.cell? ⟨(ad531.add ((x4_1).toNat * 7)).block, (ad531.add ((x4_1).toNat * 7)).off + 1, none⟩ = some (.int .i64 ((rd_T78 l0 x4_1).f1)) ∧ w'.cell? ⟨(ad531.add ((x4_1).toNat * 7)).block, (ad531.add ((x4_1).toNat * 7)).off + 2, none⟩ = some (.int .u64 ((rd_T78 l0 x4_1).f2.f0)) ∧ w'.cell? ⟨(ad531.add ((x4_1).toNat * 7)).block, (ad531.add ((x4_1).toNat * 7)).off + 3, none⟩ = some (.int .u64 ((rd_T78 l0 x4_1).f2.f1)) ∧ w'.cell? ⟨(ad531.add ((x4_1).toNat * 7)).block, (ad531.add ((x4_1).toNat * 7)).off + 4, none⟩ = some (.int .u64 ((rd_T78 l0 x4_1).f2.f2)) ∧ w'.cell? ⟨(ad531.add ((x4_1).toNat * 7)).block, (ad531.add ((x4_1).toNat * 7)).off + 5, none⟩ = some (.int .u64 ((rd_T78 l0 x4_1).f2.f3)) ∧ w'.cell? ⟨(ad531.add ((x4_1).toNat * 7)).block, (ad531.add ((x4_1).toNat * 7)).off + 6, none⟩ = some (.string ((rd_T78 l0 x4_1).f3))) (ds := [10]) #[false,false,false,false,false,false,false,false,false,false,false] (by kernel_rfl) rfl rfl ⟨(blk_cell BK530.out 0).trans rfl, (blk_cell BK530.out 1).trans rfl, (blk_cell BK530.out 2).trans rfl, ((HB.out.cell (sqd w _ hw535_0)).trans hw535_0), ((HB.out.cell (sqd w _ hw535_1)).trans hw535_1), ((HB.out.cell (sqd w _ hw535_2)).trans hw535_2), ((HB.out.cell (sqd w _ hw535_3)).trans hw535_3), ((HB.out.cell (sqd w _ hw535_4)).trans hw535_4), ((HB.out.cell (sqd w _ hw535_5)).trans hw535_5), ((HB.out.cell (sqd w _ hw535_6)).trans hw535_6)⟩ (fun hHeld => ?_); refine with_tabW dowelref20_tables.tab11 dowelref20_tables.bits11 (fun HT_ HW_ => ?_)
                  generalize w26.drew = w30 at HO_531000 HO_531001 HO_531002 BK526 BK530 HB hx535_0 hx535_1 hx535_2 hx535_3 hx535_4 hx535_5 hx535_6 hHeld ⊢
                  refine pure_ (i := 0) (N := some 49) (v := ?_) (a' := ?_) #[true,false,false,false,false,false,false,false,false,false,false] rfl rfl (any_of HT_.out (by kernel_rfl)) (fun _ _ _ h => h) (Or.inl ⟨by rfl, ?_⟩) ?_ ?_
                  rotate_left; (· intro w'; go_simp; with_reducible rfl); rotate_left; (· simp only [Act.put, sqa, sqb, sqc, i64_w, i32_w]; rfl)
                  refine pure_ (i := 2) (N := some 51) (v := ?_) (a' := ?_) #[true,false,true,false,false,false,false,false,false,false,false] rfl rfl (any_of HT_.out (by kernel_rfl)) (fun _ _ _ h => h) (Or.inl ⟨by rfl, ?_⟩) ?_ ?_
                  rotate_left; (· intro w'; go_simp; with_reducible rfl); rotate_left; (· simp only [Act.put, sqa, sqb, sqc, i64_w, i32_w]; rfl)
                  refine pure_ (i := 3) (N := some 52) (v := ?_) (a' := ?_) #[true,false,true,true,false,false,false,false,false,false,false] rfl rfl (any_of HT_.out (by kernel_rfl)) (fun _ _ _ h => h) (Or.inl ⟨by rfl, ?_⟩) ?_ ?_
                  rotate_left; (· intro w'; go_simp; with_reducible rfl); rotate_left; (· simp only [Act.put, sqa, sqb, sqc, i64_w, i32_w]; rfl)
                  refine pure_ (i := 4) (N := some 53) (v := ?_) (a' := ?_) #[true,false,true,true,true,false,false,false,false,false,false] rfl rfl (any_of HT_.out (by kernel_rfl)) (fun _ _ _ h => h) (Or.inl ⟨by rfl, ?_⟩) ?_ ?_
                  rotate_left; (· intro w'; go_simp; with_reducible rfl); rotate_left; (· simp only [Act.put, sqa, sqb, sqc, i64_w, i32_w]; rfl)
                  refine pure_ (i := 5) (N := some 54) (v := ?_) (a' := ?_) #[true,false,true,true,true,true,false,false,false,false,false] rfl rfl (any_of HT_.out (by kernel_rfl)) (fun _ _ _ h => h) (Or.inl ⟨by rfl, ?_⟩) ?_ ?_
                  rotate_left; (· intro w'; go_simp; with_reducible rfl); rotate_left; (· simp only [Act.put, sqa, sqb, sqc, i64_w, i32_w]; rfl)
                  refine take_ (i := 1) (N := some 50) (v := ?_) (a' := ?_) #[true,true,true,true,true,true,false,false,false,false,false] rfl rfl (take_ofW HT_.out HW_.out (by kernel_rfl)) (fun _ _ _ h => h) (Or.inl ⟨by rfl, ?_⟩) hHeld ?_ ?_
                  rotate_left; (· rintro w' ⟨s0, s1, s2, s3, s4, s5, s6, s7, s8, s9⟩; go_simp; with_reducible rfl); rotate_left; (· simp only [Act.put, sqa, sqb, sqc, i64_w, i32_w]; rfl)
                  refine take_ (i := 6) (N := some 55) (v := ?_) (a' := ?_) #[true,true,true,true,true,true,true,false,false,false,false] rfl rfl (take_ofW HT_.out HW_.out (by kernel_rfl)) (fun _ _ _ h => h) (Or.inl ⟨by rfl, ?_⟩) hHeld ?_ ?_
                  rotate_left; (· rintro w' ⟨s0, s1, s2, s3, s4, s5, s6, s7, s8, s9⟩; go_simp; with_reducible rfl); rotate_left; (· simp only [Act.put, sqa, sqb, sqc, i64_w, i32_w]; rfl)
                  refine one_ (i := 7) (N := some 56) #[true,true,true,true,true,true,true,true,false,false,false] rfl rfl (one_of HT_.out (by kernel_rfl)) (by decide) (fun K hK => ?_)
                  refine value_ (w1 := ?_) (v := ?_) (by rfl) rfl ?_ ?_
                  rotate_left 2
                  ·go_simp
                   constructor
                   ·rfl
                   ·rfl
                  refine hK.out _ _ ⟨(blk_cell (blk_alloc BK530.out _) 0).trans rfl, (blk_cell (blk_alloc BK530.out _) 1).trans rfl, (blk_cell (blk_alloc BK530.out _) 2).trans rfl, (World.cell?_alloc_lt _ _ _ (sqd _ _ (((HB.out.cell (sqd w _ hw535_0)).trans hw535_0)))).trans (((HB.out.cell (sqd w _ hw535_0)).trans hw535_0)), (World.cell?_alloc_lt _ _ _ (sqd _ _ (((HB.out.cell (sqd w _ hw535_1)).trans hw535_1)))).trans (((HB.out.cell (sqd w _ hw535_1)).trans hw535_1)), (World.cell?_alloc_lt _ _ _ (sqd _ _ (((HB.out.cell (sqd w _ hw535_2)).trans hw535_2)))).trans (((HB.out.cell (sqd w _ hw535_2)).trans hw535_2)), (World.cell?_alloc_lt _ _ _ (sqd _ _ (((HB.out.cell (sqd w _ hw535_3)).trans hw535_3)))).trans (((HB.out.cell (sqd w _ hw535_3)).trans hw535_3)), (World.cell?_alloc_lt _ _ _ (sqd _ _ (((HB.out.cell (sqd w _ hw535_4)).trans hw535_4)))).trans (((HB.out.cell (sqd w _ hw535_4)).trans hw535_4)), (World.cell?_alloc_lt _ _ _ (sqd _ _ (((HB.out.cell (sqd w _ hw535_5)).trans hw535_5)))).trans (((HB.out.cell (sqd w _ hw535_5)).trans hw535_5)), (World.cell?_alloc_lt _ _ _ (sqd _ _ (((HB.out.cell (sqd w _ hw535_6)).trans hw535_6)))).trans (((HB.out.cell (sqd w _ hw535_6)).trans hw535_6))⟩ (fun hHeld => ?_)
                  clear hK K
                  refine norm_ (a' := ?_) ?_ ?_
                  rotate_left
                  ·show Act.put _ (some 56) _ = _
                   simp only [Act.put, sqa, sqb, sqc, i64_w, i32_w]
                   rfl
                  refine one_ (i := 8) (N := some 57) #[true,true,true,true,true,true,true,true,true,false,false] rfl rfl (one_of HT_.out (by kernel_rfl)) (by decide) (fun K hK => ?_)
                  refine Kd.R_append_step k76 (w0 := w) w.heap.size (by rfl) (.tmp 50) (.tmp 56) 85 76 (.agg #[(.int .u64 0), (.int .u64 0), (.int .u64 0), (.int .u64 0)]) 32 rfl Try.underlying85 info76 rfl (by decide) (by omega) (.slice (some ad533) x531000_1.length co27) x531000_1 (⟨(rd_T78 l0 x4_1).f2.f0, (rd_T78 l0 x4_1).f2.f1, (rd_T78 l0 x4_1).f2.f2, (rd_T78 l0 x4_1).f2.f3⟩ : S76) [.int .u64 ((rd_T78 l0 x4_1).f2.f0), .int .u64 ((rd_T78 l0 x4_1).f2.f1), .int .u64 ((rd_T78 l0 x4_1).f2.f2), .int .u64 ((rd_T78 l0 x4_1).f2.f3)] (fun _ => True) (fun _ => False) rfl rfl ?aP (fun _ hk => hk.elim) ?aF ?aO ?aB ?aS ?aL ?_
                  (case aP => exact k76_mkM _ _ _ (⟨(rd_T78 l0 x4_1).f2.f0, (rd_T78 l0 x4_1).f2.f1, (rd_T78 l0 x4_1).f2.f2, (rd_T78 l0 x4_1).f2.f3⟩ : S76))
                  (case aB => exact (by repeat (first | (with_reducible first | exact HB.out | apply below_alloc | apply pw_below_drewN | apply below_drew1 | refine below_set ?_ GE526.out | refine below_set ?_ GE530.out) | exact HB.out)))
                  (case aF => exact (fun _ _ => trivial))
                  (case aO => exact (by (with_reducible repeat (first | apply Kd.R_alloc | apply Kd.R_drewN | apply Kd.R_drew)); exact HO_531000.out))
                  (case aS => exact (below_size (by repeat (first | (with_reducible first | exact HB.out | apply below_alloc | apply pw_below_drewN | apply below_drew1 | refine below_set ?_ GE526.out | refine below_set ?_ GE530.out) | exact HB.out))))
                  (case aL => have := LMc23.out; omega)
                  intro v537 w31 ho hb hg hat
                  rw [← Ny536.out] at ho
                  have n0_ := Aside0.mk (Kd.R_over' (by (with_reducible repeat (first | apply Kd.R_alloc | apply Kd.R_drewN | apply Kd.R_drew)); exact HO_531001.out) (Kd.R_typed (by (with_reducible repeat (first | apply Kd.R_alloc | apply Kd.R_drewN | apply Kd.R_drew)); exact HO_531000.out)) (by decide) hg)
                  have n1_ := Aside0.mk (Kd.R_over' (by (with_reducible repeat (first | apply Kd.R_alloc | apply Kd.R_drewN | apply Kd.R_drew)); exact HO_531002.out) (Kd.R_typed (by (with_reducible repeat (first | apply Kd.R_alloc | apply Kd.R_drewN | apply Kd.R_drew)); exact HO_531000.out)) (by decide) hg)
                  have n2_ := Aside0.mk (blk_grown (g := gb526) (o := .cells #[.slice none 0 0, .slice none 0 0, .slice none 0 0] 112 (0, 0)) (by (with_reducible repeat (first | refine blk_drewN ?_ _ | refine blk_drew ?_ | refine blk_alloc ?_ _)); exact BK526.out) hg (Kd.R_ne HO_531000.out BK526.out (by decide)))
                  have n3_ := Aside0.mk (blk_grown (g := gb530) (o := .cells #[.slice (some ad533) x531000_1.length co27, u531001, u531002] 112 (0, 0)) (by (with_reducible repeat (first | refine blk_drewN ?_ _ | refine blk_drew ?_ | refine blk_alloc ?_ _)); exact BK530.out) hg (Kd.R_ne HO_531000.out BK530.out (by decide)))
                  have n4_ := Aside0.mk (hb)
                  have n5_ := Aside0.mk (ho)
                  clear HO_531001; clear HO_531002; clear BK526; clear BK530; clear HB; clear HO_531000
                  have HO_531001 := n0_
                  have HO_531002 := n1_
                  have BK526 := n2_
                  have BK530 := n3_
                  have HB := n4_
                  have HO538 := n5_
                  clear n0_ n1_ n2_ n3_ n4_ n5_; clear ho hb hg hat
                  obtain ⟨Ao32, co32, eo32⟩ := Kd.R_slice HO538.out
                  (first | subst eo32 | (injection eo32 with f1_ f2_ f3_; have f4_ := f1_.symm; have f5_ := f3_.symm; clear f1_ f2_ f3_; subst f4_; subst f5_))
                  refine hK.out _ _ ⟨(blk_cell BK530.out 0).trans rfl, (blk_cell BK530.out 1).trans rfl, (blk_cell BK530.out 2).trans rfl, ((HB.out.cell (sqd w _ hw535_0)).trans hw535_0), ((HB.out.cell (sqd w _ hw535_1)).trans hw535_1), ((HB.out.cell (sqd w _ hw535_2)).trans hw535_2), ((HB.out.cell (sqd w _ hw535_3)).trans hw535_3), ((HB.out.cell (sqd w _ hw535_4)).trans hw535_4), ((HB.out.cell (sqd w _ hw535_5)).trans hw535_5), ((HB.out.cell (sqd w _ hw535_6)).trans hw535_6)⟩ (fun hHeld => ?_)
                  clear hK K
                  refine norm_ (a' := ?_) ?_ ?_
                  rotate_left
                  ·show Act.put _ (some 57) _ = _
                   simp only [Act.put, sqa, sqb, sqc, i64_w, i32_w]
                   rfl
                  refine pure_ (i := 9) (N := some 58) (v := ?_) (a' := ?_) #[true,true,true,true,true,true,true,true,true,true,false] rfl rfl (any_of HT_.out (by kernel_rfl)) (fun _ _ _ h => h) (Or.inl ⟨by rfl, ?_⟩) ?_ ?_
                  rotate_left; (· intro w'; go_simp; with_reducible rfl); rotate_left; (· simp only [Act.put, sqa, sqb, sqc, i64_w, i32_w]; rfl)
                  refine last_ (i := 10) (N := none) #[true,true,true,true,true,true,true,true,true,true,true] rfl rfl (one_of HT_.out (by kernel_rfl)) (by decide) (fun K hK => ?_)
                  have hs33 : w31.cell? ⟨gb530, 0, none⟩ = some (.slice (some ad533) x531000_1.length co27) := (blk_cell BK530.out 0).trans rfl
                  have hfs33 := blk_frozen BK530.out 0
                  have hns33_0 := NB526_530.out
                  have hms33_0 := NB530_526.out
                  refine skip_ (w1 := ?_) (by rfl) rfl ?_ ?_
                  rotate_left
                  ·go_simp
                   rfl
                  refine hK.out _ _ ?_
                  clear hK K
                  refine done_ (done_of HT_.out (by kernel_rfl)) ?_
                  have n0_ : Aside0 (Kd.R Kd.string 9 (w31.setCell ⟨gb530, 0, none⟩ (.slice Ao32 y536.length co32)) w.heap.size (fun _ => True) u531001 x531001_1) := ⟨by (with_reducible repeat (first | apply Kd.R_alloc | apply Kd.R_drewN | apply Kd.R_drew)); exact Kd.R_mono (Kd.R_far (p := ⟨gb530, 0, none⟩) (Kd.R_types HO_531001.out BK530.out (by decide)) (fun _ hk => hk.2) (.slice Ao32 y536.length co32)) (fun _ hk => trivial)⟩
                  have n1_ : Aside0 (Kd.R (Kd.int .i64) 3 (w31.setCell ⟨gb530, 0, none⟩ (.slice Ao32 y536.length co32)) w.heap.size (fun _ => True) u531002 x531002_1) := ⟨by (with_reducible repeat (first | apply Kd.R_alloc | apply Kd.R_drewN | apply Kd.R_drew)); exact Kd.R_mono (Kd.R_far (p := ⟨gb530, 0, none⟩) (Kd.R_types HO_531002.out BK530.out (by decide)) (fun _ hk => hk.2) (.slice Ao32 y536.length co32)) (fun _ hk => trivial)⟩
                  have n2_ : Aside0 (Kd.R k76 76 (w31.setCell ⟨gb530, 0, none⟩ (.slice Ao32 y536.length co32)) w.heap.size (fun _ => True) (.slice Ao32 y536.length co32) y536) := ⟨by (with_reducible repeat (first | apply Kd.R_alloc | apply Kd.R_drewN | apply Kd.R_drew)); exact Kd.R_mono (Kd.R_far (p := ⟨gb530, 0, none⟩) (Kd.R_types HO538.out BK530.out (by decide)) (fun _ hk => hk.2) (.slice Ao32 y536.length co32)) (fun _ hk => trivial)⟩
                  have n3_ : Aside0 ((w31.setCell ⟨gb530, 0, none⟩ (.slice Ao32 y536.length co32)).heap[gb526]? = some (.cells #[.slice none 0 0, .slice none 0 0, .slice none 0 0] 112 (0, 0))) := ⟨by (with_reducible repeat (first | refine blk_drewN ?_ _ | refine blk_drew ?_ | refine blk_alloc ?_ _)); refine blk_far ?_ NB526_530.out _; (with_reducible repeat (first | refine blk_drewN ?_ _ | refine blk_drew ?_ | refine blk_alloc ?_ _)); exact BK526.out⟩
                  have n4_ : Aside0 ((w31.setCell ⟨gb530, 0, none⟩ (.slice Ao32 y536.length co32)).heap[gb530]? = some (.cells #[.slice Ao32 y536.length co32, u531001, u531002] 112 (0, 0))) := ⟨by (with_reducible repeat (first | refine blk_drewN ?_ _ | refine blk_drew ?_ | refine blk_alloc ?_ _)); refine blk_put (cs := #[.slice (some ad533) x531000_1.length co27, u531001, u531002]) ?_ 0 _ rfl; (with_reducible repeat (first | refine blk_drewN ?_ _ | refine blk_drew ?_ | refine blk_alloc ?_ _)); exact BK530.out⟩
                  have n5_ : Aside0 (Below w.heap.size w (w31.setCell ⟨gb530, 0, none⟩ (.slice Ao32 y536.length co32))) := ⟨by repeat (first | (with_reducible first | exact HB.out | apply below_alloc | apply pw_below_drewN | apply below_drew1 | refine below_set ?_ GE526.out | refine below_set ?_ GE530.out) | exact HB.out)⟩
                  (try clear HO_531001); (try clear HO_531002); (try clear HO538); (try clear BK526); (try clear BK530); (try clear HB)
                  generalize (w31.setCell ⟨gb530, 0, none⟩ (.slice Ao32 y536.length co32)) = w34 at n0_ n1_ n2_ n3_ n4_ n5_ ⊢
                  have HO_531001 := n0_
                  have HO_531002 := n1_
                  have HO538 := n2_
                  have BK526 := n3_
                  have BK530 := n4_
                  have HB := n5_
                  clear n0_ n1_ n2_ n3_ n4_ n5_
                  have hcz35_0 : w34.cell? ⟨gb530, 0, none⟩ = some (.slice Ao32 y536.length co32) := (blk_cell BK530.out 0).trans rfl
                  have hcz35_1 : w34.cell? ⟨gb530, 1, none⟩ = some (u531001) := (blk_cell BK530.out 1).trans rfl
                  have hcz35_2 : w34.cell? ⟨gb530, 2, none⟩ = some (u531002) := (blk_cell BK530.out 2).trans rfl
                  have hfz35_0 := blk_frozen BK530.out 0
                  have hfz35_1 := blk_frozen BK530.out 1
                  have hfz35_2 := blk_frozen BK530.out 2
                  have p25 : 0 ≤ (x4_1 : Int) := of_decide_eq_true (by first | (with_reducible assumption) | assumption)
                  have q25 : (x4_1 : Int) < ((x531002_1.length : Int) : Int) := of_decide_eq_true (by first | (with_reducible assumption) | assumption)
                  obtain ⟨go25, co25, eo25, gb25, gl25, cl25, HG25⟩ := Kd.R_form HO_531002.out (by omega)
                  (first | cases eo25 | (injection eo25 with ea_ en_ ec_; (first | subst ea_ | (injection ea_ with ea_; subst ea_)); subst ec_; clear en_))
                  have GB25 := Aside0.mk gb25; have GG25 := Aside0.mk HG25; clear gb25 gl25 HG25
                  obtain ⟨hx25_0, hf25_0⟩ := Kd.R_celln 0 HO_531002.out (x4_1 : Int) p25 q25
                  replace p25 := eq_true p25
                  replace q25 := eq_true q25
                  obtain ⟨hy36_, hz36_⟩ := Kd.R_celln 0 HO_531002.out (x4_1 : Int) (of_decide_eq_true (by first | (with_reducible assumption) | assumption)) (of_decide_eq_true (by first | (with_reducible assumption) | assumption))
                  have HP36 := Kd.R_putg HO_531002.out (x4_1 : Int) x5_2
                  try go_wp2_with (first | ((with_reducible refine gate_store (t := 3) (p := 100) rfl ?_); refine store_event (t := 3) (p := 100) (v := ?vo_w37) (w1 := (w34.setCell ⟨go25, (x4_1 : Int).toNat, none⟩ (.int .i64 x5_2))) ?hg ?ho ?hn ?hr ?_; (case ho => rfl); (case hg => rfl); (case hn => rfl); (case hr => first | (go_simp; done) | (go_simp; rfl)); intro w37 hw; have hg : w34.grownBy w37 (some go25) := (by rw [hw]; exact HP36.2); have hp_ : Kd.R (Kd.int .i64) 3 w37 w.heap.size (fun _ => True) (.slice (some ⟨go25, 0, none⟩) x531002_1.length co25) y539 := (by rw [hw, Ny539.out]; exact HP36.1); clear HP36; have n0_ := Aside0.mk (Kd.R_over' (v := (.slice (some ⟨go25, 0, none⟩) x531002_1.length co25)) (by (with_reducible repeat (first | apply Kd.R_alloc | apply Kd.R_drewN | apply Kd.R_drew)); exact HO_531001.out) (Kd.R_typed HO_531002.out) (by decide) hg); have n1_ := Aside0.mk (hp_); have n2_ := Aside0.mk (blk_grown (g := gb526) (o := .cells #[.slice none 0 0, .slice none 0 0, .slice none 0 0] 112 (0, 0)) (by (with_reducible repeat (first | refine blk_drewN ?_ _ | refine blk_drew ?_ | refine blk_alloc ?_ _)); exact BK526.out) hg (Kd.R_ne HO_531002.out BK526.out (by decide))); have n3_ := Aside0.mk (blk_grown (g := gb530) (o := .cells #[.slice Ao32 y536.length co32, u531001, .slice (some ⟨go25, 0, none⟩) x531002_1.length co25] 112 (0, 0)) (by (with_reducible repeat (first | refine blk_drewN ?_ _ | refine blk_drew ?_ | refine blk_alloc ?_ _)); exact BK530.out) hg (Kd.R_ne HO_531002.out BK530.out (by decide))); have n4_ := Aside0.mk (Kd.R_over' (v := (.slice (some ⟨go25, 0, none⟩) x531002_1.length co25)) (by (with_reducible repeat (first | apply Kd.R_alloc | apply Kd.R_drewN | apply Kd.R_drew)); exact HO538.out) (Kd.R_typed HO_531002.out) (by decide) hg); have n5_ := Aside0.mk ((by rw [hw]; exact below_set (HB.out) GB25.out : Below w.heap.size w w37)); clear HO_531001; clear HO_531002; clear BK526; clear BK530; clear HO538; clear HB; have HO_531001 := n0_; have HO_531002 := n1_; have BK526 := n2_; have BK530 := n3_; have HO538 := n4_; have HB := n5_; clear n0_ n1_ n2_ n3_ n4_ n5_; clear hg hw hp_))
                  go_roundg k2
                  case measure => have := HK1.out; have := HK2.out; omega
                  case rel => exact ⟨(wrap64 (x4_1 + 1)), (y536), (x531001_1), (y539), (.slice Ao32 y536.length co32), (u531001), (.slice (some ⟨go25, 0, none⟩) x531002_1.length co25), (by first | rfl | (simp; done) | (simp [*]; done)), H', ⟨by have := HK1.out; have := HK2.out; omega⟩, ⟨by (with_reducible repeat (first | apply Kd.R_alloc | apply Kd.R_drewN | apply Kd.R_drew)); exact HO538.out⟩, ⟨by (with_reducible repeat (first | apply Kd.R_alloc | apply Kd.R_drewN | apply Kd.R_drew)); exact HO_531001.out⟩, ⟨by (with_reducible repeat (first | apply Kd.R_alloc | apply Kd.R_drewN | apply Kd.R_drew)); exact HO_531002.out⟩, ⟨by (with_reducible repeat (first | refine blk_drewN ?_ _ | refine blk_drew ?_ | refine blk_alloc ?_ _)); exact BK526.out⟩, ⟨by (with_reducible repeat (first | refine blk_drewN ?_ _ | refine blk_drew ?_ | refine blk_alloc ?_ _)); exact BK530.out⟩, ⟨by repeat (first | (with_reducible first | exact HB.out | apply below_alloc | apply pw_below_drewN | apply below_drew1 | refine below_set ?_ GE526.out | refine below_set ?_ GE530.out) | exact HB.out)⟩⟩
                 ·rw [if_neg c24] at H
                  exact absurd H (by simp)
                ·rw [if_neg c23] at H
                 exact absurd H (by simp)
               ·rw [if_neg c22] at H
                have c22b0 : (x5_2 == (x531000_1.length : Int)) = false := beq_eq_false_iff_ne.mpr c22
                have c22b1 : (x5_2 != (x531000_1.length : Int)) = true := bne_iff_ne.mpr c22
                by_cases c38 : x4_1 < (x531002_1.length : Int)
                ·rw [if_pos c38] at H
                 have c38b0 : decide (x4_1 < (x531002_1.length : Int)) = true := decide_eq_true c38
                 clear c38
                 obtain ⟨y540, hy540⟩ : ∃ y_ : List Int, y_ = (x531002_1.set (x4_1 : Int).toNat x5_2) := ⟨_, rfl⟩
                 replace H : (dowelref20_tables.l0 k2 l0 (wrap64 (x4_1 + 1)) x531000_1 x531001_1 y540) = some (r1, r2, r3) := by first | (rw [hy540]; with_reducible exact H) | (have H2_ := (Option.bind_some _ _).symm.trans H; rw [hy540]; with_reducible exact H2_) | (have H2_ := (Option.bind_some _ _).symm.trans H; with_reducible exact H2_) | with_reducible exact H | (rw [hy540]; exact H) | exact H
                 have Ny540 := Aside0.mk hy540; clear hy540
                 have H' := Aside0.mk H
                 clear H
                 try go_wp2
                 have n0_ := Aside0.mk (Kd.R_drew HO_531000.out)
                 have n1_ := Aside0.mk (Kd.R_drew HO_531001.out)
                 have n2_ := Aside0.mk (Kd.R_drew HO_531002.out)
                 have n3_ := Aside0.mk (blk_drew BK526.out)
                 have n4_ := Aside0.mk (blk_drew BK530.out)
                 have n5_ := Aside0.mk (below_drew1 HB.out)
                 clear HO_531000; clear HO_531001; clear HO_531002; clear BK526; clear BK530; clear HB
                 have HO_531000 := n0_
                 have HO_531001 := n1_
                 have HO_531002 := n2_
                 have BK526 := n3_
                 have BK530 := n4_
                 have HB := n5_
                 clear n0_ n1_ n2_ n3_ n4_ n5_
                 obtain ⟨Ao41, co41, eo41⟩ := Kd.R_slice HO_531000.out
                 (first | subst eo41 | (injection eo41 with f1_ f2_ f3_; have f4_ := f1_.symm; have f5_ := f3_.symm; clear f1_ f2_ f3_; subst f4_; subst f5_))
                 have p533 : 0 ≤ (x5_2 : Int) := of_decide_eq_true (by first | (with_reducible assumption) | assumption)
                 have q533 : x5_2 < (x531000_1.length : Int) := of_decide_eq_true (by first | (with_reducible assumption) | assumption)
                 obtain ⟨ad533, e533, hx533_0, hx533_1, hx533_2, hx533_3⟩ := at_T76 (Kd.R_reads' HO_531000.out).2.2 x5_2 p533 q533
                 cases e533
                 replace p533 := eq_true p533
                 replace q533 := eq_true q533
                 have p534 : 0 ≤ (x4_1 : Int) := of_decide_eq_true (by first | (with_reducible assumption) | assumption)
                 have q534 : x4_1 < (l0.length : Int) := of_decide_eq_true (by first | (with_reducible assumption) | assumption)
                 obtain ⟨ad534, e534, hx534_0, hx534_1, hx534_2, hx534_3, hx534_4, hx534_5, hx534_6⟩ := at_T78 HR0.out x4_1 p534 q534
                 have hw534_6 := hx534_6
                 have hw534_5 := hx534_5
                 have hw534_4 := hx534_4
                 have hw534_3 := hx534_3
                 have hw534_2 := hx534_2
                 have hw534_1 := hx534_1
                 have hw534_0 := hx534_0
                 obtain rfl : ad531 = ad534 := (by injection e534)
                 replace hx534_0 := (HB.out.cell (sqd w _ hx534_0)).trans hx534_0
                 replace hx534_1 := (HB.out.cell (sqd w _ hx534_1)).trans hx534_1
                 replace hx534_2 := (HB.out.cell (sqd w _ hx534_2)).trans hx534_2
                 replace hx534_3 := (HB.out.cell (sqd w _ hx534_3)).trans hx534_3
                 replace hx534_4 := (HB.out.cell (sqd w _ hx534_4)).trans hx534_4
                 replace hx534_5 := (HB.out.cell (sqd w _ hx534_5)).trans hx534_5
                 replace hx534_6 := (HB.out.cell (sqd w _ hx534_6)).trans hx534_6
                 replace p534 := eq_true p534
                 replace q534 := eq_true q534
                 refine start_ (n := 18) (S := fun w' => w'.cell? ⟨gb530, 0, none⟩ = some (.slice (some ad533) x531000_1.length co41) ∧ w'.cell? ⟨gb530, 1, none⟩ = some (u531001) ∧ w'.cell? ⟨gb530, 2, none⟩ = some (u531002) ∧ w'.cell? (ad533.add ((x5_2).toNat * 4)) = some (.int .u64 ((rd_T76 x531000_1 x5_2).f0)) ∧ w'.cell? ⟨(ad533.add ((x5_2).toNat * 4)).block, (ad533.add ((x5_2).toNat * 4)).off + 1, none⟩ = some (.int .u64 ((rd_T76 x531000_1 x5_2).f1)) ∧ w'.cell? ⟨(ad533.add ((x5_2).toNat * 4)).block, (ad533.add ((x5_2).toNat * 4)).off + 2, none⟩ = some (.int .u64 ((rd_T76 x531000_1 x5_2).f2)) ∧ w'.cell? ⟨(ad533.add ((x5_2).toNat * 4)).block, (ad533.add ((x5_2).toNat * 4)).off + 3, none⟩ = some (.int .u64 ((rd_T76 x531000_1 x5_2).f3)) ∧ w'.cell? (ad531.add ((x4_1).toNat * 7)) = some (.int .i64 ((rd_T78 l0 x4_1).f0)) ∧ w'.cell? ⟨(ad531.add ((x4_1).toNat * 7)).block, (ad531.add ((x4_1).toNat * 7)).off + 1, none⟩ = some (.int .i64 ((rd_T78 l0 x4_1).f1)) ∧ w'.cell? ⟨(ad531.add ((x4_1).toNat * 7)).block, (ad531.add ((x4_1).toNat * 7)).off + 2, none⟩ = some (.int .u64 ((rd_T78 l0 x4_1).f2.f0)) ∧ w'.cell? ⟨(ad531.add ((x4_1).toNat * 7)).block, (ad531.add ((x4_1).toNat * 7)).off + 3, none⟩ = some (.int .u64 ((rd_T78 l0 x4_1).f2.f1)) ∧ w'.cell? ⟨(ad531.add ((x4_1).toNat * 7)).block, (ad531.add ((x4_1).toNat * 7)).off + 4, none⟩ = some (.int .u64 ((rd_T78 l0 x4_1).f2.f2)) ∧ w'.cell? ⟨(ad531.add ((x4_1).toNat * 7)).block, (ad531.add ((x4_1).toNat * 7)).off + 5, none⟩ = some (.int .u64 ((rd_T78 l0 x4_1).f2.f3)) ∧ w'.cell? ⟨(ad531.add ((x4_1).toNat * 7)).block, (ad531.add ((x4_1).toNat * 7)).off + 6, none⟩ = some (.string ((rd_T78 l0 x4_1).f3))) (ds := []) #[false,false,false,false,false,false,false,false,false,false,false,false,false,false,false,false,false,false] (by kernel_rfl) rfl rfl ⟨(blk_cell BK530.out 0).trans rfl, (blk_cell BK530.out 1).trans rfl, (blk_cell BK530.out 2).trans rfl, hx533_0, hx533_1, hx533_2, hx533_3, ((HB.out.cell (sqd w _ hw534_0)).trans hw534_0), ((HB.out.cell (sqd w _ hw534_1)).trans hw534_1), ((HB.out.cell (sqd w _ hw534_2)).trans hw534_2), ((HB.out.cell (sqd w _ hw534_3)).trans hw534_3), ((HB.out.cell (sqd w _ hw534_4)).trans hw534_4), ((HB.out.cell (sqd w _ hw534_5)).trans hw534_5), ((HB.out.cell (sqd w _ hw534_6)).trans hw534_6)⟩ (fun hHeld => ?_); refine with_tabW dowelref20_tables.tab8 dowelref20_tables.bits8 (fun HT_ HW_ => ?_)
                 generalize wr.drew = w40 at HO_531000 HO_531001 HO_531002 BK526 BK530 HB hx533_0 hx533_1 hx533_2 hx533_3 hx534_0 hx534_1 hx534_2 hx534_3 hx534_4 hx534_5 hx534_6 hHeld ⊢
                 refine pure_ (i := 0) (N := some 24) (v := ?_) (a' := ?_) #[true,false,false,false,false,false,false,false,false,false,false,false,false,false,false,false,false,false] rfl rfl (any_of HT_.out (by kernel_rfl)) (fun _ _ _ h => h) (Or.inl ⟨by rfl, ?_⟩) ?_ ?_
                 rotate_left; (· intro w'; go_simp; with_reducible rfl); rotate_left; (· simp only [Act.put, sqa, sqb, sqc, i64_w, i32_w]; rfl)
                 refine pure_ (i := 1) (N := some 25) (v := ?_) (a' := ?_) #[true,true,false,false,false,false,false,false,false,false,false,false,false,false,false,false,false,false] rfl rfl (any_of HT_.out (by kernel_rfl)) (fun _ _ _ h => h) (Or.inl ⟨by rfl, ?_⟩) ?_ ?_
                 rotate_left; (· intro w'; go_simp; with_reducible rfl); rotate_left; (· simp only [Act.put, sqa, sqb, sqc, i64_w, i32_w]; rfl)
                 refine take_ (i := 2) (N := some 26) (v := ?_) (a' := ?_) #[true,true,true,false,false,false,false,false,false,false,false,false,false,false,false,false,false,false] rfl rfl (take_ofW HT_.out HW_.out (by kernel_rfl)) (fun _ _ _ h => h) (Or.inl ⟨by rfl, ?_⟩) hHeld ?_ ?_
                 rotate_left; (· rintro w' ⟨s0, s1, s2, s3, s4, s5, s6, s7, s8, s9, s10, s11, s12, s13⟩; go_simp; with_reducible rfl); rotate_left; (· simp only [Act.put, sqa, sqb, sqc, i64_w, i32_w]; rfl)
                 refine pure_ (i := 3) (N := some 27) (v := ?_) (a' := ?_) #[true,true,true,true,false,false,false,false,false,false,false,false,false,false,false,false,false,false] rfl rfl (any_of HT_.out (by kernel_rfl)) (fun _ _ _ h => h) (Or.inl ⟨by rfl, ?_⟩) ?_ ?_
                 rotate_left; (· intro w'; go_simp; with_reducible rfl); rotate_left; (· simp only [Act.put, sqa, sqb, sqc, i64_w, i32_w]; rfl)
                 refine pure_ (i := 4) (N := some 28) (v := ?_) (a' := ?_) #[true,true,true,true,true,false,false,false,false,false,false,false,false,false,false,false,false,false] rfl rfl (any_of HT_.out (by kernel_rfl)) (fun _ _ _ h => h) (Or.inl ⟨by rfl, ?_⟩) ?_ ?_
                 rotate_left; (· intro w'; go_simp; with_reducible rfl); rotate_left; (· simp only [Act.put, sqa, sqb, sqc, i64_w, i32_w]; rfl)
                 refine pure_ (i := 5) (N := some 29) (v := ?_) (a' := ?_) #[true,true,true,true,true,true,false,false,false,false,false,false,false,false,false,false,false,false] rfl rfl (any_of HT_.out (by kernel_rfl)) (fun _ _ _ h => h) (Or.inl ⟨by rfl, ?_⟩) ?_ ?_
                 rotate_left; (· intro w'; go_simp; with_reducible rfl); rotate_left; (· simp only [Act.put, sqa, sqb, sqc, i64_w, i32_w]; rfl)
                 refine pure_ (i := 6) (N := some 30) (v := ?_) (a' := ?_) #[true,true,true,true,true,true,true,false,false,false,false,false,false,false,false,false,false,false] rfl rfl (any_of HT_.out (by kernel_rfl)) (fun _ _ _ h => h) (Or.inl ⟨by rfl, ?_⟩) ?_ ?_
                 rotate_left; (· intro w'; go_simp; with_reducible rfl); rotate_left; (· simp only [Act.put, sqa, sqb, sqc, i64_w, i32_w]; rfl)
                 refine pure_ (i := 8) (N := some 32) (v := ?_) (a' := ?_) #[true,true,true,true,true,true,true,false,true,false,false,false,false,false,false,false,false,false] rfl rfl (any_of HT_.out (by kernel_rfl)) (fun _ _ _ h => h) (Or.inl ⟨by rfl, ?_⟩) ?_ ?_
                 rotate_left; (· intro w'; go_simp; with_reducible rfl); rotate_left; (· simp only [Act.put, sqa, sqb, sqc, i64_w, i32_w]; rfl)
                 refine pure_ (i := 11) (N := some 35) (v := ?_) (a' := ?_) #[true,true,true,true,true,true,true,false,true,false,false,true,false,false,false,false,false,false] rfl rfl (any_of HT_.out (by kernel_rfl)) (fun _ _ _ h => h) (Or.inl ⟨by rfl, ?_⟩) ?_ ?_
                 rotate_left; (· intro w'; go_simp; with_reducible rfl); rotate_left; (· simp only [Act.put, sqa, sqb, sqc, i64_w, i32_w]; rfl)
                 refine pure_ (i := 12) (N := some 36) (v := ?_) (a' := ?_) #[true,true,true,true,true,true,true,false,true,false,false,true,true,false,false,false,false,false] rfl rfl (any_of HT_.out (by kernel_rfl)) (fun _ _ _ h => h) (Or.inl ⟨by rfl, ?_⟩) ?_ ?_
                 rotate_left; (· intro w'; go_simp; with_reducible rfl); rotate_left; (· simp only [Act.put, sqa, sqb, sqc, i64_w, i32_w]; rfl)
                 refine pure_ (i := 13) (N := some 37) (v := ?_) (a' := ?_) #[true,true,true,true,true,true,true,false,true,false,false,true,true,true,false,false,false,false] rfl rfl (any_of HT_.out (by kernel_rfl)) (fun _ _ _ h => h) (Or.inl ⟨by rfl, ?_⟩) ?_ ?_
                 rotate_left; (· intro w'; go_simp; with_reducible rfl); rotate_left; (· simp only [Act.put, sqa, sqb, sqc, i64_w, i32_w]; rfl)
                 refine pure_ (i := 14) (N := some 38) (v := ?_) (a' := ?_) #[true,true,true,true,true,true,true,false,true,false,false,true,true,true,true,false,false,false] rfl rfl (any_of HT_.out (by kernel_rfl)) (fun _ _ _ h => h) (Or.inl ⟨by rfl, ?_⟩) ?_ ?_
                 rotate_left; (· intro w'; go_simp; with_reducible rfl); rotate_left; (· simp only [Act.put, sqa, sqb, sqc, i64_w, i32_w]; rfl)
                 refine take_ (i := 7) (N := some 31) (v := ?_) (a' := ?_) #[true,true,true,true,true,true,true,true,true,false,false,true,true,true,true,false,false,false] rfl rfl (take_ofW HT_.out HW_.out (by kernel_rfl)) (fun _ _ _ h => h) (Or.inl ⟨by rfl, ?_⟩) hHeld ?_ ?_
                 rotate_left; (· rintro w' ⟨s0, s1, s2, s3, s4, s5, s6, s7, s8, s9, s10, s11, s12, s13⟩; go_simp; with_reducible rfl); rotate_left; (· simp only [Act.put, sqa, sqb, sqc, i64_w, i32_w]; rfl)
                 refine pure_ (i := 9) (N := some 33) (v := ?_) (a' := ?_) #[true,true,true,true,true,true,true,true,true,true,false,true,true,true,true,false,false,false] rfl rfl (any_of HT_.out (by kernel_rfl)) (fun _ _ _ h => h) (Or.inl ⟨by rfl, ?_⟩) ?_ ?_
                 rotate_left; (· intro w'; go_simp; with_reducible rfl); rotate_left; (· simp only [Act.put, sqa, sqb, sqc, i64_w, i32_w]; rfl)
                 refine take_ (i := 10) (N := some 34) (v := ?_) (a' := ?_) #[true,true,true,true,true,true,true,true,true,true,true,true,true,true,true,false,false,false] rfl rfl (take_ofW HT_.out HW_.out (by kernel_rfl)) (fun _ _ _ h => h) (Or.inl ⟨by rfl, ?_⟩) hHeld ?_ ?_
                 rotate_left; (· rintro w' ⟨s0, s1, s2, s3, s4, s5, s6, s7, s8, s9, s10, s11, s12, s13⟩; go_simp; with_reducible rfl); rotate_left; (· simp only [Act.put, sqa, sqb, sqc, i64_w, i32_w]; rfl)
                 refine take_ (i := 15) (N := some 39) (v := ?_) (a' := ?_) #[true,true,true,true,true,true,true,true,true,true,true,true,true,true,true,true,false,false] rfl rfl (take_ofW HT_.out HW_.out (by kernel_rfl)) (fun _ _ _ h => h) (Or.inl ⟨by rfl, ?_⟩) hHeld ?_ ?_
                 rotate_left; (· rintro w' ⟨s0, s1, s2, s3, s4, s5, s6, s7, s8, s9, s10, s11, s12, s13⟩; go_simp; with_reducible rfl); rotate_left; (· simp only [Act.put, sqa, sqb, sqc, i64_w, i32_w]; rfl)
                 refine pure_ (i := 16) (N := some 40) (v := ?_) (a' := ?_) #[true,true,true,true,true,true,true,true,true,true,true,true,true,true,true,true,true,false] rfl rfl (any_of HT_.out (by kernel_rfl)) (fun _ _ _ h => h) (Or.inl ⟨by rfl, ?_⟩) ?_ ?_
                 rotate_left; (· intro w'; go_simp; with_reducible rfl); rotate_left; (· simp only [Act.put, sqa, sqb, sqc, i64_w, i32_w]; rfl)
                 refine pure_ (i := 17) (N := some 41) (v := ?_) (a' := ?_) #[true,true,true,true,true,true,true,true,true,true,true,true,true,true,true,true,true,true] rfl rfl (any_of HT_.out (by kernel_rfl)) (fun _ _ _ h => h) (Or.inl ⟨by rfl, ?_⟩) ?_ ?_
                 rotate_left; (· intro w'; go_simp; with_reducible rfl); rotate_left; (· simp only [Act.put, sqa, sqb, sqc, i64_w, i32_w]; rfl)
                 refine done_ (done_of HT_.out (by kernel_rfl)) ?_
                 have hnb42 := NB530_526.out
                 have hnc42 := NB526_530.out
                 have hcz43_0 : w40.cell? ⟨gb530, 0, none⟩ = some (.slice (some ad533) x531000_1.length co41) := (blk_cell BK530.out 0).trans rfl
                 have hcz43_1 : w40.cell? ⟨gb530, 1, none⟩ = some (u531001) := (blk_cell BK530.out 1).trans rfl
                 have hcz43_2 : w40.cell? ⟨gb530, 2, none⟩ = some (u531002) := (blk_cell BK530.out 2).trans rfl
                 have hfz43_0 := blk_frozen BK530.out 0
                 have hfz43_1 := blk_frozen BK530.out 1
                 have hfz43_2 := blk_frozen BK530.out 2
                 have p39 : 0 ≤ (x4_1 : Int) := of_decide_eq_true (by first | (with_reducible assumption) | assumption)
                 have q39 : (x4_1 : Int) < ((x531002_1.length : Int) : Int) := of_decide_eq_true (by first | (with_reducible assumption) | assumption)
                 obtain ⟨go39, co39, eo39, gb39, gl39, cl39, HG39⟩ := Kd.R_form HO_531002.out (by omega)
                 (first | cases eo39 | (injection eo39 with ea_ en_ ec_; (first | subst ea_ | (injection ea_ with ea_; subst ea_)); subst ec_; clear en_))
                 have GB39 := Aside0.mk gb39; have GG39 := Aside0.mk HG39; clear gb39 gl39 HG39
                 obtain ⟨hx39_0, hf39_0⟩ := Kd.R_celln 0 HO_531002.out (x4_1 : Int) p39 q39
                 replace p39 := eq_true p39
                 replace q39 := eq_true q39
                 obtain ⟨hy44_, hz44_⟩ := Kd.R_celln 0 HO_531002.out (x4_1 : Int) (of_decide_eq_true (by first | (with_reducible assumption) | assumption)) (of_decide_eq_true (by first | (with_reducible assumption) | assumption))
                 have HP44 := Kd.R_putg HO_531002.out (x4_1 : Int) x5_2
                 try go_wp2_with (first | ((with_reducible refine gate_store (t := 3) (p := 100) rfl ?_); refine store_event (t := 3) (p := 100) (v := ?vo_w45) (w1 := (w40.setCell ⟨go39, (x4_1 : Int).toNat, none⟩ (.int .i64 x5_2))) ?hg ?ho ?hn ?hr ?_; (case ho => rfl); (case hg => rfl); (case hn => rfl); (case hr => first | (go_simp; done) | (go_simp; rfl)); intro w45 hw; have hg : w40.grownBy w45 (some go39) := (by rw [hw]; exact HP44.2); have hp_ : Kd.R (Kd.int .i64) 3 w45 w.heap.size (fun _ => True) (.slice (some ⟨go39, 0, none⟩) x531002_1.length co39) y540 := (by rw [hw, Ny540.out]; exact HP44.1); clear HP44; have n0_ := Aside0.mk (Kd.R_over' (v := (.slice (some ⟨go39, 0, none⟩) x531002_1.length co39)) (by (with_reducible repeat (first | apply Kd.R_alloc | apply Kd.R_drewN | apply Kd.R_drew)); exact HO_531000.out) (Kd.R_typed HO_531002.out) (by decide) hg); have n1_ := Aside0.mk (Kd.R_over' (v := (.slice (some ⟨go39, 0, none⟩) x531002_1.length co39)) (by (with_reducible repeat (first | apply Kd.R_alloc | apply Kd.R_drewN | apply Kd.R_drew)); exact HO_531001.out) (Kd.R_typed HO_531002.out) (by decide) hg); have n2_ := Aside0.mk (hp_); have n3_ := Aside0.mk (blk_grown (g := gb526) (o := .cells #[.slice none 0 0, .slice none 0 0, .slice none 0 0] 112 (0, 0)) (by (with_reducible repeat (first | refine blk_drewN ?_ _ | refine blk_drew ?_ | refine blk_alloc ?_ _)); exact BK526.out) hg (Kd.R_ne HO_531002.out BK526.out (by decide))); have n4_ := Aside0.mk (blk_grown (g := gb530) (o := .cells #[.slice (some ad533) x531000_1.length co41, u531001, .slice (some ⟨go39, 0, none⟩) x531002_1.length co39] 112 (0, 0)) (by (with_reducible repeat (first | refine blk_drewN ?_ _ | refine blk_drew ?_ | refine blk_alloc ?_ _)); exact BK530.out) hg (Kd.R_ne HO_531002.out BK530.out (by decide))); have n5_ := Aside0.mk ((by rw [hw]; exact below_set (HB.out) GB39.out : Below w.heap.size w w45)); clear HO_531000; clear HO_531001; clear HO_531002; clear BK526; clear BK530; clear HB; have HO_531000 := n0_; have HO_531001 := n1_; have HO_531002 := n2_; have BK526 := n3_; have BK530 := n4_; have HB := n5_; clear n0_ n1_ n2_ n3_ n4_ n5_; clear hg hw hp_))
                 go_roundg k2
                 case measure => have := HK1.out; have := HK2.out; omega
                 case rel => exact ⟨(wrap64 (x4_1 + 1)), (x531000_1), (x531001_1), (y540), (.slice (some ad533) x531000_1.length co41), (u531001), (.slice (some ⟨go39, 0, none⟩) x531002_1.length co39), (by first | rfl | (simp; done) | (simp [*]; done)), H', ⟨by have := HK1.out; have := HK2.out; omega⟩, ⟨by (with_reducible repeat (first | apply Kd.R_alloc | apply Kd.R_drewN | apply Kd.R_drew)); exact HO_531000.out⟩, ⟨by (with_reducible repeat (first | apply Kd.R_alloc | apply Kd.R_drewN | apply Kd.R_drew)); exact HO_531001.out⟩, ⟨by (with_reducible repeat (first | apply Kd.R_alloc | apply Kd.R_drewN | apply Kd.R_drew)); exact HO_531002.out⟩, ⟨by (with_reducible repeat (first | refine blk_drewN ?_ _ | refine blk_drew ?_ | refine blk_alloc ?_ _)); exact BK526.out⟩, ⟨by (with_reducible repeat (first | refine blk_drewN ?_ _ | refine blk_drew ?_ | refine blk_alloc ?_ _)); exact BK530.out⟩, ⟨by repeat (first | (with_reducible first | exact HB.out | apply below_alloc | apply pw_below_drewN | apply below_drew1 | refine below_set ?_ GE526.out | refine below_set ?_ GE530.out) | exact HB.out)⟩⟩
                ·rw [if_neg c38] at H
                 exact absurd H (by simp)
             ·rw [if_neg c18] at H
              exact absurd H (by simp)
            ·rw [if_neg c17] at H
             exact absurd H (by simp)
           ·rw [if_neg c16] at H
            exact absurd H (by simp)
          ·rw [if_neg c15] at H
           have c15b0 : decide (x5_2 < (x531000_1.length : Int)) = false := decide_eq_false c15
           clear c15
           by_cases c46 : x5_2 = (x531000_1.length : Int)
           ·rw [if_pos c46] at H
            have c46b0 : (x5_2 == (x531000_1.length : Int)) = true := beq_iff_eq.mpr c46
            have c46b1 : (x5_2 != (x531000_1.length : Int)) = false := bne_eq_false_iff_eq.mpr c46
            clear c46
            by_cases c47 : 0 ≤ x4_1
            ·rw [if_pos c47] at H
             have c47b0 : decide (0 ≤ x4_1) = true := decide_eq_true c47
             clear c47
             by_cases c48 : x4_1 < (l0.length : Int)
             ·rw [if_pos c48] at H
              have c48b0 : decide (x4_1 < (l0.length : Int)) = true := decide_eq_true c48
              clear c48
              by_cases c49 : x531000_1.length < 4398046511104
              ·rw [if_pos c49] at H
               have LMc49 := Aside0.mk c49; clear c49
               obtain ⟨y542, hy542⟩ : ∃ y_ : List (S76), y_ = (x531000_1 ++ [(⟨(rd_T78 l0 x4_1).f2.f0, (rd_T78 l0 x4_1).f2.f1, (rd_T78 l0 x4_1).f2.f2, (rd_T78 l0 x4_1).f2.f3⟩ : S76)]) := ⟨_, rfl⟩
               replace H : (if x4_1 < (x531002_1.length : Int) then (dowelref20_tables.l0 k2 l0 (wrap64 (x4_1 + 1)) y542 x531001_1 (x531002_1.set (x4_1 : Int).toNat x5_2)) else (none)) = some (r1, r2, r3) := by first | (rw [hy542]; with_reducible exact H) | (have H2_ := (Option.bind_some _ _).symm.trans H; rw [hy542]; with_reducible exact H2_) | (have H2_ := (Option.bind_some _ _).symm.trans H; with_reducible exact H2_) | with_reducible exact H | (rw [hy542]; exact H) | exact H
               have Ny542 := Aside0.mk hy542; clear hy542
               by_cases c50 : x4_1 < (x531002_1.length : Int)
               ·rw [if_pos c50] at H
                have c50b0 : decide (x4_1 < (x531002_1.length : Int)) = true := decide_eq_true c50
                clear c50
                obtain ⟨y545, hy545⟩ : ∃ y_ : List Int, y_ = (x531002_1.set (x4_1 : Int).toNat x5_2) := ⟨_, rfl⟩
                replace H : (dowelref20_tables.l0 k2 l0 (wrap64 (x4_1 + 1)) y542 x531001_1 y545) = some (r1, r2, r3) := by first | (rw [hy545]; with_reducible exact H) | (have H2_ := (Option.bind_some _ _).symm.trans H; rw [hy545]; with_reducible exact H2_) | (have H2_ := (Option.bind_some _ _).symm.trans H; with_reducible exact H2_) | with_reducible exact H | (rw [hy545]; exact H) | exact H
                have Ny545 := Aside0.mk hy545; clear hy545
                have H' := Aside0.mk H
                clear H
                try go_wp2
                have n0_ := Aside0.mk (Kd.R_drew HO_531000.out)
                have n1_ := Aside0.mk (Kd.R_drew HO_531001.out)
                have n2_ := Aside0.mk (Kd.R_drew HO_531002.out)
                have n3_ := Aside0.mk (blk_drew BK526.out)
                have n4_ := Aside0.mk (blk_drew BK530.out)
                have n5_ := Aside0.mk (below_drew1 HB.out)
                clear HO_531000; clear HO_531001; clear HO_531002; clear BK526; clear BK530; clear HB
                have HO_531000 := n0_
                have HO_531001 := n1_
                have HO_531002 := n2_
                have BK526 := n3_
                have BK530 := n4_
                have HB := n5_
                clear n0_ n1_ n2_ n3_ n4_ n5_
                obtain ⟨Ao53, co53, eo53⟩ := Kd.R_slice HO_531000.out
                (first | subst eo53 | (injection eo53 with f1_ f2_ f3_; have f4_ := f1_.symm; have f5_ := f3_.symm; clear f1_ f2_ f3_; subst f4_; subst f5_))
                refine start_ (n := 18) (S := fun w' => w'.cell? ⟨gb530, 0, none⟩ = some (.slice Ao53 x531000_1.length co53) ∧ w'.cell? ⟨gb530, 1, none⟩ = some (u531001) ∧ w'.cell? ⟨gb530, 2, none⟩ = some (u531002)) (ds := []) #[false,false,false,false,false,false,false,false,false,false,false,false,false,false,false,false,false,false] (by kernel_rfl) rfl rfl ⟨(blk_cell BK530.out 0).trans rfl, (blk_cell BK530.out 1).trans rfl, (blk_cell BK530.out 2).trans rfl⟩ (fun hHeld => ?_); refine with_tabW dowelref20_tables.tab8 dowelref20_tables.bits8 (fun HT_ HW_ => ?_)
                generalize wr.drew = w52 at HO_531000 HO_531001 HO_531002 BK526 BK530 HB hHeld ⊢
                refine pure_ (i := 0) (N := some 24) (v := ?_) (a' := ?_) #[true,false,false,false,false,false,false,false,false,false,false,false,false,false,false,false,false,false] rfl rfl (any_of HT_.out (by kernel_rfl)) (fun _ _ _ h => h) (Or.inl ⟨by rfl, ?_⟩) ?_ ?_
                rotate_left; (· intro w'; go_simp; with_reducible rfl); rotate_left; (· simp only [Act.put, sqa, sqb, sqc, i64_w, i32_w]; rfl)
                refine pure_ (i := 1) (N := some 25) (v := ?_) (a' := ?_) #[true,true,false,false,false,false,false,false,false,false,false,false,false,false,false,false,false,false] rfl rfl (any_of HT_.out (by kernel_rfl)) (fun _ _ _ h => h) (Or.inl ⟨by rfl, ?_⟩) ?_ ?_
                rotate_left; (· intro w'; go_simp; with_reducible rfl); rotate_left; (· simp only [Act.put, sqa, sqb, sqc, i64_w, i32_w]; rfl)
                refine take_ (i := 2) (N := some 26) (v := ?_) (a' := ?_) #[true,true,true,false,false,false,false,false,false,false,false,false,false,false,false,false,false,false] rfl rfl (take_ofW HT_.out HW_.out (by kernel_rfl)) (fun _ _ _ h => h) (Or.inl ⟨by rfl, ?_⟩) hHeld ?_ ?_
                rotate_left; (· rintro w' ⟨s0, s1, s2⟩; go_simp; with_reducible rfl); rotate_left; (· simp only [Act.put, sqa, sqb, sqc, i64_w, i32_w]; rfl)
                refine pure_ (i := 3) (N := some 27) (v := ?_) (a' := ?_) #[true,true,true,true,false,false,false,false,false,false,false,false,false,false,false,false,false,false] rfl rfl (any_of HT_.out (by kernel_rfl)) (fun _ _ _ h => h) (Or.inl ⟨by rfl, ?_⟩) ?_ ?_
                rotate_left; (· intro w'; go_simp; with_reducible rfl); rotate_left; (· simp only [Act.put, sqa, sqb, sqc, i64_w, i32_w]; rfl)
                refine pure_ (i := 4) (N := some 28) (v := ?_) (a' := ?_) #[true,true,true,true,true,false,false,false,false,false,false,false,false,false,false,false,false,false] rfl rfl (any_of HT_.out (by kernel_rfl)) (fun _ _ _ h => h) (Or.inl ⟨by rfl, ?_⟩) ?_ ?_
                rotate_left; (· intro w'; go_simp; with_reducible rfl); rotate_left; (· simp only [Act.put, sqa, sqb, sqc, i64_w, i32_w]; rfl)
                refine pure_ (i := 5) (N := some 29) (v := ?_) (a' := ?_) #[true,true,true,true,true,true,false,false,false,false,false,false,false,false,false,false,false,false] rfl rfl (any_of HT_.out (by kernel_rfl)) (fun _ _ _ h => h) (Or.inl ⟨by rfl, ?_⟩) ?_ ?_
                rotate_left; (· intro w'; go_simp; with_reducible rfl); rotate_left; (· simp only [Act.put, sqa, sqb, sqc, i64_w, i32_w]; rfl)
                refine pure_ (i := 6) (N := some 30) (v := undef) (a' := ?_) #[true,true,true,true,true,true,true,false,false,false,false,false,false,false,false,false,false,false] rfl rfl (any_of HT_.out (by kernel_rfl)) (fun _ _ _ h => h) (Or.inr ⟨by rfl, rfl⟩) ?_ ?_
                rotate_left; (· simp only [Act.put, sqa, sqb, sqc, i64_w, i32_w]; rfl)
                refine pure_ (i := 7) (N := some 31) (v := undef) (a' := ?_) #[true,true,true,true,true,true,true,true,false,false,false,false,false,false,false,false,false,false] rfl rfl (any_of HT_.out (by kernel_rfl)) (fun _ _ _ h => h) (Or.inr ⟨by rfl, rfl⟩) ?_ ?_
                rotate_left; (· simp only [Act.put, sqa, sqb, sqc, i64_w, i32_w]; rfl)
                refine pure_ (i := 8) (N := some 32) (v := undef) (a' := ?_) #[true,true,true,true,true,true,true,true,true,false,false,false,false,false,false,false,false,false] rfl rfl (any_of HT_.out (by kernel_rfl)) (fun _ _ _ h => h) (Or.inr ⟨by rfl, rfl⟩) ?_ ?_
                rotate_left; (· simp only [Act.put, sqa, sqb, sqc, i64_w, i32_w]; rfl)
                refine pure_ (i := 9) (N := some 33) (v := undef) (a' := ?_) #[true,true,true,true,true,true,true,true,true,true,false,false,false,false,false,false,false,false] rfl rfl (any_of HT_.out (by kernel_rfl)) (fun _ _ _ h => h) (Or.inr ⟨by rfl, rfl⟩) ?_ ?_
                rotate_left; (· simp only [Act.put, sqa, sqb, sqc, i64_w, i32_w]; rfl)
                refine pure_ (i := 10) (N := some 34) (v := undef) (a' := ?_) #[true,true,true,true,true,true,true,true,true,true,true,false,false,false,false,false,false,false] rfl rfl (any_of HT_.out (by kernel_rfl)) (fun _ _ _ h => h) (Or.inr ⟨by rfl, rfl⟩) ?_ ?_
                rotate_left; (· simp only [Act.put, sqa, sqb, sqc, i64_w, i32_w]; rfl)
                refine pure_ (i := 11) (N := some 35) (v := undef) (a' := ?_) #[true,true,true,true,true,true,true,true,true,true,true,true,false,false,false,false,false,false] rfl rfl (any_of HT_.out (by kernel_rfl)) (fun _ _ _ h => h) (Or.inr ⟨by rfl, rfl⟩) ?_ ?_
                rotate_left; (· simp only [Act.put, sqa, sqb, sqc, i64_w, i32_w]; rfl)
                refine pure_ (i := 12) (N := some 36) (v := undef) (a' := ?_) #[true,true,true,true,true,true,true,true,true,true,true,true,true,false,false,false,false,false] rfl rfl (any_of HT_.out (by kernel_rfl)) (fun _ _ _ h => h) (Or.inr ⟨by rfl, rfl⟩) ?_ ?_
                rotate_left; (· simp only [Act.put, sqa, sqb, sqc, i64_w, i32_w]; rfl)
                refine pure_ (i := 13) (N := some 37) (v := undef) (a' := ?_) #[true,true,true,true,true,true,true,true,true,true,true,true,true,true,false,false,false,false] rfl rfl (any_of HT_.out (by kernel_rfl)) (fun _ _ _ h => h) (Or.inr ⟨by rfl, rfl⟩) ?_ ?_
                rotate_left; (· simp only [Act.put, sqa, sqb, sqc, i64_w, i32_w]; rfl)
                refine pure_ (i := 14) (N := some 38) (v := undef) (a' := ?_) #[true,true,true,true,true,true,true,true,true,true,true,true,true,true,true,false,false,false] rfl rfl (any_of HT_.out (by kernel_rfl)) (fun _ _ _ h => h) (Or.inr ⟨by rfl, rfl⟩) ?_ ?_
                rotate_left; (· simp only [Act.put, sqa, sqb, sqc, i64_w, i32_w]; rfl)
                refine pure_ (i := 15) (N := some 39) (v := undef) (a' := ?_) #[true,true,true,true,true,true,true,true,true,true,true,true,true,true,true,true,false,false] rfl rfl (any_of HT_.out (by kernel_rfl)) (fun _ _ _ h => h) (Or.inr ⟨by rfl, rfl⟩) ?_ ?_
                rotate_left; (· simp only [Act.put, sqa, sqb, sqc, i64_w, i32_w]; rfl)
                refine pure_ (i := 16) (N := some 40) (v := undef) (a' := ?_) #[true,true,true,true,true,true,true,true,true,true,true,true,true,true,true,true,true,false] rfl rfl (any_of HT_.out (by kernel_rfl)) (fun _ _ _ h => h) (Or.inr ⟨by rfl, rfl⟩) ?_ ?_
                rotate_left; (· simp only [Act.put, sqa, sqb, sqc, i64_w, i32_w]; rfl)
                refine pure_ (i := 17) (N := some 41) (v := ?_) (a' := ?_) #[true,true,true,true,true,true,true,true,true,true,true,true,true,true,true,true,true,true] rfl rfl (any_of HT_.out (by kernel_rfl)) (fun _ _ _ h => h) (Or.inl ⟨by rfl, ?_⟩) ?_ ?_
                rotate_left; (· intro w'; go_simp; with_reducible rfl); rotate_left; (· simp only [Act.put, sqa, sqb, sqc, i64_w, i32_w]; rfl)
                refine done_ (done_of HT_.out (by kernel_rfl)) ?_
                have hnb54 := NB530_526.out
                have hnc54 := NB526_530.out
                have hcz55_0 : w52.cell? ⟨gb530, 0, none⟩ = some (.slice Ao53 x531000_1.length co53) := (blk_cell BK530.out 0).trans rfl
                have hcz55_1 : w52.cell? ⟨gb530, 1, none⟩ = some (u531001) := (blk_cell BK530.out 1).trans rfl
                have hcz55_2 : w52.cell? ⟨gb530, 2, none⟩ = some (u531002) := (blk_cell BK530.out 2).trans rfl
                have hfz55_0 := blk_frozen BK530.out 0
                have hfz55_1 := blk_frozen BK530.out 1
                have hfz55_2 := blk_frozen BK530.out 2
                try go_wp2
                have n0_ := Aside0.mk (Kd.R_drew HO_531000.out)
                have n1_ := Aside0.mk (Kd.R_drew HO_531001.out)
                have n2_ := Aside0.mk (Kd.R_drew HO_531002.out)
                have n3_ := Aside0.mk (blk_drew BK526.out)
                have n4_ := Aside0.mk (blk_drew BK530.out)
                have n5_ := Aside0.mk (below_drew1 HB.out)
                clear HO_531000; clear HO_531001; clear HO_531002; clear BK526; clear BK530; clear HB
                have HO_531000 := n0_
                have HO_531001 := n1_
                have HO_531002 := n2_
                have BK526 := n3_
                have BK530 := n4_
                have HB := n5_
                clear n0_ n1_ n2_ n3_ n4_ n5_
                have p541 : 0 ≤ (x4_1 : Int) := of_decide_eq_true (by first | (with_reducible assumption) | assumption)
                have q541 : x4_1 < (l0.length : Int) := of_decide_eq_true (by first | (with_reducible assumption) | assumption)
                obtain ⟨ad541, e541, hx541_0, hx541_1, hx541_2, hx541_3, hx541_4, hx541_5, hx541_6⟩ := at_T78 HR0.out x4_1 p541 q541
                have hw541_6 := hx541_6
                have hw541_5 := hx541_5
                have hw541_4 := hx541_4
                have hw541_3 := hx541_3
                have hw541_2 := hx541_2
                have hw541_1 := hx541_1
                have hw541_0 := hx541_0
                obtain rfl : ad531 = ad541 := (by injection e541)
                replace hx541_0 := (HB.out.cell (sqd w _ hx541_0)).trans hx541_0
                replace hx541_1 := (HB.out.cell (sqd w _ hx541_1)).trans hx541_1
                replace hx541_2 := (HB.out.cell (sqd w _ hx541_2)).trans hx541_2
                replace hx541_3 := (HB.out.cell (sqd w _ hx541_3)).trans hx541_3
                replace hx541_4 := (HB.out.cell (sqd w _ hx541_4)).trans hx541_4
                replace hx541_5 := (HB.out.cell (sqd w _ hx541_5)).trans hx541_5
                replace hx541_6 := (HB.out.cell (sqd w _ hx541_6)).trans hx541_6
                replace p541 := eq_true p541
                replace q541 := eq_true q541
                refine start_ (n := 11) (S := fun w' => w'.cell? ⟨gb530, 0, none⟩ = some (.slice Ao53 x531000_1.length co53) ∧ w'.cell? ⟨gb530, 1, none⟩ = some (u531001) ∧ w'.cell? ⟨gb530, 2, none⟩ = some (u531002) ∧ w'.cell? (ad531.add ((x4_1).toNat * 7)) = some (.int .i64 ((rd_T78 l0 x4_1).f0)) ∧ w'.cell? ⟨(ad531.add ((x4_1).toNat * 7)).block, (ad531.add ((x4_1).toNat * 7)).off + 1, none⟩ = some (.int .i64 ((rd_T78 l0 x4_1).f1)) ∧ w'.cell? ⟨(ad531.add ((x4_1).toNat * 7)).block, (ad531.add ((x4_1).toNat * 7)).off + 2, none⟩ = some (.int .u64 ((rd_T78 l0 x4_1).f2.f0)) ∧ w'.cell? ⟨(ad531.add ((x4_1).toNat * 7)).block, (ad531.add ((x4_1).toNat * 7)).off + 3, none⟩ = some (.int .u64 ((rd_T78 l0 x4_1).f2.f1)) ∧ w'.cell? ⟨(ad531.add ((x4_1).toNat * 7)).block, (ad531.add ((x4_1).toNat * 7)).off + 4, none⟩ = some (.int .u64 ((rd_T78 l0 x4_1).f2.f2)) ∧ w'.cell? ⟨(ad531.add ((x4_1).toNat * 7)).block, (ad531.add ((x4_1).toNat * 7)).off + 5, none⟩ = some (.int .u64 ((rd_T78 l0 x4_1).f2.f3)) ∧ w'.cell? ⟨(ad531.add ((x4_1).toNat * 7)).block, (ad531.add ((x4_1).toNat * 7)).off + 6, none⟩ = some (.string ((rd_T78 l0 x4_1).f3))) (ds := [10]) #[false,false,false,false,false,false,false,false,false,false,false] (by kernel_rfl) rfl rfl ⟨(blk_cell BK530.out 0).trans rfl, (blk_cell BK530.out 1).trans rfl, (blk_cell BK530.out 2).trans rfl, ((HB.out.cell (sqd w _ hw541_0)).trans hw541_0), ((HB.out.cell (sqd w _ hw541_1)).trans hw541_1), ((HB.out.cell (sqd w _ hw541_2)).trans hw541_2), ((HB.out.cell (sqd w _ hw541_3)).trans hw541_3), ((HB.out.cell (sqd w _ hw541_4)).trans hw541_4), ((HB.out.cell (sqd w _ hw541_5)).trans hw541_5), ((HB.out.cell (sqd w _ hw541_6)).trans hw541_6)⟩ (fun hHeld => ?_); refine with_tabW dowelref20_tables.tab11 dowelref20_tables.bits11 (fun HT_ HW_ => ?_)
                generalize w52.drew = w56 at HO_531000 HO_531001 HO_531002 BK526 BK530 HB hx541_0 hx541_1 hx541_2 hx541_3 hx541_4 hx541_5 hx541_6 hHeld ⊢
                refine pure_ (i := 0) (N := some 49) (v := ?_) (a' := ?_) #[true,false,false,false,false,false,false,false,false,false,false] rfl rfl (any_of HT_.out (by kernel_rfl)) (fun _ _ _ h => h) (Or.inl ⟨by rfl, ?_⟩) ?_ ?_
                rotate_left; (· intro w'; go_simp; with_reducible rfl); rotate_left; (· simp only [Act.put, sqa, sqb, sqc, i64_w, i32_w]; rfl)
                refine pure_ (i := 2) (N := some 51) (v := ?_) (a' := ?_) #[true,false,true,false,false,false,false,false,false,false,false] rfl rfl (any_of HT_.out (by kernel_rfl)) (fun _ _ _ h => h) (Or.inl ⟨by rfl, ?_⟩) ?_ ?_
                rotate_left; (· intro w'; go_simp; with_reducible rfl); rotate_left; (· simp only [Act.put, sqa, sqb, sqc, i64_w, i32_w]; rfl)
                refine pure_ (i := 3) (N := some 52) (v := ?_) (a' := ?_) #[true,false,true,true,false,false,false,false,false,false,false] rfl rfl (any_of HT_.out (by kernel_rfl)) (fun _ _ _ h => h) (Or.inl ⟨by rfl, ?_⟩) ?_ ?_
                rotate_left; (· intro w'; go_simp; with_reducible rfl); rotate_left; (· simp only [Act.put, sqa, sqb, sqc, i64_w, i32_w]; rfl)
                refine pure_ (i := 4) (N := some 53) (v := ?_) (a' := ?_) #[true,false,true,true,true,false,false,false,false,false,false] rfl rfl (any_of HT_.out (by kernel_rfl)) (fun _ _ _ h => h) (Or.inl ⟨by rfl, ?_⟩) ?_ ?_
                rotate_left; (· intro w'; go_simp; with_reducible rfl); rotate_left; (· simp only [Act.put, sqa, sqb, sqc, i64_w, i32_w]; rfl)
                refine pure_ (i := 5) (N := some 54) (v := ?_) (a' := ?_) #[true,false,true,true,true,true,false,false,false,false,false] rfl rfl (any_of HT_.out (by kernel_rfl)) (fun _ _ _ h => h) (Or.inl ⟨by rfl, ?_⟩) ?_ ?_
                rotate_left; (· intro w'; go_simp; with_reducible rfl); rotate_left; (· simp only [Act.put, sqa, sqb, sqc, i64_w, i32_w]; rfl)
                refine take_ (i := 1) (N := some 50) (v := ?_) (a' := ?_) #[true,true,true,true,true,true,false,false,false,false,false] rfl rfl (take_ofW HT_.out HW_.out (by kernel_rfl)) (fun _ _ _ h => h) (Or.inl ⟨by rfl, ?_⟩) hHeld ?_ ?_
                rotate_left; (· rintro w' ⟨s0, s1, s2, s3, s4, s5, s6, s7, s8, s9⟩; go_simp; with_reducible rfl); rotate_left; (· simp only [Act.put, sqa, sqb, sqc, i64_w, i32_w]; rfl)
                refine take_ (i := 6) (N := some 55) (v := ?_) (a' := ?_) #[true,true,true,true,true,true,true,false,false,false,false] rfl rfl (take_ofW HT_.out HW_.out (by kernel_rfl)) (fun _ _ _ h => h) (Or.inl ⟨by rfl, ?_⟩) hHeld ?_ ?_
                rotate_left; (· rintro w' ⟨s0, s1, s2, s3, s4, s5, s6, s7, s8, s9⟩; go_simp; with_reducible rfl); rotate_left; (· simp only [Act.put, sqa, sqb, sqc, i64_w, i32_w]; rfl)
                refine one_ (i := 7) (N := some 56) #[true,true,true,true,true,true,true,true,false,false,false] rfl rfl (one_of HT_.out (by kernel_rfl)) (by decide) (fun K hK => ?_)
                refine value_ (w1 := ?_) (v := ?_) (by rfl) rfl ?_ ?_
                rotate_left 2
                ·go_simp
                 constructor
                 ·rfl
                 ·rfl
                refine hK.out _ _ ⟨(blk_cell (blk_alloc BK530.out _) 0).trans rfl, (blk_cell (blk_alloc BK530.out _) 1).trans rfl, (blk_cell (blk_alloc BK530.out _) 2).trans rfl, (World.cell?_alloc_lt _ _ _ (sqd _ _ (((HB.out.cell (sqd w _ hw541_0)).trans hw541_0)))).trans (((HB.out.cell (sqd w _ hw541_0)).trans hw541_0)), (World.cell?_alloc_lt _ _ _ (sqd _ _ (((HB.out.cell (sqd w _ hw541_1)).trans hw541_1)))).trans (((HB.out.cell (sqd w _ hw541_1)).trans hw541_1)), (World.cell?_alloc_lt _ _ _ (sqd _ _ (((HB.out.cell (sqd w _ hw541_2)).trans hw541_2)))).trans (((HB.out.cell (sqd w _ hw541_2)).trans hw541_2)), (World.cell?_alloc_lt _ _ _ (sqd _ _ (((HB.out.cell (sqd w _ hw541_3)).trans hw541_3)))).trans (((HB.out.cell (sqd w _ hw541_3)).trans hw541_3)), (World.cell?_alloc_lt _ _ _ (sqd _ _ (((HB.out.cell (sqd w _ hw541_4)).trans hw541_4)))).trans (((HB.out.cell (sqd w _ hw541_4)).trans hw541_4)), (World.cell?_alloc_lt _ _ _ (sqd _ _ (((HB.out.cell (sqd w _ hw541_5)).trans hw541_5)))).trans (((HB.out.cell (sqd w _ hw541_5)).trans hw541_5)), (World.cell?_alloc_lt _ _ _ (sqd _ _ (((HB.out.cell (sqd w _ hw541_6)).trans hw541_6)))).trans (((HB.out.cell (sqd w _ hw541_6)).trans hw541_6))⟩ (fun hHeld => ?_)
                clear hK K
                refine norm_ (a' := ?_) ?_ ?_
                rotate_left
                ·show Act.put _ (some 56) _ = _
                 simp only [Act.put, sqa, sqb, sqc, i64_w, i32_w]
                 rfl
                refine one_ (i := 8) (N := some 57) #[true,true,true,true,true,true,true,true,true,false,false] rfl rfl (one_of HT_.out (by kernel_rfl)) (by decide) (fun K hK => ?_)
                refine Kd.R_append_step k76 (w0 := w) w.heap.size (by rfl) (.tmp 50) (.tmp 56) 85 76 (.agg #[(.int .u64 0), (.int .u64 0), (.int .u64 0), (.int .u64 0)]) 32 rfl Try.underlying85 info76 rfl (by decide) (by omega) (.slice Ao53 x531000_1.length co53) x531000_1 (⟨(rd_T78 l0 x4_1).f2.f0, (rd_T78 l0 x4_1).f2.f1, (rd_T78 l0 x4_1).f2.f2, (rd_T78 l0 x4_1).f2.f3⟩ : S76) [.int .u64 ((rd_T78 l0 x4_1).f2.f0), .int .u64 ((rd_T78 l0 x4_1).f2.f1), .int .u64 ((rd_T78 l0 x4_1).f2.f2), .int .u64 ((rd_T78 l0 x4_1).f2.f3)] (fun _ => True) (fun _ => False) rfl rfl ?aP (fun _ hk => hk.elim) ?aF ?aO ?aB ?aS ?aL ?_
                (case aP => exact k76_mkM _ _ _ (⟨(rd_T78 l0 x4_1).f2.f0, (rd_T78 l0 x4_1).f2.f1, (rd_T78 l0 x4_1).f2.f2, (rd_T78 l0 x4_1).f2.f3⟩ : S76))
                (case aB => exact (by repeat (first | (with_reducible first | exact HB.out | apply below_alloc | apply pw_below_drewN | apply below_drew1 | refine below_set ?_ GE526.out | refine below_set ?_ GE530.out) | exact HB.out)))
                (case aF => exact (fun _ _ => trivial))
                (case aO => exact (by (with_reducible repeat (first | apply Kd.R_alloc | apply Kd.R_drewN | apply Kd.R_drew)); exact HO_531000.out))
                (case aS => exact (below_size (by repeat (first | (with_reducible first | exact HB.out | apply below_alloc | apply pw_below_drewN | apply below_drew1 | refine below_set ?_ GE526.out | refine below_set ?_ GE530.out) | exact HB.out))))
                (case aL => have := LMc49.out; omega)
                intro v543 w57 ho hb hg hat
                rw [← Ny542.out] at ho
                have n0_ := Aside0.mk (Kd.R_over' (by (with_reducible repeat (first | apply Kd.R_alloc | apply Kd.R_drewN | apply Kd.R_drew)); exact HO_531001.out) (Kd.R_typed (by (with_reducible repeat (first | apply Kd.R_alloc | apply Kd.R_drewN | apply Kd.R_drew)); exact HO_531000.out)) (by decide) hg)
                have n1_ := Aside0.mk (Kd.R_over' (by (with_reducible repeat (first | apply Kd.R_alloc | apply Kd.R_drewN | apply Kd.R_drew)); exact HO_531002.out) (Kd.R_typed (by (with_reducible repeat (first | apply Kd.R_alloc | apply Kd.R_drewN | apply Kd.R_drew)); exact HO_531000.out)) (by decide) hg)
                have n2_ := Aside0.mk (blk_grown (g := gb526) (o := .cells #[.slice none 0 0, .slice none 0 0, .slice none 0 0] 112 (0, 0)) (by (with_reducible repeat (first | refine blk_drewN ?_ _ | refine blk_drew ?_ | refine blk_alloc ?_ _)); exact BK526.out) hg (Kd.R_ne HO_531000.out BK526.out (by decide)))
                have n3_ := Aside0.mk (blk_grown (g := gb530) (o := .cells #[.slice Ao53 x531000_1.length co53, u531001, u531002] 112 (0, 0)) (by (with_reducible repeat (first | refine blk_drewN ?_ _ | refine blk_drew ?_ | refine blk_alloc ?_ _)); exact BK530.out) hg (Kd.R_ne HO_531000.out BK530.out (by decide)))
                have n4_ := Aside0.mk (hb)
                have n5_ := Aside0.mk (ho)
                clear HO_531001; clear HO_531002; clear BK526; clear BK530; clear HB; clear HO_531000
                have HO_531001 := n0_
                have HO_531002 := n1_
                have BK526 := n2_
                have BK530 := n3_
                have HB := n4_
                have HO544 := n5_
                clear n0_ n1_ n2_ n3_ n4_ n5_; clear ho hb hg hat
                obtain ⟨Ao58, co58, eo58⟩ := Kd.R_slice HO544.out
                (first | subst eo58 | (injection eo58 with f1_ f2_ f3_; have f4_ := f1_.symm; have f5_ := f3_.symm; clear f1_ f2_ f3_; subst f4_; subst f5_))
                refine hK.out _ _ ⟨(blk_cell BK530.out 0).trans rfl, (blk_cell BK530.out 1).trans rfl, (blk_cell BK530.out 2).trans rfl, ((HB.out.cell (sqd w _ hw541_0)).trans hw541_0), ((HB.out.cell (sqd w _ hw541_1)).trans hw541_1), ((HB.out.cell (sqd w _ hw541_2)).trans hw541_2), ((HB.out.cell (sqd w _ hw541_3)).trans hw541_3), ((HB.out.cell (sqd w _ hw541_4)).trans hw541_4), ((HB.out.cell (sqd w _ hw541_5)).trans hw541_5), ((HB.out.cell (sqd w _ hw541_6)).trans hw541_6)⟩ (fun hHeld => ?_)
                clear hK K
                refine norm_ (a' := ?_) ?_ ?_
                rotate_left
                ·show Act.put _ (some 57) _ = _
                 simp only [Act.put, sqa, sqb, sqc, i64_w, i32_w]
                 rfl
                refine pure_ (i := 9) (N := some 58) (v := ?_) (a' := ?_) #[true,true,true,true,true,true,true,true,true,true,false] rfl rfl (any_of HT_.out (by kernel_rfl)) (fun _ _ _ h => h) (Or.inl ⟨by rfl, ?_⟩) ?_ ?_
                rotate_left; (· intro w'; go_simp; with_reducible rfl); rotate_left; (· simp only [Act.put, sqa, sqb, sqc, i64_w, i32_w]; rfl)
                refine last_ (i := 10) (N := none) #[true,true,true,true,true,true,true,true,true,true,true] rfl rfl (one_of HT_.out (by kernel_rfl)) (by decide) (fun K hK => ?_)
                have hs59 : w57.cell? ⟨gb530, 0, none⟩ = some (.slice Ao53 x531000_1.length co53) := (blk_cell BK530.out 0).trans rfl
                have hfs59 := blk_frozen BK530.out 0
                have hns59_0 := NB526_530.out
                have hms59_0 := NB530_526.out
                refine skip_ (w1 := ?_) (by rfl) rfl ?_ ?_
                rotate_left
                ·go_simp
                 rfl
                refine hK.out _ _ ?_
                clear hK K
                refine done_ (done_of HT_.out (by kernel_rfl)) ?_
                have n0_ : Aside0 (Kd.R Kd.string 9 (w57.setCell ⟨gb530, 0, none⟩ (.slice Ao58 y542.length co58)) w.heap.size (fun _ => True) u531001 x531001_1) := ⟨by (with_reducible repeat (first | apply Kd.R_alloc | apply Kd.R_drewN | apply Kd.R_drew)); exact Kd.R_mono (Kd.R_far (p := ⟨gb530, 0, none⟩) (Kd.R_types HO_531001.out BK530.out (by decide)) (fun _ hk => hk.2) (.slice Ao58 y542.length co58)) (fun _ hk => trivial)⟩
                have n1_ : Aside0 (Kd.R (Kd.int .i64) 3 (w57.setCell ⟨gb530, 0, none⟩ (.slice Ao58 y542.length co58)) w.heap.size (fun _ => True) u531002 x531002_1) := ⟨by (with_reducible repeat (first | apply Kd.R_alloc | apply Kd.R_drewN | apply Kd.R_drew)); exact Kd.R_mono (Kd.R_far (p := ⟨gb530, 0, none⟩) (Kd.R_types HO_531002.out BK530.out (by decide)) (fun _ hk => hk.2) (.slice Ao58 y542.length co58)) (fun _ hk => trivial)⟩
                have n2_ : Aside0 (Kd.R k76 76 (w57.setCell ⟨gb530, 0, none⟩ (.slice Ao58 y542.length co58)) w.heap.size (fun _ => True) (.slice Ao58 y542.length co58) y542) := ⟨by (with_reducible repeat (first | apply Kd.R_alloc | apply Kd.R_drewN | apply Kd.R_drew)); exact Kd.R_mono (Kd.R_far (p := ⟨gb530, 0, none⟩) (Kd.R_types HO544.out BK530.out (by decide)) (fun _ hk => hk.2) (.slice Ao58 y542.length co58)) (fun _ hk => trivial)⟩
                have n3_ : Aside0 ((w57.setCell ⟨gb530, 0, none⟩ (.slice Ao58 y542.length co58)).heap[gb526]? = some (.cells #[.slice none 0 0, .slice none 0 0, .slice none 0 0] 112 (0, 0))) := ⟨by (with_reducible repeat (first | refine blk_drewN ?_ _ | refine blk_drew ?_ | refine blk_alloc ?_ _)); refine blk_far ?_ NB526_530.out _; (with_reducible repeat (first | refine blk_drewN ?_ _ | refine blk_drew ?_ | refine blk_alloc ?_ _)); exact BK526.out⟩
                have n4_ : Aside0 ((w57.setCell ⟨gb530, 0, none⟩ (.slice Ao58 y542.length co58)).heap[gb530]? = some (.cells #[.slice Ao58 y542.length co58, u531001, u531002] 112 (0, 0))) := ⟨by (with_reducible repeat (first | refine blk_drewN ?_ _ | refine blk_drew ?_ | refine blk_alloc ?_ _)); refine blk_put (cs := #[.slice Ao53 x531000_1.length co53, u531001, u531002]) ?_ 0 _ rfl; (with_reducible repeat (first | refine blk_drewN ?_ _ | refine blk_drew ?_ | refine blk_alloc ?_ _)); exact BK530.out⟩
                have n5_ : Aside0 (Below w.heap.size w (w57.setCell ⟨gb530, 0, none⟩ (.slice Ao58 y542.length co58))) := ⟨by repeat (first | (with_reducible first | exact HB.out | apply below_alloc | apply pw_below_drewN | apply below_drew1 | refine below_set ?_ GE526.out | refine below_set ?_ GE530.out) | exact HB.out)⟩
                (try clear HO_531001); (try clear HO_531002); (try clear HO544); (try clear BK526); (try clear BK530); (try clear HB)
                generalize (w57.setCell ⟨gb530, 0, none⟩ (.slice Ao58 y542.length co58)) = w60 at n0_ n1_ n2_ n3_ n4_ n5_ ⊢
                have HO_531001 := n0_
                have HO_531002 := n1_
                have HO544 := n2_
                have BK526 := n3_
                have BK530 := n4_
                have HB := n5_
                clear n0_ n1_ n2_ n3_ n4_ n5_
                have hcz61_0 : w60.cell? ⟨gb530, 0, none⟩ = some (.slice Ao58 y542.length co58) := (blk_cell BK530.out 0).trans rfl
                have hcz61_1 : w60.cell? ⟨gb530, 1, none⟩ = some (u531001) := (blk_cell BK530.out 1).trans rfl
                have hcz61_2 : w60.cell? ⟨gb530, 2, none⟩ = some (u531002) := (blk_cell BK530.out 2).trans rfl
                have hfz61_0 := blk_frozen BK530.out 0
                have hfz61_1 := blk_frozen BK530.out 1
                have hfz61_2 := blk_frozen BK530.out 2
                have p51 : 0 ≤ (x4_1 : Int) := of_decide_eq_true (by first | (with_reducible assumption) | assumption)
                have q51 : (x4_1 : Int) < ((x531002_1.length : Int) : Int) := of_decide_eq_true (by first | (with_reducible assumption) | assumption)
                obtain ⟨go51, co51, eo51, gb51, gl51, cl51, HG51⟩ := Kd.R_form HO_531002.out (by omega)
                (first | cases eo51 | (injection eo51 with ea_ en_ ec_; (first | subst ea_ | (injection ea_ with ea_; subst ea_)); subst ec_; clear en_))
                have GB51 := Aside0.mk gb51; have GG51 := Aside0.mk HG51; clear gb51 gl51 HG51
                obtain ⟨hx51_0, hf51_0⟩ := Kd.R_celln 0 HO_531002.out (x4_1 : Int) p51 q51
                replace p51 := eq_true p51
                replace q51 := eq_true q51
                obtain ⟨hy62_, hz62_⟩ := Kd.R_celln 0 HO_531002.out (x4_1 : Int) (of_decide_eq_true (by first | (with_reducible assumption) | assumption)) (of_decide_eq_true (by first | (with_reducible assumption) | assumption))
                have HP62 := Kd.R_putg HO_531002.out (x4_1 : Int) x5_2
                try go_wp2_with (first | ((with_reducible refine gate_store (t := 3) (p := 100) rfl ?_); refine store_event (t := 3) (p := 100) (v := ?vo_w63) (w1 := (w60.setCell ⟨go51, (x4_1 : Int).toNat, none⟩ (.int .i64 x5_2))) ?hg ?ho ?hn ?hr ?_; (case ho => rfl); (case hg => rfl); (case hn => rfl); (case hr => first | (go_simp; done) | (go_simp; rfl)); intro w63 hw; have hg : w60.grownBy w63 (some go51) := (by rw [hw]; exact HP62.2); have hp_ : Kd.R (Kd.int .i64) 3 w63 w.heap.size (fun _ => True) (.slice (some ⟨go51, 0, none⟩) x531002_1.length co51) y545 := (by rw [hw, Ny545.out]; exact HP62.1); clear HP62; have n0_ := Aside0.mk (Kd.R_over' (v := (.slice (some ⟨go51, 0, none⟩) x531002_1.length co51)) (by (with_reducible repeat (first | apply Kd.R_alloc | apply Kd.R_drewN | apply Kd.R_drew)); exact HO_531001.out) (Kd.R_typed HO_531002.out) (by decide) hg); have n1_ := Aside0.mk (hp_); have n2_ := Aside0.mk (blk_grown (g := gb526) (o := .cells #[.slice none 0 0, .slice none 0 0, .slice none 0 0] 112 (0, 0)) (by (with_reducible repeat (first | refine blk_drewN ?_ _ | refine blk_drew ?_ | refine blk_alloc ?_ _)); exact BK526.out) hg (Kd.R_ne HO_531002.out BK526.out (by decide))); have n3_ := Aside0.mk (blk_grown (g := gb530) (o := .cells #[.slice Ao58 y542.length co58, u531001, .slice (some ⟨go51, 0, none⟩) x531002_1.length co51] 112 (0, 0)) (by (with_reducible repeat (first | refine blk_drewN ?_ _ | refine blk_drew ?_ | refine blk_alloc ?_ _)); exact BK530.out) hg (Kd.R_ne HO_531002.out BK530.out (by decide))); have n4_ := Aside0.mk (Kd.R_over' (v := (.slice (some ⟨go51, 0, none⟩) x531002_1.length co51)) (by (with_reducible repeat (first | apply Kd.R_alloc | apply Kd.R_drewN | apply Kd.R_drew)); exact HO544.out) (Kd.R_typed HO_531002.out) (by decide) hg); have n5_ := Aside0.mk ((by rw [hw]; exact below_set (HB.out) GB51.out : Below w.heap.size w w63)); clear HO_531001; clear HO_531002; clear BK526; clear BK530; clear HO544; clear HB; have HO_531001 := n0_; have HO_531002 := n1_; have BK526 := n2_; have BK530 := n3_; have HO544 := n4_; have HB := n5_; clear n0_ n1_ n2_ n3_ n4_ n5_; clear hg hw hp_))
                go_roundg k2
                case measure => have := HK1.out; have := HK2.out; omega
                case rel => exact ⟨(wrap64 (x4_1 + 1)), (y542), (x531001_1), (y545), (.slice Ao58 y542.length co58), (u531001), (.slice (some ⟨go51, 0, none⟩) x531002_1.length co51), (by first | rfl | (simp; done) | (simp [*]; done)), H', ⟨by have := HK1.out; have := HK2.out; omega⟩, ⟨by (with_reducible repeat (first | apply Kd.R_alloc | apply Kd.R_drewN | apply Kd.R_drew)); exact HO544.out⟩, ⟨by (with_reducible repeat (first | apply Kd.R_alloc | apply Kd.R_drewN | apply Kd.R_drew)); exact HO_531001.out⟩, ⟨by (with_reducible repeat (first | apply Kd.R_alloc | apply Kd.R_drewN | apply Kd.R_drew)); exact HO_531002.out⟩, ⟨by (with_reducible repeat (first | refine blk_drewN ?_ _ | refine blk_drew ?_ | refine blk_alloc ?_ _)); exact BK526.out⟩, ⟨by (with_reducible repeat (first | refine blk_drewN ?_ _ | refine blk_drew ?_ | refine blk_alloc ?_ _)); exact BK530.out⟩, ⟨by repeat (first | (with_reducible first | exact HB.out | apply below_alloc | apply pw_below_drewN | apply below_drew1 | refine below_set ?_ GE526.out | refine below_set ?_ GE530.out) | exact HB.out)⟩⟩
               ·rw [if_neg c50] at H
                exact absurd H (by simp)
              ·rw [if_neg c49] at H
               exact absurd H (by simp)
             ·rw [if_neg c48] at H
              exact absurd H (by simp)
            ·rw [if_neg c47] at H
             exact absurd H (by simp)
           ·rw [if_neg c46] at H
            have c46b0 : (x5_2 == (x531000_1.length : Int)) = false := beq_eq_false_iff_ne.mpr c46
            have c46b1 : (x5_2 != (x531000_1.length : Int)) = true := bne_iff_ne.mpr c46
            by_cases c64 : 0 ≤ x4_1
            ·rw [if_pos c64] at H
             have c64b0 : decide (0 ≤ x4_1) = true := decide_eq_true c64
             clear c64
             by_cases c65 : x4_1 < (x531002_1.length : Int)
             ·rw [if_pos c65] at H
              have c65b0 : decide (x4_1 < (x531002_1.length : Int)) = true := decide_eq_true c65
              clear c65
              obtain ⟨y546, hy546⟩ : ∃ y_ : List Int, y_ = (x531002_1.set (x4_1 : Int).toNat x5_2) := ⟨_, rfl⟩
              replace H : (dowelref20_tables.l0 k2 l0 (wrap64 (x4_1 + 1)) x531000_1 x531001_1 y546) = some (r1, r2, r3) := by first | (rw [hy546]; with_reducible exact H) | (have H2_ := (Option.bind_some _ _).symm.trans H; rw [hy546]; with_reducible exact H2_) | (have H2_ := (Option.bind_some _ _).symm.trans H; with_reducible exact H2_) | with_reducible exact H | (rw [hy546]; exact H) | exact H
              have Ny546 := Aside0.mk hy546; clear hy546
              have H' := Aside0.mk H
              clear H
              try go_wp2
              have n0_ := Aside0.mk (Kd.R_drew HO_531000.out)
              have n1_ := Aside0.mk (Kd.R_drew HO_531001.out)
              have n2_ := Aside0.mk (Kd.R_drew HO_531002.out)
              have n3_ := Aside0.mk (blk_drew BK526.out)
              have n4_ := Aside0.mk (blk_drew BK530.out)
              have n5_ := Aside0.mk (below_drew1 HB.out)
              clear HO_531000; clear HO_531001; clear HO_531002; clear BK526; clear BK530; clear HB
              have HO_531000 := n0_
              have HO_531001 := n1_
              have HO_531002 := n2_
              have BK526 := n3_
              have BK530 := n4_
              have HB := n5_
              clear n0_ n1_ n2_ n3_ n4_ n5_
              obtain ⟨Ao68, co68, eo68⟩ := Kd.R_slice HO_531000.out
              (first | subst eo68 | (injection eo68 with f1_ f2_ f3_; have f4_ := f1_.symm; have f5_ := f3_.symm; clear f1_ f2_ f3_; subst f4_; subst f5_))
              refine start_ (n := 18) (S := fun w' => w'.cell? ⟨gb530, 0, none⟩ = some (.slice Ao68 x531000_1.length co68) ∧ w'.cell? ⟨gb530, 1, none⟩ = some (u531001) ∧ w'.cell? ⟨gb530, 2, none⟩ = some (u531002)) (ds := []) #[false,false,false,false,false,false,false,false,false,false,false,false,false,false,false,false,false,false] (by kernel_rfl) rfl rfl ⟨(blk_cell BK530.out 0).trans rfl, (blk_cell BK530.out 1).trans rfl, (blk_cell BK530.out 2).trans rfl⟩ (fun hHeld => ?_); refine with_tabW dowelref20_tables.tab8 dowelref20_tables.bits8 (fun HT_ HW_ => ?_)
              generalize wr.drew = w67 at HO_531000 HO_531001 HO_531002 BK526 BK530 HB hHeld ⊢
              refine pure_ (i := 0) (N := some 24) (v := ?_) (a' := ?_) #[true,false,false,false,false,false,false,false,false,false,false,false,false,false,false,false,false,false] rfl rfl (any_of HT_.out (by kernel_rfl)) (fun _ _ _ h => h) (Or.inl ⟨by rfl, ?_⟩) ?_ ?_
              rotate_left; (· intro w'; go_simp; with_reducible rfl); rotate_left; (· simp only [Act.put, sqa, sqb, sqc, i64_w, i32_w]; rfl)
              refine pure_ (i := 1) (N := some 25) (v := ?_) (a' := ?_) #[true,true,false,false,false,false,false,false,false,false,false,false,false,false,false,false,false,false] rfl rfl (any_of HT_.out (by kernel_rfl)) (fun _ _ _ h => h) (Or.inl ⟨by rfl, ?_⟩) ?_ ?_
              rotate_left; (· intro w'; go_simp; with_reducible rfl); rotate_left; (· simp only [Act.put, sqa, sqb, sqc, i64_w, i32_w]; rfl)
              refine take_ (i := 2) (N := some 26) (v := ?_) (a' := ?_) #[true,true,true,false,false,false,false,false,false,false,false,false,false,false,false,false,false,false] rfl rfl (take_ofW HT_.out HW_.out (by kernel_rfl)) (fun _ _ _ h => h) (Or.inl ⟨by rfl, ?_⟩) hHeld ?_ ?_
              rotate_left; (· rintro w' ⟨s0, s1, s2⟩; go_simp; with_reducible rfl); rotate_left; (· simp only [Act.put, sqa, sqb, sqc, i64_w, i32_w]; rfl)
              refine pure_ (i := 3) (N := some 27) (v := ?_) (a' := ?_) #[true,true,true,true,false,false,false,false,false,false,false,false,false,false,false,false,false,false] rfl rfl (any_of HT_.out (by kernel_rfl)) (fun _ _ _ h => h) (Or.inl ⟨by rfl, ?_⟩) ?_ ?_
              rotate_left; (· intro w'; go_simp; with_reducible rfl); rotate_left; (· simp only [Act.put, sqa, sqb, sqc, i64_w, i32_w]; rfl)
              refine pure_ (i := 4) (N := some 28) (v := ?_) (a' := ?_) #[true,true,true,true,true,false,false,false,false,false,false,false,false,false,false,false,false,false] rfl rfl (any_of HT_.out (by kernel_rfl)) (fun _ _ _ h => h) (Or.inl ⟨by rfl, ?_⟩) ?_ ?_
              rotate_left; (· intro w'; go_simp; with_reducible rfl); rotate_left; (· simp only [Act.put, sqa, sqb, sqc, i64_w, i32_w]; rfl)
              refine pure_ (i := 5) (N := some 29) (v := ?_) (a' := ?_) #[true,true,true,true,true,true,false,false,false,false,false,false,false,false,false,false,false,false] rfl rfl (any_of HT_.out (by kernel_rfl)) (fun _ _ _ h => h) (Or.inl ⟨by rfl, ?_⟩) ?_ ?_
              rotate_left; (· intro w'; go_simp; with_reducible rfl); rotate_left; (· simp only [Act.put, sqa, sqb, sqc, i64_w, i32_w]; rfl)
              refine pure_ (i := 6) (N := some 30) (v := undef) (a' := ?_) #[true,true,true,true,true,true,true,false,false,false,false,false,false,false,false,false,false,false] rfl rfl (any_of HT_.out (by kernel_rfl)) (fun _ _ _ h => h) (Or.inr ⟨by rfl, rfl⟩) ?_ ?_
              rotate_left; (· simp only [Act.put, sqa, sqb, sqc, i64_w, i32_w]; rfl)
              refine pure_ (i := 7) (N := some 31) (v := undef) (a' := ?_) #[true,true,true,true,true,true,true,true,false,false,false,false,false,false,false,false,false,false] rfl rfl (any_of HT_.out (by kernel_rfl)) (fun _ _ _ h => h) (Or.inr ⟨by rfl, rfl⟩) ?_ ?_
              rotate_left; (· simp only [Act.put, sqa, sqb, sqc, i64_w, i32_w]; rfl)
              refine pure_ (i := 8) (N := some 32) (v := undef) (a' := ?_) #[true,true,true,true,true,true,true,true,true,false,false,false,false,false,false,false,false,false] rfl rfl (any_of HT_.out (by kernel_rfl)) (fun _ _ _ h => h) (Or.inr ⟨by rfl, rfl⟩) ?_ ?_
              rotate_left; (· simp only [Act.put, sqa, sqb, sqc, i64_w, i32_w]; rfl)
              refine pure_ (i := 9) (N := some 33) (v := undef) (a' := ?_) #[true,true,true,true,true,true,true,true,true,true,false,false,false,false,false,false,false,false] rfl rfl (any_of HT_.out (by kernel_rfl)) (fun _ _ _ h => h) (Or.inr ⟨by rfl, rfl⟩) ?_ ?_
              rotate_left; (· simp only [Act.put, sqa, sqb, sqc, i64_w, i32_w]; rfl)
              refine pure_ (i := 10) (N := some 34) (v := undef) (a' := ?_) #[true,true,true,true,true,true,true,true,true,true,true,false,false,false,false,false,false,false] rfl rfl (any_of HT_.out (by kernel_rfl)) (fun _ _ _ h => h) (Or.inr ⟨by rfl, rfl⟩) ?_ ?_
              rotate_left; (· simp only [Act.put, sqa, sqb, sqc, i64_w, i32_w]; rfl)
              refine pure_ (i := 11) (N := some 35) (v := undef) (a' := ?_) #[true,true,true,true,true,true,true,true,true,true,true,true,false,false,false,false,false,false] rfl rfl (any_of HT_.out (by kernel_rfl)) (fun _ _ _ h => h) (Or.inr ⟨by rfl, rfl⟩) ?_ ?_
              rotate_left; (· simp only [Act.put, sqa, sqb, sqc, i64_w, i32_w]; rfl)
              refine pure_ (i := 12) (N := some 36) (v := undef) (a' := ?_) #[true,true,true,true,true,true,true,true,true,true,true,true,true,false,false,false,false,false] rfl rfl (any_of HT_.out (by kernel_rfl)) (fun _ _ _ h => h) (Or.inr ⟨by rfl, rfl⟩) ?_ ?_
              rotate_left; (· simp only [Act.put, sqa, sqb, sqc, i64_w, i32_w]; rfl)
              refine pure_ (i := 13) (N := some 37) (v := undef) (a' := ?_) #[true,true,true,true,true,true,true,true,true,true,true,true,true,true,false,false,false,false] rfl rfl (any_of HT_.out (by kernel_rfl)) (fun _ _ _ h => h) (Or.inr ⟨by rfl, rfl⟩) ?_ ?_
              rotate_left; (· simp only [Act.put, sqa, sqb, sqc, i64_w, i32_w]; rfl)
              refine pure_ (i := 14) (N := some 38) (v := undef) (a' := ?_) #[true,true,true,true,true,true,true,true,true,true,true,true,true,true,true,false,false,false] rfl rfl (any_of HT_.out (by kernel_rfl)) (fun _ _ _ h => h) (Or.inr ⟨by rfl, rfl⟩) ?_ ?_
              rotate_left; (· simp only [Act.put, sqa, sqb, sqc, i64_w, i32_w]; rfl)
              refine pure_ (i := 15) (N := some 39) (v := undef) (a' := ?_) #[true,true,true,true,true,true,true,true,true,true,true,true,true,true,true,true,false,false] rfl rfl (any_of HT_.out (by kernel_rfl)) (fun _ _ _ h => h) (Or.inr ⟨by rfl, rfl⟩) ?_ ?_
              rotate_left; (· simp only [Act.put, sqa, sqb, sqc, i64_w, i32_w]; rfl)
              refine pure_ (i := 16) (N := some 40) (v := undef) (a' := ?_) #[true,true,true,true,true,true,true,true,true,true,true,true,true,true,true,true,true,false] rfl rfl (any_of HT_.out (by kernel_rfl)) (fun _ _ _ h => h) (Or.inr ⟨by rfl, rfl⟩) ?_ ?_
              rotate_left; (· simp only [Act.put, sqa, sqb, sqc, i64_w, i32_w]; rfl)
              refine pure_ (i := 17) (N := some 41) (v := ?_) (a' := ?_) #[true,true,true,true,true,true,true,true,true,true,true,true,true,true,true,true,true,true] rfl rfl (any_of HT_.out (by kernel_rfl)) (fun _ _ _ h => h) (Or.inl ⟨by rfl, ?_⟩) ?_ ?_
              rotate_left; (· intro w'; go_simp; with_reducible rfl); rotate_left; (· simp only [Act.put, sqa, sqb, sqc, i64_w, i32_w]; rfl)
              refine done_ (done_of HT_.out (by kernel_rfl)) ?_
              have hnb69 := NB530_526.out
              have hnc69 := NB526_530.out
              have hcz70_0 : w67.cell? ⟨gb530, 0, none⟩ = some (.slice Ao68 x531000_1.length co68) := (blk_cell BK530.out 0).trans rfl
              have hcz70_1 : w67.cell? ⟨gb530, 1, none⟩ = some (u531001) := (blk_cell BK530.out 1).trans rfl
              have hcz70_2 : w67.cell? ⟨gb530, 2, none⟩ = some (u531002) := (blk_cell BK530.out 2).trans rfl
              have hfz70_0 := blk_frozen BK530.out 0
              have hfz70_1 := blk_frozen BK530.out 1
              have hfz70_2 := blk_frozen BK530.out 2
              have p66 : 0 ≤ (x4_1 : Int) := of_decide_eq_true (by first | (with_reducible assumption) | assumption)
              have q66 : (x4_1 : Int) < ((x531002_1.length : Int) : Int) := of_decide_eq_true (by first | (with_reducible assumption) | assumption)
              obtain ⟨go66, co66, eo66, gb66, gl66, cl66, HG66⟩ := Kd.R_form HO_531002.out (by omega)
              (first | cases eo66 | (injection eo66 with ea_ en_ ec_; (first | subst ea_ | (injection ea_ with ea_; subst ea_)); subst ec_; clear en_))
              have GB66 := Aside0.mk gb66; have GG66 := Aside0.mk HG66; clear gb66 gl66 HG66
              obtain ⟨hx66_0, hf66_0⟩ := Kd.R_celln 0 HO_531002.out (x4_1 : Int) p66 q66
              replace p66 := eq_true p66
              replace q66 := eq_true q66
              obtain ⟨hy71_, hz71_⟩ := Kd.R_celln 0 HO_531002.out (x4_1 : Int) (of_decide_eq_true (by first | (with_reducible assumption) | assumption)) (of_decide_eq_true (by first | (with_reducible assumption) | assumption))
              have HP71 := Kd.R_putg HO_531002.out (x4_1 : Int) x5_2
              try go_wp2_with (first | ((with_reducible refine gate_store (t := 3) (p := 100) rfl ?_); refine store_event (t := 3) (p := 100) (v := ?vo_w72) (w1 := (w67.setCell ⟨go66, (x4_1 : Int).toNat, none⟩ (.int .i64 x5_2))) ?hg ?ho ?hn ?hr ?_; (case ho => rfl); (case hg => rfl); (case hn => rfl); (case hr => first | (go_simp; done) | (go_simp; rfl)); intro w72 hw; have hg : w67.grownBy w72 (some go66) := (by rw [hw]; exact HP71.2); have hp_ : Kd.R (Kd.int .i64) 3 w72 w.heap.size (fun _ => True) (.slice (some ⟨go66, 0, none⟩) x531002_1.length co66) y546 := (by rw [hw, Ny546.out]; exact HP71.1); clear HP71; have n0_ := Aside0.mk (Kd.R_over' (v := (.slice (some ⟨go66, 0, none⟩) x531002_1.length co66)) (by (with_reducible repeat (first | apply Kd.R_alloc | apply Kd.R_drewN | apply Kd.R_drew)); exact HO_531000.out) (Kd.R_typed HO_531002.out) (by decide) hg); have n1_ := Aside0.mk (Kd.R_over' (v := (.slice (some ⟨go66, 0, none⟩) x531002_1.length co66)) (by (with_reducible repeat (first | apply Kd.R_alloc | apply Kd.R_drewN | apply Kd.R_drew)); exact HO_531001.out) (Kd.R_typed HO_531002.out) (by decide) hg); have n2_ := Aside0.mk (hp_); have n3_ := Aside0.mk (blk_grown (g := gb526) (o := .cells #[.slice none 0 0, .slice none 0 0, .slice none 0 0] 112 (0, 0)) (by (with_reducible repeat (first | refine blk_drewN ?_ _ | refine blk_drew ?_ | refine blk_alloc ?_ _)); exact BK526.out) hg (Kd.R_ne HO_531002.out BK526.out (by decide))); have n4_ := Aside0.mk (blk_grown (g := gb530) (o := .cells #[.slice Ao68 x531000_1.length co68, u531001, .slice (some ⟨go66, 0, none⟩) x531002_1.length co66] 112 (0, 0)) (by (with_reducible repeat (first | refine blk_drewN ?_ _ | refine blk_drew ?_ | refine blk_alloc ?_ _)); exact BK530.out) hg (Kd.R_ne HO_531002.out BK530.out (by decide))); have n5_ := Aside0.mk ((by rw [hw]; exact below_set (HB.out) GB66.out : Below w.heap.size w w72)); clear HO_531000; clear HO_531001; clear HO_531002; clear BK526; clear BK530; clear HB; have HO_531000 := n0_; have HO_531001 := n1_; have HO_531002 := n2_; have BK526 := n3_; have BK530 := n4_; have HB := n5_; clear n0_ n1_ n2_ n3_ n4_ n5_; clear hg hw hp_))
              go_roundg k2
              case measure => have := HK1.out; have := HK2.out; omega
              case rel => exact ⟨(wrap64 (x4_1 + 1)), (x531000_1), (x531001_1), (y546), (.slice Ao68 x531000_1.length co68), (u531001), (.slice (some ⟨go66, 0, none⟩) x531002_1.length co66), (by first | rfl | (simp; done) | (simp [*]; done)), H', ⟨by have := HK1.out; have := HK2.out; omega⟩, ⟨by (with_reducible repeat (first | apply Kd.R_alloc | apply Kd.R_drewN | apply Kd.R_drew)); exact HO_531000.out⟩, ⟨by (with_reducible repeat (first | apply Kd.R_alloc | apply Kd.R_drewN | apply Kd.R_drew)); exact HO_531001.out⟩, ⟨by (with_reducible repeat (first | apply Kd.R_alloc | apply Kd.R_drewN | apply Kd.R_drew)); exact HO_531002.out⟩, ⟨by (with_reducible repeat (first | refine blk_drewN ?_ _ | refine blk_drew ?_ | refine blk_alloc ?_ _)); exact BK526.out⟩, ⟨by (with_reducible repeat (first | refine blk_drewN ?_ _ | refine blk_drew ?_ | refine blk_alloc ?_ _)); exact BK530.out⟩, ⟨by repeat (first | (with_reducible first | exact HB.out | apply below_alloc | apply pw_below_drewN | apply below_drew1 | refine below_set ?_ GE526.out | refine below_set ?_ GE530.out) | exact HB.out)⟩⟩
             ·rw [if_neg c65] at H
              exact absurd H (by simp)
            ·rw [if_neg c64] at H
             exact absurd H (by simp)
       ·rw [if_neg c14] at H
        have c14b0 : (t532 == 2) = false := beq_eq_false_iff_ne.mpr c14
        have c14b1 : (t532 != 2) = true := bne_iff_ne.mpr c14
        by_cases c73 : t532 = 3
        ·rw [if_pos c73] at H
         have c73b0 : (t532 == 3) = true := beq_iff_eq.mpr c73
         have c73b1 : (t532 != 3) = false := bne_eq_false_iff_eq.mpr c73
         clear c73
         have H' := Aside0.mk H
         clear H
         have p531 : 0 ≤ (x4_1 : Int) := of_decide_eq_true (by first | (with_reducible assumption) | assumption)
         have q531 : x4_1 < (l0.length : Int) := of_decide_eq_true (by first | (with_reducible assumption) | assumption)
         obtain ⟨ad531, e531, hx531_0, hx531_1, hx531_2, hx531_3, hx531_4, hx531_5, hx531_6⟩ := at_T78 HR0.out x4_1 p531 q531
         cases e531
         replace hx531_0 := (HB.out.cell (sqd w _ hx531_0)).trans hx531_0
         replace hx531_1 := (HB.out.cell (sqd w _ hx531_1)).trans hx531_1
         replace hx531_2 := (HB.out.cell (sqd w _ hx531_2)).trans hx531_2
         replace hx531_3 := (HB.out.cell (sqd w _ hx531_3)).trans hx531_3
         replace hx531_4 := (HB.out.cell (sqd w _ hx531_4)).trans hx531_4
         replace hx531_5 := (HB.out.cell (sqd w _ hx531_5)).trans hx531_5
         replace hx531_6 := (HB.out.cell (sqd w _ hx531_6)).trans hx531_6
         replace p531 := eq_true p531
         replace q531 := eq_true q531
         go_wp2_with (first | ((with_reducible refine gate_callee (f := 80) rfl ?_); refine goesL_ (some 21) rfl rfl Try.func80 (by kernel_rfl) rfl #[.int .i64 ((rd_T78 l0 x4_1).f0)] rfl (by (try simp only [List.map_toArray, List.map_cons, List.map_nil]); first | done | rfl | (simp only [List.length_drop, List.length_take]; rfl)) ?_; (with_reducible refine (dowelref20_kind.calls k1 ((rd_T78 l0 x4_1).f0) t532 _ A13.out).mono ?_); rintro e w' ⟨rfl, ⟨nd, rfl⟩⟩; refine ⟨_, rfl, ?_⟩))
         go_loopg [5] k1 (fun kq v5 w' => ∃ (x5_2 : Int), v5 = .int .i64 x5_2 ∧ Aside0 (dowelref20_tables.l2 kq l0 x4_1 x5_2 x531000_1 x531001_1 x531002_1 = some (r1, r2, r3)) ∧ Aside0 (kq ≤ k1) ∧ Aside0 (Kd.R k76 76 w' w.heap.size (fun _ => True) u531000 x531000_1) ∧ Aside0 (Kd.R Kd.string 9 w' w.heap.size (fun _ => True) u531001 x531001_1) ∧ Aside0 (Kd.R (Kd.int .i64) 3 w' w.heap.size (fun _ => True) u531002 x531002_1) ∧ Aside0 (w'.heap[gb526]? = some (.cells #[(.slice none 0 0), (.slice none 0 0), (.slice none 0 0)] 112 (0, 0))) ∧ Aside0 (w'.heap[gb530]? = some (.cells #[u531000, u531001, u531002] 112 (0, 0))) ∧ Aside0 (Below w.heap.size w w'))
         case atStart => exact ⟨(0), (by first | rfl | (simp; done) | (simp [*]; done)), H', ⟨Nat.le_refl _⟩, ⟨by (with_reducible repeat (first | apply Kd.R_alloc | apply Kd.R_drewN | apply Kd.R_drew)); exact HO_531000.out⟩, ⟨by (with_reducible repeat (first | apply Kd.R_alloc | apply Kd.R_drewN | apply Kd.R_drew)); exact HO_531001.out⟩, ⟨by (with_reducible repeat (first | apply Kd.R_alloc | apply Kd.R_drewN | apply Kd.R_drew)); exact HO_531002.out⟩, ⟨by (with_reducible repeat (first | refine blk_drewN ?_ _ | refine blk_drew ?_ | refine blk_alloc ?_ _)); exact BK526.out⟩, ⟨by (with_reducible repeat (first | refine blk_drewN ?_ _ | refine blk_drew ?_ | refine blk_alloc ?_ _)); exact BK530.out⟩, ⟨by repeat (first | (with_reducible first | exact HB.out | apply below_alloc | apply pw_below_drewN | apply below_drew1 | refine below_set ?_ GE526.out | refine below_set ?_ GE530.out) | exact HB.out)⟩⟩
         case round =>
          clear H'; (try clear c1); (try clear p2); (try clear c3); (try clear c4); (try clear c5); (try clear p5); (try clear q5); (try clear hx5); (try clear hf5); (try clear c6); (try clear p6); (try clear q6); (try clear hx6); (try clear hf6); (try clear c7); (try clear c8); (try clear c14); (try clear c14b0); (try clear c14b1); (try clear c15); (try clear c15b0); (try clear c16); (try clear c17); (try clear c18); (try clear c38); (try clear c46); (try clear c46b0); (try clear c46b1); (try clear c47); (try clear c47b0); (try clear c48); (try clear c48b0); (try clear c49); (try clear c50); (try clear c50b0); (try clear p51); (try clear q51); (try clear hx51); (try clear hf51); (try clear p53); (try clear q53); (try clear hx53); (try clear c54); (try clear p54); (try clear q54); (try clear hx54); (try clear c64); (try clear c64b0); (try clear p64); (try clear c65); (try clear c65b0); (try clear p66); (try clear q66); (try clear hx66); (try clear hf66); (try clear c69); (try clear c73); (try clear c73b0); (try clear c73b1); (try clear hcz55_0); (try clear hcz55_1); (try clear hcz55_2); (try clear hcz61_0); (try clear hcz61_1); (try clear hcz61_2); (try clear hcz70_0); (try clear hcz70_1); (try clear hcz70_2); (try clear hfz55_0); (try clear hfz55_1); (try clear hfz55_2); (try clear hfz61_0); (try clear hfz61_1); (try clear hfz61_2); (try clear hfz70_0); (try clear hfz70_1); (try clear hfz70_2); (try clear hx51_0); (try clear hx531_0); (try clear hx531_1); (try clear hx531_2); (try clear hx531_3); (try clear hx531_4); (try clear hx531_5); (try clear hx531_6); (try clear hx541_0); (try clear hx541_1); (try clear hx541_2); (try clear hx541_3); (try clear hx541_4); (try clear hx541_5); (try clear hx541_6); (try clear hx66_0); (try clear p51); (try clear p531); (try clear p541); (try clear p66); (try clear q51); (try clear q531); (try clear q541); (try clear q66)
          obtain ⟨x5_2, rfl, HA, HK2, HO_531000, HO_531001, HO_531002, BK526, BK530, HB⟩ := hrel
          cases gk with
          | zero => exact absurd HA.out (by simp [dowelref20_tables.l2])
          | succ k2 =>
           have H := HA.out
           clear HA
           simp only [dowelref20_tables.l2] at H
           by_cases c74 : x5_2 < (x531001_1.length : Int)
           ·rw [if_pos c74] at H
            have c74b0 : decide (x5_2 < (x531001_1.length : Int)) = true := decide_eq_true c74
            clear c74
            by_cases c75 : 0 ≤ x5_2
            ·rw [if_pos c75] at H
             have c75b0 : decide (0 ≤ x5_2) = true := decide_eq_true c75
             clear c75
             by_cases c76 : 0 ≤ x4_1
             ·rw [if_pos c76] at H
              have c76b0 : decide (0 ≤ x4_1) = true := decide_eq_true c76
              clear c76
              by_cases c77 : x4_1 < (l0.length : Int)
              ·rw [if_pos c77] at H
               have c77b0 : decide (x4_1 < (l0.length : Int)) = true := decide_eq_true c77
               clear c77
               by_cases c78 : (rdOf ByteArray.empty x531001_1 x5_2).toList = ((rd_T78 l0 x4_1).f3).toList
               ·rw [if_pos c78] at H
                have c78b0 : ((rdOf ByteArray.empty x531001_1 x5_2).toList == ((rd_T78 l0 x4_1).f3).toList) = true := beq_iff_eq.mpr c78
                have c78b1 : ((rdOf ByteArray.empty x531001_1 x5_2).toList != ((rd_T78 l0 x4_1).f3).toList) = false := bne_eq_false_iff_eq.mpr c78
                clear c78
                by_cases c79 : x5_2 = (x531001_1.length : Int)
                ·rw [if_pos c79] at H
                 have c79b0 : (x5_2 == (x531001_1.length : Int)) = true := beq_iff_eq.mpr c79
                 have c79b1 : (x5_2 != (x531001_1.length : Int)) = false := bne_eq_false_iff_eq.mpr c79
                 clear c79
                 by_cases c80 : x531001_1.length < 8796093022208
                 ·rw [if_pos c80] at H
                  have LMc80 := Aside0.mk c80; clear c80
                  obtain ⟨y550, hy550⟩ : ∃ y_ : List ByteArray, y_ = (x531001_1 ++ [(rd_T78 l0 x4_1).f3]) := ⟨_, rfl⟩
                  replace H : (if x4_1 < (x531002_1.length : Int) then (dowelref20_tables.l0 k2 l0 (wrap64 (x4_1 + 1)) x531000_1 y550 (x531002_1.set (x4_1 : Int).toNat x5_2)) else (none)) = some (r1, r2, r3) := by first | (rw [hy550]; with_reducible exact H) | (have H2_ := (Option.bind_some _ _).symm.trans H; rw [hy550]; with_reducible exact H2_) | (have H2_ := (Option.bind_some _ _).symm.trans H; with_reducible exact H2_) | with_reducible exact H | (rw [hy550]; exact H) | exact H
                  have Ny550 := Aside0.mk hy550; clear hy550
                  by_cases c81 : x4_1 < (x531002_1.length : Int)
                  ·rw [if_pos c81] at H
                   have c81b0 : decide (x4_1 < (x531002_1.length : Int)) = true := decide_eq_true c81
                   clear c81
                   obtain ⟨y553, hy553⟩ : ∃ y_ : List Int, y_ = (x531002_1.set (x4_1 : Int).toNat x5_2) := ⟨_, rfl⟩
                   replace H : (dowelref20_tables.l0 k2 l0 (wrap64 (x4_1 + 1)) x531000_1 y550 y553) = some (r1, r2, r3) := by first | (rw [hy553]; with_reducible exact H) | (have H2_ := (Option.bind_some _ _).symm.trans H; rw [hy553]; with_reducible exact H2_) | (have H2_ := (Option.bind_some _ _).symm.trans H; with_reducible exact H2_) | with_reducible exact H | (rw [hy553]; exact H) | exact H
                   have Ny553 := Aside0.mk hy553; clear hy553
                   have H' := Aside0.mk H
                   clear H
                   try go_wp2
                   have n0_ := Aside0.mk (Kd.R_drew HO_531000.out)
                   have n1_ := Aside0.mk (Kd.R_drew HO_531001.out)
                   have n2_ := Aside0.mk (Kd.R_drew HO_531002.out)
                   have n3_ := Aside0.mk (blk_drew BK526.out)
                   have n4_ := Aside0.mk (blk_drew BK530.out)
                   have n5_ := Aside0.mk (below_drew1 HB.out)
                   clear HO_531000; clear HO_531001; clear HO_531002; clear BK526; clear BK530; clear HB
                   have HO_531000 := n0_
                   have HO_531001 := n1_
                   have HO_531002 := n2_
                   have BK526 := n3_
                   have BK530 := n4_
                   have HB := n5_
                   clear n0_ n1_ n2_ n3_ n4_ n5_
                   obtain ⟨Ao84, co84, eo84⟩ := Kd.R_slice HO_531001.out
                   (first | subst eo84 | (injection eo84 with f1_ f2_ f3_; have f4_ := f1_.symm; have f5_ := f3_.symm; clear f1_ f2_ f3_; subst f4_; subst f5_))
                   have p547 : 0 ≤ (x5_2 : Int) := of_decide_eq_true (by first | (with_reducible assumption) | assumption)
                   have q547 : x5_2 < (x531001_1.length : Int) := of_decide_eq_true (by first | (with_reducible assumption) | assumption)
                   obtain ⟨ad547, e547, hx547_0⟩ := Kd.at_string (Kd.R_reads' HO_531001.out).2.2 x5_2 p547 q547
                   cases e547
                   replace p547 := eq_true p547
                   replace q547 := eq_true q547
                   have p548 : 0 ≤ (x4_1 : Int) := of_decide_eq_true (by first | (with_reducible assumption) | assumption)
                   have q548 : x4_1 < (l0.length : Int) := of_decide_eq_true (by first | (with_reducible assumption) | assumption)
                   obtain ⟨ad548, e548, hx548_0, hx548_1, hx548_2, hx548_3, hx548_4, hx548_5, hx548_6⟩ := at_T78 HR0.out x4_1 p548 q548
                   have hw548_6 := hx548_6
                   have hw548_5 := hx548_5
                   have hw548_4 := hx548_4
                   have hw548_3 := hx548_3
                   have hw548_2 := hx548_2
                   have hw548_1 := hx548_1
                   have hw548_0 := hx548_0
                   obtain rfl : ad531 = ad548 := (by injection e548)
                   replace hx548_0 := (HB.out.cell (sqd w _ hx548_0)).trans hx548_0
                   replace hx548_1 := (HB.out.cell (sqd w _ hx548_1)).trans hx548_1
                   replace hx548_2 := (HB.out.cell (sqd w _ hx548_2)).trans hx548_2
                   replace hx548_3 := (HB.out.cell (sqd w _ hx548_3)).trans hx548_3
                   replace hx548_4 := (HB.out.cell (sqd w _ hx548_4)).trans hx548_4
                   replace hx548_5 := (HB.out.cell (sqd w _ hx548_5)).trans hx548_5
                   replace hx548_6 := (HB.out.cell (sqd w _ hx548_6)).trans hx548_6
                   replace p548 := eq_true p548
                   replace q548 := eq_true q548
                   refine start_ (n := 18) (S := fun w' => w'.cell? ⟨gb530, 0, none⟩ = some (u531000) ∧ w'.cell? ⟨gb530, 1, none⟩ = some (.slice (some ad547) x531001_1.length co84) ∧ w'.cell? ⟨gb530, 2, none⟩ = some (u531002) ∧ w'.cell? (ad547.add (x5_2).toNat) = some (.string (rdOf ByteArray.empty x531001_1 x5_2)) ∧ w'.cell? (ad531.add ((x4_1).toNat * 7)) = some (.int .i64 ((rd_T78 l0 x4_1).f0)) ∧ w'.cell? ⟨(ad531.add ((x4_1).toNat * 7)).block, (ad531.add ((x4_1).toNat * 7)).off + 1, none⟩ = some (.int .i64 ((rd_T78 l0 x4_1).f1)) ∧ w'.cell? ⟨(ad531.add ((x4_1).toNat * 7)).block, (ad531.add ((x4_1).toNat * 7)).off + 2, none⟩ = some (.int .u64 ((rd_T78 l0 x4_1).f2.f0)) ∧ w'.cell? ⟨(ad531.add ((x4_1).toNat * 7)).block, (ad531.add ((x4_1).toNat * 7)).off + 3, none⟩ = some (.int .u64 ((rd_T78 l0 x4_1).f2.f1)) ∧ w'.cell? ⟨(ad531.add ((x4_1).toNat * 7)).block, (ad531.add ((x4_1).toNat * 7)).off + 4, none⟩ = some (.int .u64 ((rd_T78 l0 x4_1).f2.f2)) ∧ w'.cell? ⟨(ad531.add ((x4_1).toNat * 7)).block, (ad531.add ((x4_1).toNat * 7)).off + 5, none⟩ = some (.int .u64 ((rd_T78 l0 x4_1).f2.f3)) ∧ w'.cell? ⟨(ad531.add ((x4_1).toNat * 7)).block, (ad531.add ((x4_1).toNat * 7)).off + 6, none⟩ = some (.string ((rd_T78 l0 x4_1).f3))) (ds := []) #[false,false,false,false,false,false,false,false,false,false,false,false,false,false,false,false,false,false] (by kernel_rfl) rfl rfl ⟨(blk_cell BK530.out 0).trans rfl, (blk_cell BK530.out 1).trans rfl, (blk_cell BK530.out 2).trans rfl, hx547_0, ((HB.out.cell (sqd w _ hw548_0)).trans hw548_0), ((HB.out.cell (sqd w _ hw548_1)).trans hw548_1), ((HB.out.cell (sqd w _ hw548_2)).trans hw548_2), ((HB.out.cell (sqd w _ hw548_3)).trans hw548_3), ((HB.out.cell (sqd w _ hw548_4)).trans hw548_4), ((HB.out.cell (sqd w _ hw548_5)).trans hw548_5), ((HB.out.cell (sqd w _ hw548_6)).trans hw548_6)⟩ (fun hHeld => ?_); refine with_tabW dowelref20_tables.tab13 dowelref20_tables.bits13 (fun HT_ HW_ => ?_)
                   generalize wr.drew = w83 at HO_531000 HO_531001 HO_531002 BK526 BK530 HB hx547_0 hx548_0 hx548_1 hx548_2 hx548_3 hx548_4 hx548_5 hx548_6 hHeld ⊢
                   refine pure_ (i := 0) (N := some 61) (v := ?_) (a' := ?_) #[true,false,false,false,false,false,false,false,false,false,false,false,false,false,false,false,false,false] rfl rfl (any_of HT_.out (by kernel_rfl)) (fun _ _ _ h => h) (Or.inl ⟨by rfl, ?_⟩) ?_ ?_
                   rotate_left; (· intro w'; go_simp; with_reducible rfl); rotate_left; (· simp only [Act.put, sqa, sqb, sqc, i64_w, i32_w]; rfl)
                   refine pure_ (i := 1) (N := some 62) (v := ?_) (a' := ?_) #[true,true,false,false,false,false,false,false,false,false,false,false,false,false,false,false,false,false] rfl rfl (any_of HT_.out (by kernel_rfl)) (fun _ _ _ h => h) (Or.inl ⟨by rfl, ?_⟩) ?_ ?_
                   rotate_left; (· intro w'; go_simp; with_reducible rfl); rotate_left; (· simp only [Act.put, sqa, sqb, sqc, i64_w, i32_w]; rfl)
                   refine take_ (i := 2) (N := some 63) (v := ?_) (a' := ?_) #[true,true,true,false,false,false,false,false,false,false,false,false,false,false,false,false,false,false] rfl rfl (take_ofW HT_.out HW_.out (by kernel_rfl)) (fun _ _ _ h => h) (Or.inl ⟨by rfl, ?_⟩) hHeld ?_ ?_
                   rotate_left; (· rintro w' ⟨s0, s1, s2, s3, s4, s5, s6, s7, s8, s9, s10⟩; go_simp; with_reducible rfl); rotate_left; (· simp only [Act.put, sqa, sqb, sqc, i64_w, i32_w]; rfl)
                   refine pure_ (i := 3) (N := some 64) (v := ?_) (a' := ?_) #[true,true,true,true,false,false,false,false,false,false,false,false,false,false,false,false,false,false] rfl rfl (any_of HT_.out (by kernel_rfl)) (fun _ _ _ h => h) (Or.inl ⟨by rfl, ?_⟩) ?_ ?_
                   rotate_left; (· intro w'; go_simp; with_reducible rfl); rotate_left; (· simp only [Act.put, sqa, sqb, sqc, i64_w, i32_w]; rfl)
                   refine pure_ (i := 4) (N := some 65) (v := ?_) (a' := ?_) #[true,true,true,true,true,false,false,false,false,false,false,false,false,false,false,false,false,false] rfl rfl (any_of HT_.out (by kernel_rfl)) (fun _ _ _ h => h) (Or.inl ⟨by rfl, ?_⟩) ?_ ?_
                   rotate_left; (· intro w'; go_simp; with_reducible rfl); rotate_left; (· simp only [Act.put, sqa, sqb, sqc, i64_w, i32_w]; rfl)
                   refine pure_ (i := 5) (N := some 66) (v := ?_) (a' := ?_) #[true,true,true,true,true,true,false,false,false,false,false,false,false,false,false,false,false,false] rfl rfl (any_of HT_.out (by kernel_rfl)) (fun _ _ _ h => h) (Or.inl ⟨by rfl, ?_⟩) ?_ ?_
                   rotate_left; (· intro w'; go_simp; with_reducible rfl); rotate_left; (· simp only [Act.put, sqa, sqb, sqc, i64_w, i32_w]; rfl)
                   refine pure_ (i := 6) (N := some 67) (v := ?_) (a' := ?_) #[true,true,true,true,true,true,true,false,false,false,false,false,false,false,false,false,false,false] rfl rfl (any_of HT_.out (by kernel_rfl)) (fun _ _ _ h => h) (Or.inl ⟨by rfl, ?_⟩) ?_ ?_
                   rotate_left; (· intro w'; go_simp; with_reducible rfl); rotate_left; (· simp only [Act.put, sqa, sqb, sqc, i64_w, i32_w]; rfl)
                   refine pure_ (i := 8) (N := some 69) (v := ?_) (a' := ?_) #[true,true,true,true,true,true,true,false,true,false,false,false,false,false,false,false,false,false] rfl rfl (any_of HT_.out (by kernel_rfl)) (fun _ _ _ h => h) (Or.inl ⟨by rfl, ?_⟩) ?_ ?_
                   rotate_left; (· intro w'; go_simp; with_reducible rfl); rotate_left; (· simp only [Act.put, sqa, sqb, sqc, i64_w, i32_w]; rfl)
                   refine pure_ (i := 11) (N := some 72) (v := ?_) (a' := ?_) #[true,true,true,true,true,true,true,false,true,false,false,true,false,false,false,false,false,false] rfl rfl (any_of HT_.out (by kernel_rfl)) (fun _ _ _ h => h) (Or.inl ⟨by rfl, ?_⟩) ?_ ?_
                   rotate_left; (· intro w'; go_simp; with_reducible rfl); rotate_left; (· simp only [Act.put, sqa, sqb, sqc, i64_w, i32_w]; rfl)
                   refine pure_ (i := 12) (N := some 73) (v := ?_) (a' := ?_) #[true,true,true,true,true,true,true,false,true,false,false,true,true,false,false,false,false,false] rfl rfl (any_of HT_.out (by kernel_rfl)) (fun _ _ _ h => h) (Or.inl ⟨by rfl, ?_⟩) ?_ ?_
                   rotate_left; (· intro w'; go_simp; with_reducible rfl); rotate_left; (· simp only [Act.put, sqa, sqb, sqc, i64_w, i32_w]; rfl)
                   refine pure_ (i := 13) (N := some 74) (v := ?_) (a' := ?_) #[true,true,true,true,true,true,true,false,true,false,false,true,true,true,false,false,false,false] rfl rfl (any_of HT_.out (by kernel_rfl)) (fun _ _ _ h => h) (Or.inl ⟨by rfl, ?_⟩) ?_ ?_
                   rotate_left; (· intro w'; go_simp; with_reducible rfl); rotate_left; (· simp only [Act.put, sqa, sqb, sqc, i64_w, i32_w]; rfl)
                   refine pure_ (i := 14) (N := some 75) (v := ?_) (a' := ?_) #[true,true,true,true,true,true,true,false,true,false,false,true,true,true,true,false,false,false] rfl rfl (any_of HT_.out (by kernel_rfl)) (fun _ _ _ h => h) (Or.inl ⟨by rfl, ?_⟩) ?_ ?_
                   rotate_left; (· intro w'; go_simp; with_reducible rfl); rotate_left; (· simp only [Act.put, sqa, sqb, sqc, i64_w, i32_w]; rfl)
                   refine take_ (i := 7) (N := some 68) (v := ?_) (a' := ?_) #[true,true,true,true,true,true,true,true,true,false,false,true,true,true,true,false,false,false] rfl rfl (take_ofW HT_.out HW_.out (by kernel_rfl)) (fun _ _ _ h => h) (Or.inl ⟨by rfl, ?_⟩) hHeld ?_ ?_
                   rotate_left; (· rintro w' ⟨s0, s1, s2, s3, s4, s5, s6, s7, s8, s9, s10⟩; go_simp; with_reducible rfl); rotate_left; (· simp only [Act.put, sqa, sqb, sqc, i64_w, i32_w]; rfl)
                   refine pure_ (i := 9) (N := some 70) (v := ?_) (a' := ?_) #[true,true,true,true,true,true,true,true,true,true,false,true,true,true,true,false,false,false] rfl rfl (any_of HT_.out (by kernel_rfl)) (fun _ _ _ h => h) (Or.inl ⟨by rfl, ?_⟩) ?_ ?_
                   rotate_left; (· intro w'; go_simp; with_reducible rfl); rotate_left; (· simp only [Act.put, sqa, sqb, sqc, i64_w, i32_w]; rfl)
                   refine take_ (i := 10) (N := some 71) (v := ?_) (a' := ?_) #[true,true,true,true,true,true,true,true,true,true,true,true,true,true,true,false,false,false] rfl rfl (take_ofW HT_.out HW_.out (by kernel_rfl)) (fun _ _ _ h => h) (Or.inl ⟨by rfl, ?_⟩) hHeld ?_ ?_
                   rotate_left; (· rintro w' ⟨s0, s1, s2, s3, s4, s5, s6, s7, s8, s9, s10⟩; go_simp; with_reducible rfl); rotate_left; (· simp only [Act.put, sqa, sqb, sqc, i64_w, i32_w]; rfl)
                   refine take_ (i := 15) (N := some 76) (v := ?_) (a' := ?_) #[true,true,true,true,true,true,true,true,true,true,true,true,true,true,true,true,false,false] rfl rfl (take_ofW HT_.out HW_.out (by kernel_rfl)) (fun _ _ _ h => h) (Or.inl ⟨by rfl, ?_⟩) hHeld ?_ ?_
                   rotate_left; (· rintro w' ⟨s0, s1, s2, s3, s4, s5, s6, s7, s8, s9, s10⟩; go_simp; with_reducible rfl); rotate_left; (· simp only [Act.put, sqa, sqb, sqc, i64_w, i32_w]; rfl)
                   refine pure_ (i := 16) (N := some 77) (v := ?_) (a' := ?_) #[true,true,true,true,true,true,true,true,true,true,true,true,true,true,true,true,true,false] rfl rfl (any_of HT_.out (by kernel_rfl)) (fun _ _ _ h => h) (Or.inl ⟨by rfl, ?_⟩) ?_ ?_
                   rotate_left; (· intro w'; go_simp; with_reducible rfl); rotate_left; (· simp only [Act.put, sqa, sqb, sqc, i64_w, i32_w]; rfl)
                   refine pure_ (i := 17) (N := some 78) (v := ?_) (a' := ?_) #[true,true,true,true,true,true,true,true,true,true,true,true,true,true,true,true,true,true] rfl rfl (any_of HT_.out (by kernel_rfl)) (fun _ _ _ h => h) (Or.inl ⟨by rfl, ?_⟩) ?_ ?_
                   rotate_left; (· intro w'; go_simp; with_reducible rfl); rotate_left; (· simp only [Act.put, sqa, sqb, sqc, i64_w, i32_w]; rfl)
                   refine done_ (done_of HT_.out (by kernel_rfl)) ?_
                   have hnb85 := NB530_526.out
                   have hnc85 := NB526_530.out
                   have hcz86_0 : w83.cell? ⟨gb530, 0, none⟩ = some (u531000) := (blk_cell BK530.out 0).trans rfl
                   have hcz86_1 : w83.cell? ⟨gb530, 1, none⟩ = some (.slice (some ad547) x531001_1.length co84) := (blk_cell BK530.out 1).trans rfl
                   have hcz86_2 : w83.cell? ⟨gb530, 2, none⟩ = some (u531002) := (blk_cell BK530.out 2).trans rfl
                   have hfz86_0 := blk_frozen BK530.out 0
                   have hfz86_1 := blk_frozen BK530.out 1
                   have hfz86_2 := blk_frozen BK530.out 2
                   try go_wp2
                   have n0_ := Aside0.mk (Kd.R_drew HO_531000.out)
                   have n1_ := Aside0.mk (Kd.R_drew HO_531001.out)
                   have n2_ := Aside0.mk (Kd.R_drew HO_531002.out)
                   have n3_ := Aside0.mk (blk_drew BK526.out)
                   have n4_ := Aside0.mk (blk_drew BK530.out)
                   have n5_ := Aside0.mk (below_drew1 HB.out)
                   clear HO_531000; clear HO_531001; clear HO_531002; clear BK526; clear BK530; clear HB
                   have HO_531000 := n0_
                   have HO_531001 := n1_
                   have HO_531002 := n2_
                   have BK526 := n3_
                   have BK530 := n4_
                   have HB := n5_
                   clear n0_ n1_ n2_ n3_ n4_ n5_
                   have p549 : 0 ≤ (x4_1 : Int) := of_decide_eq_true (by first | (with_reducible assumption) | assumption)
                   have q549 : x4_1 < (l0.length : Int) := of_decide_eq_true (by first | (with_reducible assumption) | assumption)
                   obtain ⟨ad549, e549, hx549_0, hx549_1, hx549_2, hx549_3, hx549_4, hx549_5, hx549_6⟩ := at_T78 HR0.out x4_1 p549 q549
                   have hw549_6 := hx549_6
                   have hw549_5 := hx549_5
                   have hw549_4 := hx549_4
                   have hw549_3 := hx549_3
                   have hw549_2 := hx549_2
                   have hw549_1 := hx549_1
                   have hw549_0 := hx549_0
                   obtain rfl : ad531 = ad549 := (by injection e549)
                   replace hx549_0 := (HB.out.cell (sqd w _ hx549_0)).trans hx549_0
                   replace hx549_1 := (HB.out.cell (sqd w _ hx549_1)).trans hx549_1
                   replace hx549_2 := (HB.out.cell (sqd w _ hx549_2)).trans hx549_2
                   replace hx549_3 := (HB.out.cell (sqd w _ hx549_3)).trans hx549_3
                   replace hx549_4 := (HB.out.cell (sqd w _ hx549_4)).trans hx549_4
                   replace hx549_5 := (HB.out.cell (sqd w _ hx549_5)).trans hx549_5
                   replace hx549_6 := (HB.out.cell (sqd w _ hx549_6)).trans hx549_6
                   replace p549 := eq_true p549
                   replace q549 := eq_true q549
                   refine start_ (n := 11) (S := fun w' => w'.cell? ⟨gb530, 0, none⟩ = some (u531000) ∧ w'.cell? ⟨gb530, 1, none⟩ = some (.slice (some ad547) x531001_1.length co84) ∧ w'.cell? ⟨gb530, 2, none⟩ = some (u531002) ∧ w'.cell? (ad531.add ((x4_1).toNat * 7)) = some (.int .i64 ((rd_T78 l0 x4_1).f0)) ∧ w'.cell? ⟨(ad531.add ((x4_1).toNat * 7)).block, (ad531.add ((x4_1).toNat * 7)).off + 1, none⟩ = some (.int .i64 ((rd_T78 l0 x4_1).f1)) ∧ w'.cell? ⟨(ad531.add ((x4_1).toNat * 7)).block, (ad531.add ((x4_1).toNat * 7)).off + 2, none⟩ = some (.int .u64 ((rd_T78 l0 x4_1).f2.f0)) ∧ w'.cell? ⟨(ad531.add ((x4_1).toNat * 7)).block, (ad531.add ((x4_1).toNat * 7)).off + 3, none⟩ = some (.int .u64 ((rd_T78 l0 x4_1).f2.f1)) ∧ w'.cell? ⟨(ad531.add ((x4_1).toNat * 7)).block, (ad531.add ((x4_1).toNat * 7)).off + 4, none⟩ = some (.int .u64 ((rd_T78 l0 x4_1).f2.f2)) ∧ w'.cell? ⟨(ad531.add ((x4_1).toNat * 7)).block, (ad531.add ((x4_1).toNat * 7)).off + 5, none⟩ = some (.int .u64 ((rd_T78 l0 x4_1).f2.f3)) ∧ w'.cell? ⟨(ad531.add ((x4_1).toNat * 7)).block, (ad531.add ((x4_1).toNat * 7)).off + 6, none⟩ = some (.string ((rd_T78 l0 x4_1).f3))) (ds := [10]) #[false,false,false,false,false,false,false,false,false,false,false] (by kernel_rfl) rfl rfl ⟨(blk_cell BK530.out 0).trans rfl, (blk_cell BK530.out 1).trans rfl, (blk_cell BK530.out 2).trans rfl, ((HB.out.cell (sqd w _ hw549_0)).trans hw549_0), ((HB.out.cell (sqd w _ hw549_1)).trans hw549_1), ((HB.out.cell (sqd w _ hw549_2)).trans hw549_2), ((HB.out.cell (sqd w _ hw549_3)).trans hw549_3), ((HB.out.cell (sqd w _ hw549_4)).trans hw549_4), ((HB.out.cell (sqd w _ hw549_5)).trans hw549_5), ((HB.out.cell (sqd w _ hw549_6)).trans hw549_6)⟩ (fun hHeld => ?_); refine with_tabW dowelref20_tables.tab16 dowelref20_tables.bits16 (fun HT_ HW_ => ?_)
                   generalize w83.drew = w87 at HO_531000 HO_531001 HO_531002 BK526 BK530 HB hx549_0 hx549_1 hx549_2 hx549_3 hx549_4 hx549_5 hx549_6 hHeld ⊢
                   refine pure_ (i := 0) (N := some 86) (v := ?_) (a' := ?_) #[true,false,false,false,false,false,false,false,false,false,false] rfl rfl (any_of HT_.out (by kernel_rfl)) (fun _ _ _ h => h) (Or.inl ⟨by rfl, ?_⟩) ?_ ?_
                   rotate_left; (· intro w'; go_simp; with_reducible rfl); rotate_left; (· simp only [Act.put, sqa, sqb, sqc, i64_w, i32_w]; rfl)
                   refine pure_ (i := 2) (N := some 88) (v := ?_) (a' := ?_) #[true,false,true,false,false,false,false,false,false,false,false] rfl rfl (any_of HT_.out (by kernel_rfl)) (fun _ _ _ h => h) (Or.inl ⟨by rfl, ?_⟩) ?_ ?_
                   rotate_left; (· intro w'; go_simp; with_reducible rfl); rotate_left; (· simp only [Act.put, sqa, sqb, sqc, i64_w, i32_w]; rfl)
                   refine pure_ (i := 3) (N := some 89) (v := ?_) (a' := ?_) #[true,false,true,true,false,false,false,false,false,false,false] rfl rfl (any_of HT_.out (by kernel_rfl)) (fun _ _ _ h => h) (Or.inl ⟨by rfl, ?_⟩) ?_ ?_
                   rotate_left; (· intro w'; go_simp; with_reducible rfl); rotate_left; (· simp only [Act.put, sqa, sqb, sqc, i64_w, i32_w]; rfl)
                   refine pure_ (i := 4) (N := some 90) (v := ?_) (a' := ?_) #[true,false,true,true,true,false,false,false,false,false,false] rfl rfl (any_of HT_.out (by kernel_rfl)) (fun _ _ _ h => h) (Or.inl ⟨by rfl, ?_⟩) ?_ ?_
                   rotate_left; (· intro w'; go_simp; with_reducible rfl); rotate_left; (· simp only [Act.put, sqa, sqb, sqc, i64_w, i32_w]; rfl)
                   refine pure_ (i := 5) (N := some 91) (v := ?_) (a' := ?_) #[true,false,true,true,true,true,false,false,false,false,false] rfl rfl (any_of HT_.out (by kernel_rfl)) (fun _ _ _ h => h) (Or.inl ⟨by rfl, ?_⟩) ?_ ?_
                   rotate_left; (· intro w'; go_simp; with_reducible rfl); rotate_left; (· simp only [Act.put, sqa, sqb, sqc, i64_w, i32_w]; rfl)
                   refine take_ (i := 1) (N := some 87) (v := ?_) (a' := ?_) #[true,true,true,true,true,true,false,false,false,false,false] rfl rfl (take_ofW HT_.out HW_.out (by kernel_rfl)) (fun _ _ _ h => h) (Or.inl ⟨by rfl, ?_⟩) hHeld ?_ ?_
                   rotate_left; (· rintro w' ⟨s0, s1, s2, s3, s4, s5, s6, s7, s8, s9⟩; go_simp; with_reducible rfl); rotate_left; (· simp only [Act.put, sqa, sqb, sqc, i64_w, i32_w]; rfl)
                   refine take_ (i := 6) (N := some 92) (v := ?_) (a' := ?_) #[true,true,true,true,true,true,true,false,false,false,false] rfl rfl (take_ofW HT_.out HW_.out (by kernel_rfl)) (fun _ _ _ h => h) (Or.inl ⟨by rfl, ?_⟩) hHeld ?_ ?_
                   rotate_left; (· rintro w' ⟨s0, s1, s2, s3, s4, s5, s6, s7, s8, s9⟩; go_simp; with_reducible rfl); rotate_left; (· simp only [Act.put, sqa, sqb, sqc, i64_w, i32_w]; rfl)
                   refine one_ (i := 7) (N := some 93) #[true,true,true,true,true,true,true,true,false,false,false] rfl rfl (one_of HT_.out (by kernel_rfl)) (by decide) (fun K hK => ?_)
                   refine value_ (w1 := ?_) (v := ?_) (by rfl) rfl ?_ ?_
                   rotate_left 2
                   ·go_simp
                    constructor
                    ·rfl
                    ·rfl
                   refine hK.out _ _ ⟨(blk_cell (blk_alloc BK530.out _) 0).trans rfl, (blk_cell (blk_alloc BK530.out _) 1).trans rfl, (blk_cell (blk_alloc BK530.out _) 2).trans rfl, (World.cell?_alloc_lt _ _ _ (sqd _ _ (((HB.out.cell (sqd w _ hw549_0)).trans hw549_0)))).trans (((HB.out.cell (sqd w _ hw549_0)).trans hw549_0)), (World.cell?_alloc_lt _ _ _ (sqd _ _ (((HB.out.cell (sqd w _ hw549_1)).trans hw549_1)))).trans (((HB.out.cell (sqd w _ hw549_1)).trans hw549_1)), (World.cell?_alloc_lt _ _ _ (sqd _ _ (((HB.out.cell (sqd w _ hw549_2)).trans hw549_2)))).trans (((HB.out.cell (sqd w _ hw549_2)).trans hw549_2)), (World.cell?_alloc_lt _ _ _ (sqd _ _ (((HB.out.cell (sqd w _ hw549_3)).trans hw549_3)))).trans (((HB.out.cell (sqd w _ hw549_3)).trans hw549_3)), (World.cell?_alloc_lt _ _ _ (sqd _ _ (((HB.out.cell (sqd w _ hw549_4)).trans hw549_4)))).trans (((HB.out.cell (sqd w _ hw549_4)).trans hw549_4)), (World.cell?_alloc_lt _ _ _ (sqd _ _ (((HB.out.cell (sqd w _ hw549_5)).trans hw549_5)))).trans (((HB.out.cell (sqd w _ hw549_5)).trans hw549_5)), (World.cell?_alloc_lt _ _ _ (sqd _ _ (((HB.out.cell (sqd w _ hw549_6)).trans hw549_6)))).trans (((HB.out.cell (sqd w _ hw549_6)).trans hw549_6))⟩ (fun hHeld => ?_)
                   clear hK K
                   refine norm_ (a' := ?_) ?_ ?_
                   rotate_left
                   ·show Act.put _ (some 93) _ = _
                    simp only [Act.put, sqa, sqb, sqc, i64_w, i32_w]
                    rfl
                   refine one_ (i := 8) (N := some 94) #[true,true,true,true,true,true,true,true,true,false,false] rfl rfl (one_of HT_.out (by kernel_rfl)) (by decide) (fun K hK => ?_)
                   refine Kd.R_append_step Kd.string (w0 := w) w.heap.size (by rfl) (.tmp 87) (.tmp 93) 86 9 (.string ⟨#[]⟩) 16 rfl Try.underlying86 info9 rfl (by decide) (by omega) (.slice (some ad547) x531001_1.length co84) x531001_1 ((rd_T78 l0 x4_1).f3) [.string ((rd_T78 l0 x4_1).f3)] (fun _ => True) (fun _ => False) rfl rfl ?aP (fun _ hk => hk.elim) ?aF ?aO ?aB ?aS ?aL ?_
                   (case aP => exact rfl)
                   (case aB => exact (by repeat (first | (with_reducible first | exact HB.out | apply below_alloc | apply pw_below_drewN | apply below_drew1 | refine below_set ?_ GE526.out | refine below_set ?_ GE530.out) | exact HB.out)))
                   (case aF => exact (fun _ _ => trivial))
                   (case aO => exact (by (with_reducible repeat (first | apply Kd.R_alloc | apply Kd.R_drewN | apply Kd.R_drew)); exact HO_531001.out))
                   (case aS => exact (below_size (by repeat (first | (with_reducible first | exact HB.out | apply below_alloc | apply pw_below_drewN | apply below_drew1 | refine below_set ?_ GE526.out | refine below_set ?_ GE530.out) | exact HB.out))))
                   (case aL => have := LMc80.out; omega)
                   intro v551 w88 ho hb hg hat
                   rw [← Ny550.out] at ho
                   have n0_ := Aside0.mk (Kd.R_over' (by (with_reducible repeat (first | apply Kd.R_alloc | apply Kd.R_drewN | apply Kd.R_drew)); exact HO_531000.out) (Kd.R_typed (by (with_reducible repeat (first | apply Kd.R_alloc | apply Kd.R_drewN | apply Kd.R_drew)); exact HO_531001.out)) (by decide) hg)
                   have n1_ := Aside0.mk (Kd.R_over' (by (with_reducible repeat (first | apply Kd.R_alloc | apply Kd.R_drewN | apply Kd.R_drew)); exact HO_531002.out) (Kd.R_typed (by (with_reducible repeat (first | apply Kd.R_alloc | apply Kd.R_drewN | apply Kd.R_drew)); exact HO_531001.out)) (by decide) hg)
                   have n2_ := Aside0.mk (blk_grown (g := gb526) (o := .cells #[.slice none 0 0, .slice none 0 0, .slice none 0 0] 112 (0, 0)) (by (with_reducible repeat (first | refine blk_drewN ?_ _ | refine blk_drew ?_ | refine blk_alloc ?_ _)); exact BK526.out) hg (Kd.R_ne HO_531001.out BK526.out (by decide)))
                   have n3_ := Aside0.mk (blk_grown (g := gb530) (o := .cells #[u531000, .slice (some ad547) x531001_1.length co84, u531002] 112 (0, 0)) (by (with_reducible repeat (first | refine blk_drewN ?_ _ | refine blk_drew ?_ | refine blk_alloc ?_ _)); exact BK530.out) hg (Kd.R_ne HO_531001.out BK530.out (by decide)))
                   have n4_ := Aside0.mk (hb)
                   have n5_ := Aside0.mk (ho)
                   clear HO_531000; clear HO_531002; clear BK526; clear BK530; clear HB; clear HO_531001
                   have HO_531000 := n0_
                   have HO_531002 := n1_
                   have BK526 := n2_
                   have BK530 := n3_
                   have HB := n4_
                   have HO552 := n5_
                   clear n0_ n1_ n2_ n3_ n4_ n5_; clear ho hb hg hat
                   obtain ⟨Ao89, co89, eo89⟩ := Kd.R_slice HO552.out
                   (first | subst eo89 | (injection eo89 with f1_ f2_ f3_; have f4_ := f1_.symm; have f5_ := f3_.symm; clear f1_ f2_ f3_; subst f4_; subst f5_))
                   refine hK.out _ _ ⟨(blk_cell BK530.out 0).trans rfl, (blk_cell BK530.out 1).trans rfl, (blk_cell BK530.out 2).trans rfl, ((HB.out.cell (sqd w _ hw549_0)).trans hw549_0), ((HB.out.cell (sqd w _ hw549_1)).trans hw549_1), ((HB.out.cell (sqd w _ hw549_2)).trans hw549_2), ((HB.out.cell (sqd w _ hw549_3)).trans hw549_3), ((HB.out.cell (sqd w _ hw549_4)).trans hw549_4), ((HB.out.cell (sqd w _ hw549_5)).trans hw549_5), ((HB.out.cell (sqd w _ hw549_6)).trans hw549_6)⟩ (fun hHeld => ?_)
                   clear hK K
                   refine norm_ (a' := ?_) ?_ ?_
                   rotate_left
                   ·show Act.put _ (some 94) _ = _
                    simp only [Act.put, sqa, sqb, sqc, i64_w, i32_w]
                    rfl
                   refine pure_ (i := 9) (N := some 95) (v := ?_) (a' := ?_) #[true,true,true,true,true,true,true,true,true,true,false] rfl rfl (any_of HT_.out (by kernel_rfl)) (fun _ _ _ h => h) (Or.inl ⟨by rfl, ?_⟩) ?_ ?_
                   rotate_left; (· intro w'; go_simp; with_reducible rfl); rotate_left; (· simp only [Act.put, sqa, sqb, sqc, i64_w, i32_w]; rfl)
                   refine last_ (i := 10) (N := none) #[true,true,true,true,true,true,true,true,true,true,true] rfl rfl (one_of HT_.out (by kernel_rfl)) (by decide) (fun K hK => ?_)
                   have hs90 : w88.cell? ⟨gb530, 1, none⟩ = some (.slice (some ad547) x531001_1.length co84) := (blk_cell BK530.out 1).trans rfl
                   have hfs90 := blk_frozen BK530.out 1
                   have hns90_0 := NB526_530.out
                   have hms90_0 := NB530_526.out
                   refine skip_ (w1 := ?_) (by rfl) rfl ?_ ?_
                   rotate_left
                   ·go_simp
                    rfl
                   refine hK.out _ _ ?_
                   clear hK K
                   refine done_ (done_of HT_.out (by kernel_rfl)) ?_
                   have n0_ : Aside0 (Kd.R k76 76 (w88.setCell ⟨gb530, 1, none⟩ (.slice Ao89 y550.length co89)) w.heap.size (fun _ => True) u531000 x531000_1) := ⟨by (with_reducible repeat (first | apply Kd.R_alloc | apply Kd.R_drewN | apply Kd.R_drew)); exact Kd.R_mono (Kd.R_far (p := ⟨gb530, 1, none⟩) (Kd.R_types HO_531000.out BK530.out (by decide)) (fun _ hk => hk.2) (.slice Ao89 y550.length co89)) (fun _ hk => trivial)⟩
                   have n1_ : Aside0 (Kd.R (Kd.int .i64) 3 (w88.setCell ⟨gb530, 1, none⟩ (.slice Ao89 y550.length co89)) w.heap.size (fun _ => True) u531002 x531002_1) := ⟨by (with_reducible repeat (first | apply Kd.R_alloc | apply Kd.R_drewN | apply Kd.R_drew)); exact Kd.R_mono (Kd.R_far (p := ⟨gb530, 1, none⟩) (Kd.R_types HO_531002.out BK530.out (by decide)) (fun _ hk => hk.2) (.slice Ao89 y550.length co89)) (fun _ hk => trivial)⟩
                   have n2_ : Aside0 (Kd.R Kd.string 9 (w88.setCell ⟨gb530, 1, none⟩ (.slice Ao89 y550.length co89)) w.heap.size (fun _ => True) (.slice Ao89 y550.length co89) y550) := ⟨by (with_reducible repeat (first | apply Kd.R_alloc | apply Kd.R_drewN | apply Kd.R_drew)); exact Kd.R_mono (Kd.R_far (p := ⟨gb530, 1, none⟩) (Kd.R_types HO552.out BK530.out (by decide)) (fun _ hk => hk.2) (.slice Ao89 y550.length co89)) (fun _ hk => trivial)⟩
                   have n3_ : Aside0 ((w88.setCell ⟨gb530, 1, none⟩ (.slice Ao89 y550.length co89)).heap[gb526]? = some (.cells #[.slice none 0 0, .slice none 0 0, .slice none 0 0] 112 (0, 0))) := ⟨by (with_reducible repeat (first | refine blk_drewN ?_ _ | refine blk_drew ?_ | refine blk_alloc ?_ _)); refine blk_far ?_ NB526_530.out _; (with_reducible repeat (first | refine blk_drewN ?_ _ | refine blk_drew ?_ | refine blk_alloc ?_ _)); exact BK526.out⟩
                   have n4_ : Aside0 ((w88.setCell ⟨gb530, 1, none⟩ (.slice Ao89 y550.length co89)).heap[gb530]? = some (.cells #[u531000, .slice Ao89 y550.length co89, u531002] 112 (0, 0))) := ⟨by (with_reducible repeat (first | refine blk_drewN ?_ _ | refine blk_drew ?_ | refine blk_alloc ?_ _)); refine blk_put (cs := #[u531000, .slice (some ad547) x531001_1.length co84, u531002]) ?_ 1 _ rfl; (with_reducible repeat (first | refine blk_drewN ?_ _ | refine blk_drew ?_ | refine blk_alloc ?_ _)); exact BK530.out⟩
                   have n5_ : Aside0 (Below w.heap.size w (w88.setCell ⟨gb530, 1, none⟩ (.slice Ao89 y550.length co89))) := ⟨by repeat (first | (with_reducible first | exact HB.out | apply below_alloc | apply pw_below_drewN | apply below_drew1 | refine below_set ?_ GE526.out | refine below_set ?_ GE530.out) | exact HB.out)⟩
                   (try clear HO_531000); (try clear HO_531002); (try clear HO552); (try clear BK526); (try clear BK530); (try clear HB)
                   generalize (w88.setCell ⟨gb530, 1, none⟩ (.slice Ao89 y550.length co89)) = w91 at n0_ n1_ n2_ n3_ n4_ n5_ ⊢
                   have HO_531000 := n0_
                   have HO_531002 := n1_
                   have HO552 := n2_
                   have BK526 := n3_
                   have BK530 := n4_
                   have HB := n5_
                   clear n0_ n1_ n2_ n3_ n4_ n5_
                   have hcz92_0 : w91.cell? ⟨gb530, 0, none⟩ = some (u531000) := (blk_cell BK530.out 0).trans rfl
                   have hcz92_1 : w91.cell? ⟨gb530, 1, none⟩ = some (.slice Ao89 y550.length co89) := (blk_cell BK530.out 1).trans rfl
                   have hcz92_2 : w91.cell? ⟨gb530, 2, none⟩ = some (u531002) := (blk_cell BK530.out 2).trans rfl
                   have hfz92_0 := blk_frozen BK530.out 0
                   have hfz92_1 := blk_frozen BK530.out 1
                   have hfz92_2 := blk_frozen BK530.out 2
                   have p82 : 0 ≤ (x4_1 : Int) := of_decide_eq_true (by first | (with_reducible assumption) | assumption)
                   have q82 : (x4_1 : Int) < ((x531002_1.length : Int) : Int) := of_decide_eq_true (by first | (with_reducible assumption) | assumption)
                   obtain ⟨go82, co82, eo82, gb82, gl82, cl82, HG82⟩ := Kd.R_form HO_531002.out (by omega)
                   (first | cases eo82 | (injection eo82 with ea_ en_ ec_; (first | subst ea_ | (injection ea_ with ea_; subst ea_)); subst ec_; clear en_))
                   have GB82 := Aside0.mk gb82; have GG82 := Aside0.mk HG82; clear gb82 gl82 HG82
                   obtain ⟨hx82_0, hf82_0⟩ := Kd.R_celln 0 HO_531002.out (x4_1 : Int) p82 q82
                   replace p82 := eq_true p82
                   replace q82 := eq_true q82
                   obtain ⟨hy93_, hz93_⟩ := Kd.R_celln 0 HO_531002.out (x4_1 : Int) (of_decide_eq_true (by first | (with_reducible assumption) | assumption)) (of_decide_eq_true (by first | (with_reducible assumption) | assumption))
                   have HP93 := Kd.R_putg HO_531002.out (x4_1 : Int) x5_2
                   try go_wp2_with (first | ((with_reducible refine gate_store (t := 3) (p := 100) rfl ?_); refine store_event (t := 3) (p := 100) (v := ?vo_w94) (w1 := (w91.setCell ⟨go82, (x4_1 : Int).toNat, none⟩ (.int .i64 x5_2))) ?hg ?ho ?hn ?hr ?_; (case ho => rfl); (case hg => rfl); (case hn => rfl); (case hr => first | (go_simp; done) | (go_simp; rfl)); intro w94 hw; have hg : w91.grownBy w94 (some go82) := (by rw [hw]; exact HP93.2); have hp_ : Kd.R (Kd.int .i64) 3 w94 w.heap.size (fun _ => True) (.slice (some ⟨go82, 0, none⟩) x531002_1.length co82) y553 := (by rw [hw, Ny553.out]; exact HP93.1); clear HP93; have n0_ := Aside0.mk (Kd.R_over' (v := (.slice (some ⟨go82, 0, none⟩) x531002_1.length co82)) (by (with_reducible repeat (first | apply Kd.R_alloc | apply Kd.R_drewN | apply Kd.R_drew)); exact HO_531000.out) (Kd.R_typed HO_531002.out) (by decide) hg); have n1_ := Aside0.mk (hp_); have n2_ := Aside0.mk (blk_grown (g := gb526) (o := .cells #[.slice none 0 0, .slice none 0 0, .slice none 0 0] 112 (0, 0)) (by (with_reducible repeat (first | refine blk_drewN ?_ _ | refine blk_drew ?_ | refine blk_alloc ?_ _)); exact BK526.out) hg (Kd.R_ne HO_531002.out BK526.out (by decide))); have n3_ := Aside0.mk (blk_grown (g := gb530) (o := .cells #[u531000, .slice Ao89 y550.length co89, .slice (some ⟨go82, 0, none⟩) x531002_1.length co82] 112 (0, 0)) (by (with_reducible repeat (first | refine blk_drewN ?_ _ | refine blk_drew ?_ | refine blk_alloc ?_ _)); exact BK530.out) hg (Kd.R_ne HO_531002.out BK530.out (by decide))); have n4_ := Aside0.mk (Kd.R_over' (v := (.slice (some ⟨go82, 0, none⟩) x531002_1.length co82)) (by (with_reducible repeat (first | apply Kd.R_alloc | apply Kd.R_drewN | apply Kd.R_drew)); exact HO552.out) (Kd.R_typed HO_531002.out) (by decide) hg); have n5_ := Aside0.mk ((by rw [hw]; exact below_set (HB.out) GB82.out : Below w.heap.size w w94)); clear HO_531000; clear HO_531002; clear BK526; clear BK530; clear HO552; clear HB; have HO_531000 := n0_; have HO_531002 := n1_; have BK526 := n2_; have BK530 := n3_; have HO552 := n4_; have HB := n5_; clear n0_ n1_ n2_ n3_ n4_ n5_; clear hg hw hp_))
                   go_roundg k2
                   case measure => have := HK1.out; have := HK2.out; omega
                   case rel => exact ⟨(wrap64 (x4_1 + 1)), (x531000_1), (y550), (y553), (u531000), (.slice Ao89 y550.length co89), (.slice (some ⟨go82, 0, none⟩) x531002_1.length co82), (by first | rfl | (simp; done) | (simp [*]; done)), H', ⟨by have := HK1.out; have := HK2.out; omega⟩, ⟨by (with_reducible repeat (first | apply Kd.R_alloc | apply Kd.R_drewN | apply Kd.R_drew)); exact HO_531000.out⟩, ⟨by (with_reducible repeat (first | apply Kd.R_alloc | apply Kd.R_drewN | apply Kd.R_drew)); exact HO552.out⟩, ⟨by (with_reducible repeat (first | apply Kd.R_alloc | apply Kd.R_drewN | apply Kd.R_drew)); exact HO_531002.out⟩, ⟨by (with_reducible repeat (first | refine blk_drewN ?_ _ | refine blk_drew ?_ | refine blk_alloc ?_ _)); exact BK526.out⟩, ⟨by (with_reducible repeat (first | refine blk_drewN ?_ _ | refine blk_drew ?_ | refine blk_alloc ?_ _)); exact BK530.out⟩, ⟨by repeat (first | (with_reducible first | exact HB.out | apply below_alloc | apply pw_below_drewN | apply below_drew1 | refine below_set ?_ GE526.out | refine below_set ?_ GE530.out) | exact HB.out)⟩⟩
                  ·rw [if_neg c81] at H
                   exact absurd H (by simp)
                 ·rw [if_neg c80] at H
                  exact absurd H (by simp)
                ·rw [if_neg c79] at H
                 have c79b0 : (x5_2 == (x531001_1.length : Int)) = false := beq_eq_false_iff_ne.mpr c79
                 have c79b1 : (x5_2 != (x531001_1.length : Int)) = true := bne_iff_ne.mpr c79
                 by_cases c95 : x4_1 < (x531002_1.length : Int)
                 ·rw [if_pos c95] at H
                  have c95b0 : decide (x4_1 < (x531002_1.length : Int)) = true := decide_eq_true c95
                  clear c95
                  obtain ⟨y554, hy554⟩ : ∃ y_ : List Int, y_ = (x531002_1.set (x4_1 : Int).toNat x5_2) := ⟨_, rfl⟩
                  replace H : (dowelref20_tables.l0 k2 l0 (wrap64 (x4_1 + 1)) x531000_1 x531001_1 y554) = some (r1, r2, r3) := by first | (rw [hy554]; with_reducible exact H) | (have H2_ := (Option.bind_some _ _).symm.trans H; rw [hy554]; with_reducible exact H2_) | (have H2_ := (Option.bind_some _ _).symm.trans H; with_reducible exact H2_) | with_reducible exact H | (rw [hy554]; exact H) | exact H
                  have Ny554 := Aside0.mk hy554; clear hy554
                  have H' := Aside0.mk H
                  clear H
                  try go_wp2
                  have n0_ := Aside0.mk (Kd.R_drew HO_531000.out)
                  have n1_ := Aside0.mk (Kd.R_drew HO_531001.out)
                  have n2_ := Aside0.mk (Kd.R_drew HO_531002.out)
                  have n3_ := Aside0.mk (blk_drew BK526.out)
                  have n4_ := Aside0.mk (blk_drew BK530.out)
                  have n5_ := Aside0.mk (below_drew1 HB.out)
                  clear HO_531000; clear HO_531001; clear HO_531002; clear BK526; clear BK530; clear HB
                  have HO_531000 := n0_
                  have HO_531001 := n1_
                  have HO_531002 := n2_
                  have BK526 := n3_
                  have BK530 := n4_
                  have HB := n5_
                  clear n0_ n1_ n2_ n3_ n4_ n5_
                  obtain ⟨Ao98, co98, eo98⟩ := Kd.R_slice HO_531001.out
                  (first | subst eo98 | (injection eo98 with f1_ f2_ f3_; have f4_ := f1_.symm; have f5_ := f3_.symm; clear f1_ f2_ f3_; subst f4_; subst f5_))
                  have p547 : 0 ≤ (x5_2 : Int) := of_decide_eq_true (by first | (with_reducible assumption) | assumption)
                  have q547 : x5_2 < (x531001_1.length : Int) := of_decide_eq_true (by first | (with_reducible assumption) | assumption)
                  obtain ⟨ad547, e547, hx547_0⟩ := Kd.at_string (Kd.R_reads' HO_531001.out).2.2 x5_2 p547 q547
                  cases e547
                  replace p547 := eq_true p547
                  replace q547 := eq_true q547
                  have p548 : 0 ≤ (x4_1 : Int) := of_decide_eq_true (by first | (with_reducible assumption) | assumption)
                  have q548 : x4_1 < (l0.length : Int) := of_decide_eq_true (by first | (with_reducible assumption) | assumption)
                  obtain ⟨ad548, e548, hx548_0, hx548_1, hx548_2, hx548_3, hx548_4, hx548_5, hx548_6⟩ := at_T78 HR0.out x4_1 p548 q548
                  have hw548_6 := hx548_6
                  have hw548_5 := hx548_5
                  have hw548_4 := hx548_4
                  have hw548_3 := hx548_3
                  have hw548_2 := hx548_2
                  have hw548_1 := hx548_1
                  have hw548_0 := hx548_0
                  obtain rfl : ad531 = ad548 := (by injection e548)
                  replace hx548_0 := (HB.out.cell (sqd w _ hx548_0)).trans hx548_0
                  replace hx548_1 := (HB.out.cell (sqd w _ hx548_1)).trans hx548_1
                  replace hx548_2 := (HB.out.cell (sqd w _ hx548_2)).trans hx548_2
                  replace hx548_3 := (HB.out.cell (sqd w _ hx548_3)).trans hx548_3
                  replace hx548_4 := (HB.out.cell (sqd w _ hx548_4)).trans hx548_4
                  replace hx548_5 := (HB.out.cell (sqd w _ hx548_5)).trans hx548_5
                  replace hx548_6 := (HB.out.cell (sqd w _ hx548_6)).trans hx548_6
                  replace p548 := eq_true p548
                  replace q548 := eq_true q548
                  refine start_ (n := 18) (S := fun w' => w'.cell? ⟨gb530, 0, none⟩ = some (u531000) ∧ w'.cell? ⟨gb530, 1, none⟩ = some (.slice (some ad547) x531001_1.length co98) ∧ w'.cell? ⟨gb530, 2, none⟩ = some (u531002) ∧ w'.cell? (ad547.add (x5_2).toNat) = some (.string (rdOf ByteArray.empty x531001_1 x5_2)) ∧ w'.cell? (ad531.add ((x4_1).toNat * 7)) = some (.int .i64 ((rd_T78 l0 x4_1).f0)) ∧ w'.cell? ⟨(ad531.add ((x4_1).toNat * 7)).block, (ad531.add ((x4_1).toNat * 7)).off + 1, none⟩ = some (.int .i64 ((rd_T78 l0 x4_1).f1)) ∧ w'.cell? ⟨(ad531.add ((x4_1).toNat * 7)).block, (ad531.add ((x4_1).toNat * 7)).off + 2, none⟩ = some (.int .u64 ((rd_T78 l0 x4_1).f2.f0)) ∧ w'.cell? ⟨(ad531.add ((x4_1).toNat * 7)).block, (ad531.add ((x4_1).toNat * 7)).off + 3, none⟩ = some (.int .u64 ((rd_T78 l0 x4_1).f2.f1)) ∧ w'.cell? ⟨(ad531.add ((x4_1).toNat * 7)).block, (ad531.add ((x4_1).toNat * 7)).off + 4, none⟩ = some (.int .u64 ((rd_T78 l0 x4_1).f2.f2)) ∧ w'.cell? ⟨(ad531.add ((x4_1).toNat * 7)).block, (ad531.add ((x4_1).toNat * 7)).off + 5, none⟩ = some (.int .u64 ((rd_T78 l0 x4_1).f2.f3)) ∧ w'.cell? ⟨(ad531.add ((x4_1).toNat * 7)).block, (ad531.add ((x4_1).toNat * 7)).off + 6, none⟩ = some (.string ((rd_T78 l0 x4_1).f3))) (ds := []) #[false,false,false,false,false,false,false,false,false,false,false,false,false,false,false,false,false,false] (by kernel_rfl) rfl rfl ⟨(blk_cell BK530.out 0).trans rfl, (blk_cell BK530.out 1).trans rfl, (blk_cell BK530.out 2).trans rfl, hx547_0, ((HB.out.cell (sqd w _ hw548_0)).trans hw548_0), ((HB.out.cell (sqd w _ hw548_1)).trans hw548_1), ((HB.out.cell (sqd w _ hw548_2)).trans hw548_2), ((HB.out.cell (sqd w _ hw548_3)).trans hw548_3), ((HB.out.cell (sqd w _ hw548_4)).trans hw548_4), ((HB.out.cell (sqd w _ hw548_5)).trans hw548_5), ((HB.out.cell (sqd w _ hw548_6)).trans hw548_6)⟩ (fun hHeld => ?_); refine with_tabW dowelref20_tables.tab13 dowelref20_tables.bits13 (fun HT_ HW_ => ?_)
                  generalize wr.drew = w97 at HO_531000 HO_531001 HO_531002 BK526 BK530 HB hx547_0 hx548_0 hx548_1 hx548_2 hx548_3 hx548_4 hx548_5 hx548_6 hHeld ⊢
                  refine pure_ (i := 0) (N := some 61) (v := ?_) (a' := ?_) #[true,false,false,false,false,false,false,false,false,false,false,false,false,false,false,false,false,false] rfl rfl (any_of HT_.out (by kernel_rfl)) (fun _ _ _ h => h) (Or.inl ⟨by rfl, ?_⟩) ?_ ?_
                  rotate_left; (· intro w'; go_simp; with_reducible rfl); rotate_left; (· simp only [Act.put, sqa, sqb, sqc, i64_w, i32_w]; rfl)
                  refine pure_ (i := 1) (N := some 62) (v := ?_) (a' := ?_) #[true,true,false,false,false,false,false,false,false,false,false,false,false,false,false,false,false,false] rfl rfl (any_of HT_.out (by kernel_rfl)) (fun _ _ _ h => h) (Or.inl ⟨by rfl, ?_⟩) ?_ ?_
                  rotate_left; (· intro w'; go_simp; with_reducible rfl); rotate_left; (· simp only [Act.put, sqa, sqb, sqc, i64_w, i32_w]; rfl)
                  refine take_ (i := 2) (N := some 63) (v := ?_) (a' := ?_) #[true,true,true,false,false,false,false,false,false,false,false,false,false,false,false,false,false,false] rfl rfl (take_ofW HT_.out HW_.out (by kernel_rfl)) (fun _ _ _ h => h) (Or.inl ⟨by rfl, ?_⟩) hHeld ?_ ?_
                  rotate_left; (· rintro w' ⟨s0, s1, s2, s3, s4, s5, s6, s7, s8, s9, s10⟩; go_simp; with_reducible rfl); rotate_left; (· simp only [Act.put, sqa, sqb, sqc, i64_w, i32_w]; rfl)
                  refine pure_ (i := 3) (N := some 64) (v := ?_) (a' := ?_) #[true,true,true,true,false,false,false,false,false,false,false,false,false,false,false,false,false,false] rfl rfl (any_of HT_.out (by kernel_rfl)) (fun _ _ _ h => h) (Or.inl ⟨by rfl, ?_⟩) ?_ ?_
                  rotate_left; (· intro w'; go_simp; with_reducible rfl); rotate_left; (· simp only [Act.put, sqa, sqb, sqc, i64_w, i32_w]; rfl)
                  refine pure_ (i := 4) (N := some 65) (v := ?_) (a' := ?_) #[true,true,true,true,true,false,false,false,false,false,false,false,false,false,false,false,false,false] rfl rfl (any_of HT_.out (by kernel_rfl)) (fun _ _ _ h => h) (Or.inl ⟨by rfl, ?_⟩) ?_ ?_
                  rotate_left; (· intro w'; go_simp; with_reducible rfl); rotate_left; (· simp only [Act.put, sqa, sqb, sqc, i64_w, i32_w]; rfl)
                  refine pure_ (i := 5) (N := some 66) (v := ?_) (a' := ?_) #[true,true,true,true,true,true,false,false,false,false,false,false,false,false,false,false,false,false] rfl rfl (any_of HT_.out (by kernel_rfl)) (fun _ _ _ h => h) (Or.inl ⟨by rfl, ?_⟩) ?_ ?_
                  rotate_left; (· intro w'; go_simp; with_reducible rfl); rotate_left; (· simp only [Act.put, sqa, sqb, sqc, i64_w, i32_w]; rfl)
                  refine pure_ (i := 6) (N := some 67) (v := ?_) (a' := ?_) #[true,true,true,true,true,true,true,false,false,false,false,false,false,false,false,false,false,false] rfl rfl (any_of HT_.out (by kernel_rfl)) (fun _ _ _ h => h) (Or.inl ⟨by rfl, ?_⟩) ?_ ?_
                  rotate_left; (· intro w'; go_simp; with_reducible rfl); rotate_left; (· simp only [Act.put, sqa, sqb, sqc, i64_w, i32_w]; rfl)
                  refine pure_ (i := 8) (N := some 69) (v := ?_) (a' := ?_) #[true,true,true,true,true,true,true,false,true,false,false,false,false,false,false,false,false,false] rfl rfl (any_of HT_.out (by kernel_rfl)) (fun _ _ _ h => h) (Or.inl ⟨by rfl, ?_⟩) ?_ ?_
                  rotate_left; (· intro w'; go_simp; with_reducible rfl); rotate_left; (· simp only [Act.put, sqa, sqb, sqc, i64_w, i32_w]; rfl)
                  refine pure_ (i := 11) (N := some 72) (v := ?_) (a' := ?_) #[true,true,true,true,true,true,true,false,true,false,false,true,false,false,false,false,false,false] rfl rfl (any_of HT_.out (by kernel_rfl)) (fun _ _ _ h => h) (Or.inl ⟨by rfl, ?_⟩) ?_ ?_
                  rotate_left; (· intro w'; go_simp; with_reducible rfl); rotate_left; (· simp only [Act.put, sqa, sqb, sqc, i64_w, i32_w]; rfl)
                  refine pure_ (i := 12) (N := some 73) (v := ?_) (a' := ?_) #[true,true,true,true,true,true,true,false,true,false,false,true,true,false,false,false,false,false] rfl rfl (any_of HT_.out (by kernel_rfl)) (fun _ _ _ h => h) (Or.inl ⟨by rfl, ?_⟩) ?_ ?_
                  rotate_left; (· intro w'; go_simp; with_reducible rfl); rotate_left; (· simp only [Act.put, sqa, sqb, sqc, i64_w, i32_w]; rfl)
                  refine pure_ (i := 13) (N := some 74) (v := ?_) (a' := ?_) #[true,true,true,true,true,true,true,false,true,false,false,true,true,true,false,false,false,false] rfl rfl (any_of HT_.out (by kernel_rfl)) (fun _ _ _ h => h) (Or.inl ⟨by rfl, ?_⟩) ?_ ?_
                  rotate_left; (· intro w'; go_simp; with_reducible rfl); rotate_left; (· simp only [Act.put, sqa, sqb, sqc, i64_w, i32_w]; rfl)
                  refine pure_ (i := 14) (N := some 75) (v := ?_) (a' := ?_) #[true,true,true,true,true,true,true,false,true,false,false,true,true,true,true,false,false,false] rfl rfl (any_of HT_.out (by kernel_rfl)) (fun _ _ _ h => h) (Or.inl ⟨by rfl, ?_⟩) ?_ ?_
                  rotate_left; (· intro w'; go_simp; with_reducible rfl); rotate_left; (· simp only [Act.put, sqa, sqb, sqc, i64_w, i32_w]; rfl)
                  refine take_ (i := 7) (N := some 68) (v := ?_) (a' := ?_) #[true,true,true,true,true,true,true,true,true,false,false,true,true,true,true,false,false,false] rfl rfl (take_ofW HT_.out HW_.out (by kernel_rfl)) (fun _ _ _ h => h) (Or.inl ⟨by rfl, ?_⟩) hHeld ?_ ?_
                  rotate_left; (· rintro w' ⟨s0, s1, s2, s3, s4, s5, s6, s7, s8, s9, s10⟩; go_simp; with_reducible rfl); rotate_left; (· simp only [Act.put, sqa, sqb, sqc, i64_w, i32_w]; rfl)
                  refine pure_ (i := 9) (N := some 70) (v := ?_) (a' := ?_) #[true,true,true,true,true,true,true,true,true,true,false,true,true,true,true,false,false,false] rfl rfl (any_of HT_.out (by kernel_rfl)) (fun _ _ _ h => h) (Or.inl ⟨by rfl, ?_⟩) ?_ ?_
                  rotate_left; (· intro w'; go_simp; with_reducible rfl); rotate_left; (· simp only [Act.put, sqa, sqb, sqc, i64_w, i32_w]; rfl)
                  refine take_ (i := 10) (N := some 71) (v := ?_) (a' := ?_) #[true,true,true,true,true,true,true,true,true,true,true,true,true,true,true,false,false,false] rfl rfl (take_ofW HT_.out HW_.out (by kernel_rfl)) (fun _ _ _ h => h) (Or.inl ⟨by rfl, ?_⟩) hHeld ?_ ?_
                  rotate_left; (· rintro w' ⟨s0, s1, s2, s3, s4, s5, s6, s7, s8, s9, s10⟩; go_simp; with_reducible rfl); rotate_left; (· simp only [Act.put, sqa, sqb, sqc, i64_w, i32_w]; rfl)
                  refine take_ (i := 15) (N := some 76) (v := ?_) (a' := ?_) #[true,true,true,true,true,true,true,true,true,true,true,true,true,true,true,true,false,false] rfl rfl (take_ofW HT_.out HW_.out (by kernel_rfl)) (fun _ _ _ h => h) (Or.inl ⟨by rfl, ?_⟩) hHeld ?_ ?_
                  rotate_left; (· rintro w' ⟨s0, s1, s2, s3, s4, s5, s6, s7, s8, s9, s10⟩; go_simp; with_reducible rfl); rotate_left; (· simp only [Act.put, sqa, sqb, sqc, i64_w, i32_w]; rfl)
                  refine pure_ (i := 16) (N := some 77) (v := ?_) (a' := ?_) #[true,true,true,true,true,true,true,true,true,true,true,true,true,true,true,true,true,false] rfl rfl (any_of HT_.out (by kernel_rfl)) (fun _ _ _ h => h) (Or.inl ⟨by rfl, ?_⟩) ?_ ?_
                  rotate_left; (· intro w'; go_simp; with_reducible rfl); rotate_left; (· simp only [Act.put, sqa, sqb, sqc, i64_w, i32_w]; rfl)
                  refine pure_ (i := 17) (N := some 78) (v := ?_) (a' := ?_) #[true,true,true,true,true,true,true,true,true,true,true,true,true,true,true,true,true,true] rfl rfl (any_of HT_.out (by kernel_rfl)) (fun _ _ _ h => h) (Or.inl ⟨by rfl, ?_⟩) ?_ ?_
                  rotate_left; (· intro w'; go_simp; with_reducible rfl); rotate_left; (· simp only [Act.put, sqa, sqb, sqc, i64_w, i32_w]; rfl)
                  refine done_ (done_of HT_.out (by kernel_rfl)) ?_
                  have hnb99 := NB530_526.out
                  have hnc99 := NB526_530.out
                  have hcz100_0 : w97.cell? ⟨gb530, 0, none⟩ = some (u531000) := (blk_cell BK530.out 0).trans rfl
                  have hcz100_1 : w97.cell? ⟨gb530, 1, none⟩ = some (.slice (some ad547) x531001_1.length co98) := (blk_cell BK530.out 1).trans rfl
                  have hcz100_2 : w97.cell? ⟨gb530, 2, none⟩ = some (u531002) := (blk_cell BK530.out 2).trans rfl
                  have hfz100_0 := blk_frozen BK530.out 0
                  have hfz100_1 := blk_frozen BK530.out 1
                  have hfz100_2 := blk_frozen BK530.out 2
                  have p96 : 0 ≤ (x4_1 : Int) := of_decide_eq_true (by first | (with_reducible assumption) | assumption)
                  have q96 : (x4_1 : Int) < ((x531002_1.length : Int) : Int) := of_decide_eq_true (by first | (with_reducible assumption) | assumption)
                  obtain ⟨go96, co96, eo96, gb96, gl96, cl96, HG96⟩ := Kd.R_form HO_531002.out (by omega)
                  (first | cases eo96 | (injection eo96 with ea_ en_ ec_; (first | subst ea_ | (injection ea_ with ea_; subst ea_)); subst ec_; clear en_))
                  have GB96 := Aside0.mk gb96; have GG96 := Aside0.mk HG96; clear gb96 gl96 HG96
                  obtain ⟨hx96_0, hf96_0⟩ := Kd.R_celln 0 HO_531002.out (x4_1 : Int) p96 q96
                  replace p96 := eq_true p96
                  replace q96 := eq_true q96
                  obtain ⟨hy101_, hz101_⟩ := Kd.R_celln 0 HO_531002.out (x4_1 : Int) (of_decide_eq_true (by first | (with_reducible assumption) | assumption)) (of_decide_eq_true (by first | (with_reducible assumption) | assumption))
                  have HP101 := Kd.R_putg HO_531002.out (x4_1 : Int) x5_2
                  try go_wp2_with (first | ((with_reducible refine gate_store (t := 3) (p := 100) rfl ?_); refine store_event (t := 3) (p := 100) (v := ?vo_w102) (w1 := (w97.setCell ⟨go96, (x4_1 : Int).toNat, none⟩ (.int .i64 x5_2))) ?hg ?ho ?hn ?hr ?_; (case ho => rfl); (case hg => rfl); (case hn => rfl); (case hr => first | (go_simp; done) | (go_simp; rfl)); intro w102 hw; have hg : w97.grownBy w102 (some go96) := (by rw [hw]; exact HP101.2); have hp_ : Kd.R (Kd.int .i64) 3 w102 w.heap.size (fun _ => True) (.slice (some ⟨go96, 0, none⟩) x531002_1.length co96) y554 := (by rw [hw, Ny554.out]; exact HP101.1); clear HP101; have n0_ := Aside0.mk (Kd.R_over' (v := (.slice (some ⟨go96, 0, none⟩) x531002_1.length co96)) (by (with_reducible repeat (first | apply Kd.R_alloc | apply Kd.R_drewN | apply Kd.R_drew)); exact HO_531000.out) (Kd.R_typed HO_531002.out) (by decide) hg); have n1_ := Aside0.mk (Kd.R_over' (v := (.slice (some ⟨go96, 0, none⟩) x531002_1.length co96)) (by (with_reducible repeat (first | apply Kd.R_alloc | apply Kd.R_drewN | apply Kd.R_drew)); exact HO_531001.out) (Kd.R_typed HO_531002.out) (by decide) hg); have n2_ := Aside0.mk (hp_); have n3_ := Aside0.mk (blk_grown (g := gb526) (o := .cells #[.slice none 0 0, .slice none 0 0, .slice none 0 0] 112 (0, 0)) (by (with_reducible repeat (first | refine blk_drewN ?_ _ | refine blk_drew ?_ | refine blk_alloc ?_ _)); exact BK526.out) hg (Kd.R_ne HO_531002.out BK526.out (by decide))); have n4_ := Aside0.mk (blk_grown (g := gb530) (o := .cells #[u531000, .slice (some ad547) x531001_1.length co98, .slice (some ⟨go96, 0, none⟩) x531002_1.length co96] 112 (0, 0)) (by (with_reducible repeat (first | refine blk_drewN ?_ _ | refine blk_drew ?_ | refine blk_alloc ?_ _)); exact BK530.out) hg (Kd.R_ne HO_531002.out BK530.out (by decide))); have n5_ := Aside0.mk ((by rw [hw]; exact below_set (HB.out) GB96.out : Below w.heap.size w w102)); clear HO_531000; clear HO_531001; clear HO_531002; clear BK526; clear BK530; clear HB; have HO_531000 := n0_; have HO_531001 := n1_; have HO_531002 := n2_; have BK526 := n3_; have BK530 := n4_; have HB := n5_; clear n0_ n1_ n2_ n3_ n4_ n5_; clear hg hw hp_))
                  go_roundg k2
                  case measure => have := HK1.out; have := HK2.out; omega
                  case rel => exact ⟨(wrap64 (x4_1 + 1)), (x531000_1), (x531001_1), (y554), (u531000), (.slice (some ad547) x531001_1.length co98), (.slice (some ⟨go96, 0, none⟩) x531002_1.length co96), (by first | rfl | (simp; done) | (simp [*]; done)), H', ⟨by have := HK1.out; have := HK2.out; omega⟩, ⟨by (with_reducible repeat (first | apply Kd.R_alloc | apply Kd.R_drewN | apply Kd.R_drew)); exact HO_531000.out⟩, ⟨by (with_reducible repeat (first | apply Kd.R_alloc | apply Kd.R_drewN | apply Kd.R_drew)); exact HO_531001.out⟩, ⟨by (with_reducible repeat (first | apply Kd.R_alloc | apply Kd.R_drewN | apply Kd.R_drew)); exact HO_531002.out⟩, ⟨by (with_reducible repeat (first | refine blk_drewN ?_ _ | refine blk_drew ?_ | refine blk_alloc ?_ _)); exact BK526.out⟩, ⟨by (with_reducible repeat (first | refine blk_drewN ?_ _ | refine blk_drew ?_ | refine blk_alloc ?_ _)); exact BK530.out⟩, ⟨by repeat (first | (with_reducible first | exact HB.out | apply below_alloc | apply pw_below_drewN | apply below_drew1 | refine below_set ?_ GE526.out | refine below_set ?_ GE530.out) | exact HB.out)⟩⟩
                 ·rw [if_neg c95] at H
                  exact absurd H (by simp)
               ·rw [if_neg c78] at H
                have c78b0 : ((rdOf ByteArray.empty x531001_1 x5_2).toList == ((rd_T78 l0 x4_1).f3).toList) = false := beq_eq_false_iff_ne.mpr c78
                have c78b1 : ((rdOf ByteArray.empty x531001_1 x5_2).toList != ((rd_T78 l0 x4_1).f3).toList) = true := bne_iff_ne.mpr c78
                have H' := Aside0.mk H
                clear H
                try go_wp2
                have n0_ := Aside0.mk (Kd.R_drew HO_531000.out)
                have n1_ := Aside0.mk (Kd.R_drew HO_531001.out)
                have n2_ := Aside0.mk (Kd.R_drew HO_531002.out)
                have n3_ := Aside0.mk (blk_drew BK526.out)
                have n4_ := Aside0.mk (blk_drew BK530.out)
                have n5_ := Aside0.mk (below_drew1 HB.out)
                clear HO_531000; clear HO_531001; clear HO_531002; clear BK526; clear BK530; clear HB
                have HO_531000 := n0_
                have HO_531001 := n1_
                have HO_531002 := n2_
                have BK526 := n3_
                have BK530 := n4_
                have HB := n5_
                clear n0_ n1_ n2_ n3_ n4_ n5_
                obtain ⟨Ao104, co104, eo104⟩ := Kd.R_slice HO_531001.out
                (first | subst eo104 | (injection eo104 with f1_ f2_ f3_; have f4_ := f1_.symm; have f5_ := f3_.symm; clear f1_ f2_ f3_; subst f4_; subst f5_))
                have p547 : 0 ≤ (x5_2 : Int) := of_decide_eq_true (by first | (with_reducible assumption) | assumption)
                have q547 : x5_2 < (x531001_1.length : Int) := of_decide_eq_true (by first | (with_reducible assumption) | assumption)
                obtain ⟨ad547, e547, hx547_0⟩ := Kd.at_string (Kd.R_reads' HO_531001.out).2.2 x5_2 p547 q547
                cases e547
                replace p547 := eq_true p547
                replace q547 := eq_true q547
                have p548 : 0 ≤ (x4_1 : Int) := of_decide_eq_true (by first | (with_reducible assumption) | assumption)
                have q548 : x4_1 < (l0.length : Int) := of_decide_eq_true (by first | (with_reducible assumption) | assumption)
                obtain ⟨ad548, e548, hx548_0, hx548_1, hx548_2, hx548_3, hx548_4, hx548_5, hx548_6⟩ := at_T78 HR0.out x4_1 p548 q548
                have hw548_6 := hx548_6
                have hw548_5 := hx548_5
                have hw548_4 := hx548_4
                have hw548_3 := hx548_3
                have hw548_2 := hx548_2
                have hw548_1 := hx548_1
                have hw548_0 := hx548_0
                obtain rfl : ad531 = ad548 := (by injection e548)
                replace hx548_0 := (HB.out.cell (sqd w _ hx548_0)).trans hx548_0
                replace hx548_1 := (HB.out.cell (sqd w _ hx548_1)).trans hx548_1
                replace hx548_2 := (HB.out.cell (sqd w _ hx548_2)).trans hx548_2
                replace hx548_3 := (HB.out.cell (sqd w _ hx548_3)).trans hx548_3
                replace hx548_4 := (HB.out.cell (sqd w _ hx548_4)).trans hx548_4
                replace hx548_5 := (HB.out.cell (sqd w _ hx548_5)).trans hx548_5
                replace hx548_6 := (HB.out.cell (sqd w _ hx548_6)).trans hx548_6
                replace p548 := eq_true p548
                replace q548 := eq_true q548
                refine start_ (n := 18) (S := fun w' => w'.cell? ⟨gb530, 0, none⟩ = some (u531000) ∧ w'.cell? ⟨gb530, 1, none⟩ = some (.slice (some ad547) x531001_1.length co104) ∧ w'.cell? ⟨gb530, 2, none⟩ = some (u531002) ∧ w'.cell? (ad547.add (x5_2).toNat) = some (.string (rdOf ByteArray.empty x531001_1 x5_2)) ∧ w'.cell? (ad531.add ((x4_1).toNat * 7)) = some (.int .i64 ((rd_T78 l0 x4_1).f0)) ∧ w'.cell? ⟨(ad531.add ((x4_1).toNat * 7)).block, (ad531.add ((x4_1).toNat * 7)).off + 1, none⟩ = some (.int .i64 ((rd_T78 l0 x4_1).f1)) ∧ w'.cell? ⟨(ad531.add ((x4_1).toNat * 7)).block, (ad531.add ((x4_1).toNat * 7)).off + 2, none⟩ = some (.int .u64 ((rd_T78 l0 x4_1).f2.f0)) ∧ w'.cell? ⟨(ad531.add ((x4_1).toNat * 7)).block, (ad531.add ((x4_1).toNat * 7)).off + 3, none⟩ = some (.int .u64 ((rd_T78 l0 x4_1).f2.f1)) ∧ w'.cell? ⟨(ad531.add ((x4_1).toNat * 7)).block, (ad531.add ((x4_1).toNat * 7)).off + 4, none⟩ = some (.int .u64 ((rd_T78 l0 x4_1).f2.f2)) ∧ w'.cell? ⟨(ad531.add ((x4_1).toNat * 7)).block, (ad531.add ((x4_1).toNat * 7)).off + 5, none⟩ = some (.int .u64 ((rd_T78 l0 x4_1).f2.f3)) ∧ w'.cell? ⟨(ad531.add ((x4_1).toNat * 7)).block, (ad531.add ((x4_1).toNat * 7)).off + 6, none⟩ = some (.string ((rd_T78 l0 x4_1).f3))) (ds := []) #[false,false,false,false,false,false,false,false,false,false,false,false,false,false,false,false,false,false] (by kernel_rfl) rfl rfl ⟨(blk_cell BK530.out 0).trans rfl, (blk_cell BK530.out 1).trans rfl, (blk_cell BK530.out 2).trans rfl, hx547_0, ((HB.out.cell (sqd w _ hw548_0)).trans hw548_0), ((HB.out.cell (sqd w _ hw548_1)).trans hw548_1), ((HB.out.cell (sqd w _ hw548_2)).trans hw548_2), ((HB.out.cell (sqd w _ hw548_3)).trans hw548_3), ((HB.out.cell (sqd w _ hw548_4)).trans hw548_4), ((HB.out.cell (sqd w _ hw548_5)).trans hw548_5), ((HB.out.cell (sqd w _ hw548_6)).trans hw548_6)⟩ (fun hHeld => ?_); refine with_tabW dowelref20_tables.tab13 dowelref20_tables.bits13 (fun HT_ HW_ => ?_)
                generalize wr.drew = w103 at HO_531000 HO_531001 HO_531002 BK526 BK530 HB hx547_0 hx548_0 hx548_1 hx548_2 hx548_3 hx548_4 hx548_5 hx548_6 hHeld ⊢
                refine pure_ (i := 0) (N := some 61) (v := ?_) (a' := ?_) #[true,false,false,false,false,false,false,false,false,false,false,false,false,false,false,false,false,false] rfl rfl (any_of HT_.out (by kernel_rfl)) (fun _ _ _ h => h) (Or.inl ⟨by rfl, ?_⟩) ?_ ?_
                rotate_left; (· intro w'; go_simp; with_reducible rfl); rotate_left; (· simp only [Act.put, sqa, sqb, sqc, i64_w, i32_w]; rfl)
                refine pure_ (i := 1) (N := some 62) (v := ?_) (a' := ?_) #[true,true,false,false,false,false,false,false,false,false,false,false,false,false,false,false,false,false] rfl rfl (any_of HT_.out (by kernel_rfl)) (fun _ _ _ h => h) (Or.inl ⟨by rfl, ?_⟩) ?_ ?_
                rotate_left; (· intro w'; go_simp; with_reducible rfl); rotate_left; (· simp only [Act.put, sqa, sqb, sqc, i64_w, i32_w]; rfl)
                refine take_ (i := 2) (N := some 63) (v := ?_) (a' := ?_) #[true,true,true,false,false,false,false,false,false,false,false,false,false,false,false,false,false,false] rfl rfl (take_ofW HT_.out HW_.out (by kernel_rfl)) (fun _ _ _ h => h) (Or.inl ⟨by rfl, ?_⟩) hHeld ?_ ?_
                rotate_left; (· rintro w' ⟨s0, s1, s2, s3, s4, s5, s6, s7, s8, s9, s10⟩; go_simp; with_reducible rfl); rotate_left; (· simp only [Act.put, sqa, sqb, sqc, i64_w, i32_w]; rfl)
                refine pure_ (i := 3) (N := some 64) (v := ?_) (a' := ?_) #[true,true,true,true,false,false,false,false,false,false,false,false,false,false,false,false,false,false] rfl rfl (any_of HT_.out (by kernel_rfl)) (fun _ _ _ h => h) (Or.inl ⟨by rfl, ?_⟩) ?_ ?_
                rotate_left; (· intro w'; go_simp; with_reducible rfl); rotate_left; (· simp only [Act.put, sqa, sqb, sqc, i64_w, i32_w]; rfl)
                refine pure_ (i := 4) (N := some 65) (v := ?_) (a' := ?_) #[true,true,true,true,true,false,false,false,false,false,false,false,false,false,false,false,false,false] rfl rfl (any_of HT_.out (by kernel_rfl)) (fun _ _ _ h => h) (Or.inl ⟨by rfl, ?_⟩) ?_ ?_
                rotate_left; (· intro w'; go_simp; with_reducible rfl); rotate_left; (· simp only [Act.put, sqa, sqb, sqc, i64_w, i32_w]; rfl)
                refine pure_ (i := 5) (N := some 66) (v := ?_) (a' := ?_) #[true,true,true,true,true,true,false,false,false,false,false,false,false,false,false,false,false,false] rfl rfl (any_of HT_.out (by kernel_rfl)) (fun _ _ _ h => h) (Or.inl ⟨by rfl, ?_⟩) ?_ ?_
                rotate_left; (· intro w'; go_simp; with_reducible rfl); rotate_left; (· simp only [Act.put, sqa, sqb, sqc, i64_w, i32_w]; rfl)
                refine pure_ (i := 6) (N := some 67) (v := ?_) (a' := ?_) #[true,true,true,true,true,true,true,false,false,false,false,false,false,false,false,false,false,false] rfl rfl (any_of HT_.out (by kernel_rfl)) (fun _ _ _ h => h) (Or.inl ⟨by rfl, ?_⟩) ?_ ?_
                rotate_left; (· intro w'; go_simp; with_reducible rfl); rotate_left; (· simp only [Act.put, sqa, sqb, sqc, i64_w, i32_w]; rfl)
                refine pure_ (i := 8) (N := some 69) (v := ?_) (a' := ?_) #[true,true,true,true,true,true,true,false,true,false,false,false,false,false,false,false,false,false] rfl rfl (any_of HT_.out (by kernel_rfl)) (fun _ _ _ h => h) (Or.inl ⟨by rfl, ?_⟩) ?_ ?_
                rotate_left; (· intro w'; go_simp; with_reducible rfl); rotate_left; (· simp only [Act.put, sqa, sqb, sqc, i64_w, i32_w]; rfl)
                refine pure_ (i := 11) (N := some 72) (v := ?_) (a' := ?_) #[true,true,true,true,true,true,true,false,true,false,false,true,false,false,false,false,false,false] rfl rfl (any_of HT_.out (by kernel_rfl)) (fun _ _ _ h => h) (Or.inl ⟨by rfl, ?_⟩) ?_ ?_
                rotate_left; (· intro w'; go_simp; with_reducible rfl); rotate_left; (· simp only [Act.put, sqa, sqb, sqc, i64_w, i32_w]; rfl)
                refine pure_ (i := 12) (N := some 73) (v := ?_) (a' := ?_) #[true,true,true,true,true,true,true,false,true,false,false,true,true,false,false,false,false,false] rfl rfl (any_of HT_.out (by kernel_rfl)) (fun _ _ _ h => h) (Or.inl ⟨by rfl, ?_⟩) ?_ ?_
                rotate_left; (· intro w'; go_simp; with_reducible rfl); rotate_left; (· simp only [Act.put, sqa, sqb, sqc, i64_w, i32_w]; rfl)
                refine pure_ (i := 13) (N := some 74) (v := ?_) (a' := ?_) #[true,true,true,true,true,true,true,false,true,false,false,true,true,true,false,false,false,false] rfl rfl (any_of HT_.out (by kernel_rfl)) (fun _ _ _ h => h) (Or.inl ⟨by rfl, ?_⟩) ?_ ?_
                rotate_left; (· intro w'; go_simp; with_reducible rfl); rotate_left; (· simp only [Act.put, sqa, sqb, sqc, i64_w, i32_w]; rfl)
                refine pure_ (i := 14) (N := some 75) (v := ?_) (a' := ?_) #[true,true,true,true,true,true,true,false,true,false,false,true,true,true,true,false,false,false] rfl rfl (any_of HT_.out (by kernel_rfl)) (fun _ _ _ h => h) (Or.inl ⟨by rfl, ?_⟩) ?_ ?_
                rotate_left; (· intro w'; go_simp; with_reducible rfl); rotate_left; (· simp only [Act.put, sqa, sqb, sqc, i64_w, i32_w]; rfl)
                refine take_ (i := 7) (N := some 68) (v := ?_) (a' := ?_) #[true,true,true,true,true,true,true,true,true,false,false,true,true,true,true,false,false,false] rfl rfl (take_ofW HT_.out HW_.out (by kernel_rfl)) (fun _ _ _ h => h) (Or.inl ⟨by rfl, ?_⟩) hHeld ?_ ?_
                rotate_left; (· rintro w' ⟨s0, s1, s2, s3, s4, s5, s6, s7, s8, s9, s10⟩; go_simp; with_reducible rfl); rotate_left; (· simp only [Act.put, sqa, sqb, sqc, i64_w, i32_w]; rfl)
                refine pure_ (i := 9) (N := some 70) (v := ?_) (a' := ?_) #[true,true,true,true,true,true,true,true,true,true,false,true,true,true,true,false,false,false] rfl rfl (any_of HT_.out (by kernel_rfl)) (fun _ _ _ h => h) (Or.inl ⟨by rfl, ?_⟩) ?_ ?_
                rotate_left; (· intro w'; go_simp; with_reducible rfl); rotate_left; (· simp only [Act.put, sqa, sqb, sqc, i64_w, i32_w]; rfl)
                refine take_ (i := 10) (N := some 71) (v := ?_) (a' := ?_) #[true,true,true,true,true,true,true,true,true,true,true,true,true,true,true,false,false,false] rfl rfl (take_ofW HT_.out HW_.out (by kernel_rfl)) (fun _ _ _ h => h) (Or.inl ⟨by rfl, ?_⟩) hHeld ?_ ?_
                rotate_left; (· rintro w' ⟨s0, s1, s2, s3, s4, s5, s6, s7, s8, s9, s10⟩; go_simp; with_reducible rfl); rotate_left; (· simp only [Act.put, sqa, sqb, sqc, i64_w, i32_w]; rfl)
                refine take_ (i := 15) (N := some 76) (v := ?_) (a' := ?_) #[true,true,true,true,true,true,true,true,true,true,true,true,true,true,true,true,false,false] rfl rfl (take_ofW HT_.out HW_.out (by kernel_rfl)) (fun _ _ _ h => h) (Or.inl ⟨by rfl, ?_⟩) hHeld ?_ ?_
                rotate_left; (· rintro w' ⟨s0, s1, s2, s3, s4, s5, s6, s7, s8, s9, s10⟩; go_simp; with_reducible rfl); rotate_left; (· simp only [Act.put, sqa, sqb, sqc, i64_w, i32_w]; rfl)
                refine pure_ (i := 16) (N := some 77) (v := ?_) (a' := ?_) #[true,true,true,true,true,true,true,true,true,true,true,true,true,true,true,true,true,false] rfl rfl (any_of HT_.out (by kernel_rfl)) (fun _ _ _ h => h) (Or.inl ⟨by rfl, ?_⟩) ?_ ?_
                rotate_left; (· intro w'; go_simp; with_reducible rfl); rotate_left; (· simp only [Act.put, sqa, sqb, sqc, i64_w, i32_w]; rfl)
                refine pure_ (i := 17) (N := some 78) (v := ?_) (a' := ?_) #[true,true,true,true,true,true,true,true,true,true,true,true,true,true,true,true,true,true] rfl rfl (any_of HT_.out (by kernel_rfl)) (fun _ _ _ h => h) (Or.inl ⟨by rfl, ?_⟩) ?_ ?_
                rotate_left; (· intro w'; go_simp; with_reducible rfl); rotate_left; (· simp only [Act.put, sqa, sqb, sqc, i64_w, i32_w]; rfl)
                refine done_ (done_of HT_.out (by kernel_rfl)) ?_
                try go_wp2
                go_roundg k2
                case measure => have := HK1.out; have := HK2.out; omega
                case rel => exact ⟨(wrap64 (x5_2 + 1)), (by first | rfl | (simp; done) | (simp [*]; done)), H', ⟨by have := HK1.out; have := HK2.out; omega⟩, ⟨by (with_reducible repeat (first | apply Kd.R_alloc | apply Kd.R_drewN | apply Kd.R_drew)); exact HO_531000.out⟩, ⟨by (with_reducible repeat (first | apply Kd.R_alloc | apply Kd.R_drewN | apply Kd.R_drew)); exact HO_531001.out⟩, ⟨by (with_reducible repeat (first | apply Kd.R_alloc | apply Kd.R_drewN | apply Kd.R_drew)); exact HO_531002.out⟩, ⟨by (with_reducible repeat (first | refine blk_drewN ?_ _ | refine blk_drew ?_ | refine blk_alloc ?_ _)); exact BK526.out⟩, ⟨by (with_reducible repeat (first | refine blk_drewN ?_ _ | refine blk_drew ?_ | refine blk_alloc ?_ _)); exact BK530.out⟩, ⟨by repeat (first | (with_reducible first | exact HB.out | apply below_alloc | apply pw_below_drewN | apply below_drew1 | refine below_set ?_ GE526.out | refine below_set ?_ GE530.out) | exact HB.out)⟩⟩
              ·rw [if_neg c77] at H
               exact absurd H (by simp)
             ·rw [if_neg c76] at H
              exact absurd H (by simp)
            ·rw [if_neg c75] at H
             exact absurd H (by simp)
           ·rw [if_neg c74] at H
            have c74b0 : decide (x5_2 < (x531001_1.length : Int)) = false := decide_eq_false c74
            clear c74
            by_cases c105 : x5_2 = (x531001_1.length : Int)
            ·rw [if_pos c105] at H
             have c105b0 : (x5_2 == (x531001_1.length : Int)) = true := beq_iff_eq.mpr c105
             have c105b1 : (x5_2 != (x531001_1.length : Int)) = false := bne_eq_false_iff_eq.mpr c105
             clear c105
             by_cases c106 : 0 ≤ x4_1
             ·rw [if_pos c106] at H
              have c106b0 : decide (0 ≤ x4_1) = true := decide_eq_true c106
              clear c106
              by_cases c107 : x4_1 < (l0.length : Int)
              ·rw [if_pos c107] at H
               have c107b0 : decide (x4_1 < (l0.length : Int)) = true := decide_eq_true c107
               clear c107
               by_cases c108 : x531001_1.length < 8796093022208
               ·rw [if_pos c108] at H
                have LMc108 := Aside0.mk c108; clear c108
                obtain ⟨y556, hy556⟩ : ∃ y_ : List ByteArray, y_ = (x531001_1 ++ [(rd_T78 l0 x4_1).f3]) := ⟨_, rfl⟩
                replace H : (if x4_1 < (x531002_1.length : Int) then (dowelref20_tables.l0 k2 l0 (wrap64 (x4_1 + 1)) x531000_1 y556 (x531002_1.set (x4_1 : Int).toNat x5_2)) else (none)) = some (r1, r2, r3) := by first | (rw [hy556]; with_reducible exact H) | (have H2_ := (Option.bind_some _ _).symm.trans H; rw [hy556]; with_reducible exact H2_) | (have H2_ := (Option.bind_some _ _).symm.trans H; with_reducible exact H2_) | with_reducible exact H | (rw [hy556]; exact H) | exact H
                have Ny556 := Aside0.mk hy556; clear hy556
                by_cases c109 : x4_1 < (x531002_1.length : Int)
                ·rw [if_pos c109] at H
                 have c109b0 : decide (x4_1 < (x531002_1.length : Int)) = true := decide_eq_true c109
                 clear c109
                 obtain ⟨y559, hy559⟩ : ∃ y_ : List Int, y_ = (x531002_1.set (x4_1 : Int).toNat x5_2) := ⟨_, rfl⟩
                 replace H : (dowelref20_tables.l0 k2 l0 (wrap64 (x4_1 + 1)) x531000_1 y556 y559) = some (r1, r2, r3) := by first | (rw [hy559]; with_reducible exact H) | (have H2_ := (Option.bind_some _ _).symm.trans H; rw [hy559]; with_reducible exact H2_) | (have H2_ := (Option.bind_some _ _).symm.trans H; with_reducible exact H2_) | with_reducible exact H | (rw [hy559]; exact H) | exact H
                 have Ny559 := Aside0.mk hy559; clear hy559
                 have H' := Aside0.mk H
                 clear H
                 try go_wp2
                 have n0_ := Aside0.mk (Kd.R_drew HO_531000.out)
                 have n1_ := Aside0.mk (Kd.R_drew HO_531001.out)
                 have n2_ := Aside0.mk (Kd.R_drew HO_531002.out)
                 have n3_ := Aside0.mk (blk_drew BK526.out)
                 have n4_ := Aside0.mk (blk_drew BK530.out)
                 have n5_ := Aside0.mk (below_drew1 HB.out)
                 clear HO_531000; clear HO_531001; clear HO_531002; clear BK526; clear BK530; clear HB
                 have HO_531000 := n0_
                 have HO_531001 := n1_
                 have HO_531002 := n2_
                 have BK526 := n3_
                 have BK530 := n4_
                 have HB := n5_
                 clear n0_ n1_ n2_ n3_ n4_ n5_
                 obtain ⟨Ao112, co112, eo112⟩ := Kd.R_slice HO_531001.out
                 (first | subst eo112 | (injection eo112 with f1_ f2_ f3_; have f4_ := f1_.symm; have f5_ := f3_.symm; clear f1_ f2_ f3_; subst f4_; subst f5_))
                 refine start_ (n := 18) (S := fun w' => w'.cell? ⟨gb530, 0, none⟩ = some (u531000) ∧ w'.cell? ⟨gb530, 1, none⟩ = some (.slice Ao112 x531001_1.length co112) ∧ w'.cell? ⟨gb530, 2, none⟩ = some (u531002)) (ds := []) #[false,false,false,false,false,false,false,false,false,false,false,false,false,false,false,false,false,false] (by kernel_rfl) rfl rfl ⟨(blk_cell BK530.out 0).trans rfl, (blk_cell BK530.out 1).trans rfl, (blk_cell BK530.out 2).trans rfl⟩ (fun hHeld => ?_); refine with_tabW dowelref20_tables.tab13 dowelref20_tables.bits13 (fun HT_ HW_ => ?_)
                 generalize wr.drew = w111 at HO_531000 HO_531001 HO_531002 BK526 BK530 HB hHeld ⊢
                 refine pure_ (i := 0) (N := some 61) (v := ?_) (a' := ?_) #[true,false,false,false,false,false,false,false,false,false,false,false,false,false,false,false,false,false] rfl rfl (any_of HT_.out (by kernel_rfl)) (fun _ _ _ h => h) (Or.inl ⟨by rfl, ?_⟩) ?_ ?_
                 rotate_left; (· intro w'; go_simp; with_reducible rfl); rotate_left; (· simp only [Act.put, sqa, sqb, sqc, i64_w, i32_w]; rfl)
                 refine pure_ (i := 1) (N := some 62) (v := ?_) (a' := ?_) #[true,true,false,false,false,false,false,false,false,false,false,false,false,false,false,false,false,false] rfl rfl (any_of HT_.out (by kernel_rfl)) (fun _ _ _ h => h) (Or.inl ⟨by rfl, ?_⟩) ?_ ?_
                 rotate_left; (· intro w'; go_simp; with_reducible rfl); rotate_left; (· simp only [Act.put, sqa, sqb, sqc, i64_w, i32_w]; rfl)
                 refine take_ (i := 2) (N := some 63) (v := ?_) (a' := ?_) #[true,true,true,false,false,false,false,false,false,false,false,false,false,false,false,false,false,false] rfl rfl (take_ofW HT_.out HW_.out (by kernel_rfl)) (fun _ _ _ h => h) (Or.inl ⟨by rfl, ?_⟩) hHeld ?_ ?_
                 rotate_left; (· rintro w' ⟨s0, s1, s2⟩; go_simp; with_reducible rfl); rotate_left; (· simp only [Act.put, sqa, sqb, sqc, i64_w, i32_w]; rfl)
                 refine pure_ (i := 3) (N := some 64) (v := ?_) (a' := ?_) #[true,true,true,true,false,false,false,false,false,false,false,false,false,false,false,false,false,false] rfl rfl (any_of HT_.out (by kernel_rfl)) (fun _ _ _ h => h) (Or.inl ⟨by rfl, ?_⟩) ?_ ?_
                 rotate_left; (· intro w'; go_simp; with_reducible rfl); rotate_left; (· simp only [Act.put, sqa, sqb, sqc, i64_w, i32_w]; rfl)
                 refine pure_ (i := 4) (N := some 65) (v := ?_) (a' := ?_) #[true,true,true,true,true,false,false,false,false,false,false,false,false,false,false,false,false,false] rfl rfl (any_of HT_.out (by kernel_rfl)) (fun _ _ _ h => h) (Or.inl ⟨by rfl, ?_⟩) ?_ ?_
                 rotate_left; (· intro w'; go_simp; with_reducible rfl); rotate_left; (· simp only [Act.put, sqa, sqb, sqc, i64_w, i32_w]; rfl)
                 refine pure_ (i := 5) (N := some 66) (v := ?_) (a' := ?_) #[true,true,true,true,true,true,false,false,false,false,false,false,false,false,false,false,false,false] rfl rfl (any_of HT_.out (by kernel_rfl)) (fun _ _ _ h => h) (Or.inl ⟨by rfl, ?_⟩) ?_ ?_
                 rotate_left; (· intro w'; go_simp; with_reducible rfl); rotate_left; (· simp only [Act.put, sqa, sqb, sqc, i64_w, i32_w]; rfl)
                 refine pure_ (i := 6) (N := some 67) (v := undef) (a' := ?_) #[true,true,true,true,true,true,true,false,false,false,false,false,false,false,false,false,false,false] rfl rfl (any_of HT_.out (by kernel_rfl)) (fun _ _ _ h => h) (Or.inr ⟨by rfl, rfl⟩) ?_ ?_
                 rotate_left; (· simp only [Act.put, sqa, sqb, sqc, i64_w, i32_w]; rfl)
                 refine pure_ (i := 7) (N := some 68) (v := undef) (a' := ?_) #[true,true,true,true,true,true,true,true,false,false,false,false,false,false,false,false,false,false] rfl rfl (any_of HT_.out (by kernel_rfl)) (fun _ _ _ h => h) (Or.inr ⟨by rfl, rfl⟩) ?_ ?_
                 rotate_left; (· simp only [Act.put, sqa, sqb, sqc, i64_w, i32_w]; rfl)
                 refine pure_ (i := 8) (N := some 69) (v := undef) (a' := ?_) #[true,true,true,true,true,true,true,true,true,false,false,false,false,false,false,false,false,false] rfl rfl (any_of HT_.out (by kernel_rfl)) (fun _ _ _ h => h) (Or.inr ⟨by rfl, rfl⟩) ?_ ?_
                 rotate_left; (· simp only [Act.put, sqa, sqb, sqc, i64_w, i32_w]; rfl)
                 refine pure_ (i := 9) (N := some 70) (v := undef) (a' := ?_) #[true,true,true,true,true,true,true,true,true,true,false,false,false,false,false,false,false,false] rfl rfl (any_of HT_.out (by kernel_rfl)) (fun _ _ _ h => h) (Or.inr ⟨by rfl, rfl⟩) ?_ ?_
                 rotate_left; (· simp only [Act.put, sqa, sqb, sqc, i64_w, i32_w]; rfl)
                 refine pure_ (i := 10) (N := some 71) (v := undef) (a' := ?_) #[true,true,true,true,true,true,true,true,true,true,true,false,false,false,false,false,false,false] rfl rfl (any_of HT_.out (by kernel_rfl)) (fun _ _ _ h => h) (Or.inr ⟨by rfl, rfl⟩) ?_ ?_
                 rotate_left; (· simp only [Act.put, sqa, sqb, sqc, i64_w, i32_w]; rfl)
                 refine pure_ (i := 11) (N := some 72) (v := undef) (a' := ?_) #[true,true,true,true,true,true,true,true,true,true,true,true,false,false,false,false,false,false] rfl rfl (any_of HT_.out (by kernel_rfl)) (fun _ _ _ h => h) (Or.inr ⟨by rfl, rfl⟩) ?_ ?_
                 rotate_left; (· simp only [Act.put, sqa, sqb, sqc, i64_w, i32_w]; rfl)
                 refine pure_ (i := 12) (N := some 73) (v := undef) (a' := ?_) #[true,true,true,true,true,true,true,true,true,true,true,true,true,false,false,false,false,false] rfl rfl (any_of HT_.out (by kernel_rfl)) (fun _ _ _ h => h) (Or.inr ⟨by rfl, rfl⟩) ?_ ?_
                 rotate_left; (· simp only [Act.put, sqa, sqb, sqc, i64_w, i32_w]; rfl)
                 refine pure_ (i := 13) (N := some 74) (v := undef) (a' := ?_) #[true,true,true,true,true,true,true,true,true,true,true,true,true,true,false,false,false,false] rfl rfl (any_of HT_.out (by kernel_rfl)) (fun _ _ _ h => h) (Or.inr ⟨by rfl, rfl⟩) ?_ ?_
                 rotate_left; (· simp only [Act.put, sqa, sqb, sqc, i64_w, i32_w]; rfl)
                 refine pure_ (i := 14) (N := some 75) (v := undef) (a' := ?_) #[true,true,true,true,true,true,true,true,true,true,true,true,true,true,true,false,false,false] rfl rfl (any_of HT_.out (by kernel_rfl)) (fun _ _ _ h => h) (Or.inr ⟨by rfl, rfl⟩) ?_ ?_
                 rotate_left; (· simp only [Act.put, sqa, sqb, sqc, i64_w, i32_w]; rfl)
                 refine pure_ (i := 15) (N := some 76) (v := undef) (a' := ?_) #[true,true,true,true,true,true,true,true,true,true,true,true,true,true,true,true,false,false] rfl rfl (any_of HT_.out (by kernel_rfl)) (fun _ _ _ h => h) (Or.inr ⟨by rfl, rfl⟩) ?_ ?_
                 rotate_left; (· simp only [Act.put, sqa, sqb, sqc, i64_w, i32_w]; rfl)
                 refine pure_ (i := 16) (N := some 77) (v := undef) (a' := ?_) #[true,true,true,true,true,true,true,true,true,true,true,true,true,true,true,true,true,false] rfl rfl (any_of HT_.out (by kernel_rfl)) (fun _ _ _ h => h) (Or.inr ⟨by rfl, rfl⟩) ?_ ?_
                 rotate_left; (· simp only [Act.put, sqa, sqb, sqc, i64_w, i32_w]; rfl)
                 refine pure_ (i := 17) (N := some 78) (v := ?_) (a' := ?_) #[true,true,true,true,true,true,true,true,true,true,true,true,true,true,true,true,true,true] rfl rfl (any_of HT_.out (by kernel_rfl)) (fun _ _ _ h => h) (Or.inl ⟨by rfl, ?_⟩) ?_ ?_
                 rotate_left; (· intro w'; go_simp; with_reducible rfl); rotate_left; (· simp only [Act.put, sqa, sqb, sqc, i64_w, i32_w]; rfl)
                 refine done_ (done_of HT_.out (by kernel_rfl)) ?_
                 have hnb113 := NB530_526.out
                 have hnc113 := NB526_530.out
                 have hcz114_0 : w111.cell? ⟨gb530, 0, none⟩ = some (u531000) := (blk_cell BK530.out 0).trans rfl
                 have hcz114_1 : w111.cell? ⟨gb530, 1, none⟩ = some (.slice Ao112 x531001_1.length co112) := (blk_cell BK530.out 1).trans rfl
                 have hcz114_2 : w111.cell? ⟨gb530, 2, none⟩ = some (u531002) := (blk_cell BK530.out 2).trans rfl
                 have hfz114_0 := blk_frozen BK530.out 0
                 have hfz114_1 := blk_frozen BK530.out 1
                 have hfz114_2 := blk_frozen BK530.out 2
                 try go_wp2
                 have n0_ := Aside0.mk (Kd.R_drew HO_531000.out)
                 have n1_ := Aside0.mk (Kd.R_drew HO_531001.out)
                 have n2_ := Aside0.mk (Kd.R_drew HO_531002.out)
                 have n3_ := Aside0.mk (blk_drew BK526.out)
                 have n4_ := Aside0.mk (blk_drew BK530.out)
                 have n5_ := Aside0.mk (below_drew1 HB.out)
                 clear HO_531000; clear HO_531001; clear HO_531002; clear BK526; clear BK530; clear HB
                 have HO_531000 := n0_
                 have HO_531001 := n1_
                 have HO_531002 := n2_
                 have BK526 := n3_
                 have BK530 := n4_
                 have HB := n5_
                 clear n0_ n1_ n2_ n3_ n4_ n5_
                 have p555 : 0 ≤ (x4_1 : Int) := of_decide_eq_true (by first | (with_reducible assumption) | assumption)
                 have q555 : x4_1 < (l0.length : Int) := of_decide_eq_true (by first | (with_reducible assumption) | assumption)
                 obtain ⟨ad555, e555, hx555_0, hx555_1, hx555_2, hx555_3, hx555_4, hx555_5, hx555_6⟩ := at_T78 HR0.out x4_1 p555 q555
                 have hw555_6 := hx555_6
                 have hw555_5 := hx555_5
                 have hw555_4 := hx555_4
                 have hw555_3 := hx555_3
                 have hw555_2 := hx555_2
                 have hw555_1 := hx555_1
                 have hw555_0 := hx555_0
                 obtain rfl : ad531 = ad555 := (by injection e555)
                 replace hx555_0 := (HB.out.cell (sqd w _ hx555_0)).trans hx555_0
                 replace hx555_1 := (HB.out.cell (sqd w _ hx555_1)).trans hx555_1
                 replace hx555_2 := (HB.out.cell (sqd w _ hx555_2)).trans hx555_2
                 replace hx555_3 := (HB.out.cell (sqd w _ hx555_3)).trans hx555_3
                 replace hx555_4 := (HB.out.cell (sqd w _ hx555_4)).trans hx555_4
                 replace hx555_5 := (HB.out.cell (sqd w _ hx555_5)).trans hx555_5
                 replace hx555_6 := (HB.out.cell (sqd w _ hx555_6)).trans hx555_6
                 replace p555 := eq_true p555
                 replace q555 := eq_true q555
                 refine start_ (n := 11) (S := fun w' => w'.cell? ⟨gb530, 0, none⟩ = some (u531000) ∧ w'.cell? ⟨gb530, 1, none⟩ = some (.slice Ao112 x531001_1.length co112) ∧ w'.cell? ⟨gb530, 2, none⟩ = some (u531002) ∧ w'.cell? (ad531.add ((x4_1).toNat * 7)) = some (.int .i64 ((rd_T78 l0 x4_1).f0)) ∧ w'.cell? ⟨(ad531.add ((x4_1).toNat * 7)).block, (ad531.add ((x4_1).toNat * 7)).off + 1, none⟩ = some (.int .i64 ((rd_T78 l0 x4_1).f1)) ∧ w'.cell? ⟨(ad531.add ((x4_1).toNat * 7)).block, (ad531.add ((x4_1).toNat * 7)).off + 2, none⟩ = some (.int .u64 ((rd_T78 l0 x4_1).f2.f0)) ∧ w'.cell? ⟨(ad531.add ((x4_1).toNat * 7)).block, (ad531.add ((x4_1).toNat * 7)).off + 3, none⟩ = some (.int .u64 ((rd_T78 l0 x4_1).f2.f1)) ∧ w'.cell? ⟨(ad531.add ((x4_1).toNat * 7)).block, (ad531.add ((x4_1).toNat * 7)).off + 4, none⟩ = some (.int .u64 ((rd_T78 l0 x4_1).f2.f2)) ∧ w'.cell? ⟨(ad531.add ((x4_1).toNat * 7)).block, (ad531.add ((x4_1).toNat * 7)).off + 5, none⟩ = some (.int .u64 ((rd_T78 l0 x4_1).f2.f3)) ∧ w'.cell? ⟨(ad531.add ((x4_1).toNat * 7)).block, (ad531.add ((x4_1).toNat * 7)).off + 6, none⟩ = some (.string ((rd_T78 l0 x4_1).f3))) (ds := [10]) #[false,false,false,false,false,false,false,false,false,false,false] (by kernel_rfl) rfl rfl ⟨(blk_cell BK530.out 0).trans rfl, (blk_cell BK530.out 1).trans rfl, (blk_cell BK530.out 2).trans rfl, ((HB.out.cell (sqd w _ hw555_0)).trans hw555_0), ((HB.out.cell (sqd w _ hw555_1)).trans hw555_1), ((HB.out.cell (sqd w _ hw555_2)).trans hw555_2), ((HB.out.cell (sqd w _ hw555_3)).trans hw555_3), ((HB.out.cell (sqd w _ hw555_4)).trans hw555_4), ((HB.out.cell (sqd w _ hw555_5)).trans hw555_5), ((HB.out.cell (sqd w _ hw555_6)).trans hw555_6)⟩ (fun hHeld => ?_); refine with_tabW dowelref20_tables.tab16 dowelref20_tables.bits16 (fun HT_ HW_ => ?_)
                 generalize w111.drew = w115 at HO_531000 HO_531001 HO_531002 BK526 BK530 HB hx555_0 hx555_1 hx555_2 hx555_3 hx555_4 hx555_5 hx555_6 hHeld ⊢
                 refine pure_ (i := 0) (N := some 86) (v := ?_) (a' := ?_) #[true,false,false,false,false,false,false,false,false,false,false] rfl rfl (any_of HT_.out (by kernel_rfl)) (fun _ _ _ h => h) (Or.inl ⟨by rfl, ?_⟩) ?_ ?_
                 rotate_left; (· intro w'; go_simp; with_reducible rfl); rotate_left; (· simp only [Act.put, sqa, sqb, sqc, i64_w, i32_w]; rfl)
                 refine pure_ (i := 2) (N := some 88) (v := ?_) (a' := ?_) #[true,false,true,false,false,false,false,false,false,false,false] rfl rfl (any_of HT_.out (by kernel_rfl)) (fun _ _ _ h => h) (Or.inl ⟨by rfl, ?_⟩) ?_ ?_
                 rotate_left; (· intro w'; go_simp; with_reducible rfl); rotate_left; (· simp only [Act.put, sqa, sqb, sqc, i64_w, i32_w]; rfl)
                 refine pure_ (i := 3) (N := some 89) (v := ?_) (a' := ?_) #[true,false,true,true,false,false,false,false,false,false,false] rfl rfl (any_of HT_.out (by kernel_rfl)) (fun _ _ _ h => h) (Or.inl ⟨by rfl, ?_⟩) ?_ ?_
                 rotate_left; (· intro w'; go_simp; with_reducible rfl); rotate_left; (· simp only [Act.put, sqa, sqb, sqc, i64_w, i32_w]; rfl)
                 refine pure_ (i := 4) (N := some 90) (v := ?_) (a' := ?_) #[true,false,true,true,true,false,false,false,false,false,false] rfl rfl (any_of HT_.out (by kernel_rfl)) (fun _ _ _ h => h) (Or.inl ⟨by rfl, ?_⟩) ?_ ?_
                 rotate_left; (· intro w'; go_simp; with_reducible rfl); rotate_left; (· simp only [Act.put, sqa, sqb, sqc, i64_w, i32_w]; rfl)
                 refine pure_ (i := 5) (N := some 91) (v := ?_) (a' := ?_) #[true,false,true,true,true,true,false,false,false,false,false] rfl rfl (any_of HT_.out (by kernel_rfl)) (fun _ _ _ h => h) (Or.inl ⟨by rfl, ?_⟩) ?_ ?_
                 rotate_left; (· intro w'; go_simp; with_reducible rfl); rotate_left; (· simp only [Act.put, sqa, sqb, sqc, i64_w, i32_w]; rfl)
                 refine take_ (i := 1) (N := some 87) (v := ?_) (a' := ?_) #[true,true,true,true,true,true,false,false,false,false,false] rfl rfl (take_ofW HT_.out HW_.out (by kernel_rfl)) (fun _ _ _ h => h) (Or.inl ⟨by rfl, ?_⟩) hHeld ?_ ?_
                 rotate_left; (· rintro w' ⟨s0, s1, s2, s3, s4, s5, s6, s7, s8, s9⟩; go_simp; with_reducible rfl); rotate_left; (· simp only [Act.put, sqa, sqb, sqc, i64_w, i32_w]; rfl)
                 refine take_ (i := 6) (N := some 92) (v := ?_) (a' := ?_) #[true,true,true,true,true,true,true,false,false,false,false] rfl rfl (take_ofW HT_.out HW_.out (by kernel_rfl)) (fun _ _ _ h => h) (Or.inl ⟨by rfl, ?_⟩) hHeld ?_ ?_
                 rotate_left; (· rintro w' ⟨s0, s1, s2, s3, s4, s5, s6, s7, s8, s9⟩; go_simp; with_reducible rfl); rotate_left; (· simp only [Act.put, sqa, sqb, sqc, i64_w, i32_w]; rfl)
                 refine one_ (i := 7) (N := some 93) #[true,true,true,true,true,true,true,true,false,false,false] rfl rfl (one_of HT_.out (by kernel_rfl)) (by decide) (fun K hK => ?_)
                 refine value_ (w1 := ?_) (v := ?_) (by rfl) rfl ?_ ?_
                 rotate_left 2
                 ·go_simp
                  constructor
                  ·rfl
                  ·rfl
                 refine hK.out _ _ ⟨(blk_cell (blk_alloc BK530.out _) 0).trans rfl, (blk_cell (blk_alloc BK530.out _) 1).trans rfl, (blk_cell (blk_alloc BK530.out _) 2).trans rfl, (World.cell?_alloc_lt _ _ _ (sqd _ _ (((HB.out.cell (sqd w _ hw555_0)).trans hw555_0)))).trans (((HB.out.cell (sqd w _ hw555_0)).trans hw555_0)), (World.cell?_alloc_lt _ _ _ (sqd _ _ (((HB.out.cell (sqd w _ hw555_1)).trans hw555_1)))).trans (((HB.out.cell (sqd w _ hw555_1)).trans hw555_1)), (World.cell?_alloc_lt _ _ _ (sqd _ _ (((HB.out.cell (sqd w _ hw555_2)).trans hw555_2)))).trans (((HB.out.cell (sqd w _ hw555_2)).trans hw555_2)), (World.cell?_alloc_lt _ _ _ (sqd _ _ (((HB.out.cell (sqd w _ hw555_3)).trans hw555_3)))).trans (((HB.out.cell (sqd w _ hw555_3)).trans hw555_3)), (World.cell?_alloc_lt _ _ _ (sqd _ _ (((HB.out.cell (sqd w _ hw555_4)).trans hw555_4)))).trans (((HB.out.cell (sqd w _ hw555_4)).trans hw555_4)), (World.cell?_alloc_lt _ _ _ (sqd _ _ (((HB.out.cell (sqd w _ hw555_5)).trans hw555_5)))).trans (((HB.out.cell (sqd w _ hw555_5)).trans hw555_5)), (World.cell?_alloc_lt _ _ _ (sqd _ _ (((HB.out.cell (sqd w _ hw555_6)).trans hw555_6)))).trans (((HB.out.cell (sqd w _ hw555_6)).trans hw555_6))⟩ (fun hHeld => ?_)
                 clear hK K
                 refine norm_ (a' := ?_) ?_ ?_
                 rotate_left
                 ·show Act.put _ (some 93) _ = _
                  simp only [Act.put, sqa, sqb, sqc, i64_w, i32_w]
                  rfl
                 refine one_ (i := 8) (N := some 94) #[true,true,true,true,true,true,true,true,true,false,false] rfl rfl (one_of HT_.out (by kernel_rfl)) (by decide) (fun K hK => ?_)
                 refine Kd.R_append_step Kd.string (w0 := w) w.heap.size (by rfl) (.tmp 87) (.tmp 93) 86 9 (.string ⟨#[]⟩) 16 rfl Try.underlying86 info9 rfl (by decide) (by omega) (.slice Ao112 x531001_1.length co112) x531001_1 ((rd_T78 l0 x4_1).f3) [.string ((rd_T78 l0 x4_1).f3)] (fun _ => True) (fun _ => False) rfl rfl ?aP (fun _ hk => hk.elim) ?aF ?aO ?aB ?aS ?aL ?_
                 (case aP => exact rfl)
                 (case aB => exact (by repeat (first | (with_reducible first | exact HB.out | apply below_alloc | apply pw_below_drewN | apply below_drew1 | refine below_set ?_ GE526.out | refine below_set ?_ GE530.out) | exact HB.out)))
                 (case aF => exact (fun _ _ => trivial))
                 (case aO => exact (by (with_reducible repeat (first | apply Kd.R_alloc | apply Kd.R_drewN | apply Kd.R_drew)); exact HO_531001.out))
                 (case aS => exact (below_size (by repeat (first | (with_reducible first | exact HB.out | apply below_alloc | apply pw_below_drewN | apply below_drew1 | refine below_set ?_ GE526.out | refine below_set ?_ GE530.out) | exact HB.out))))
                 (case aL => have := LMc108.out; omega)
                 intro v557 w116 ho hb hg hat
                 rw [← Ny556.out] at ho
                 have n0_ := Aside0.mk (Kd.R_over' (by (with_reducible repeat (first | apply Kd.R_alloc | apply Kd.R_drewN | apply Kd.R_drew)); exact HO_531000.out) (Kd.R_typed (by (with_reducible repeat (first | apply Kd.R_alloc | apply Kd.R_drewN | apply Kd.R_drew)); exact HO_531001.out)) (by decide) hg)
                 have n1_ := Aside0.mk (Kd.R_over' (by (with_reducible repeat (first | apply Kd.R_alloc | apply Kd.R_drewN | apply Kd.R_drew)); exact HO_531002.out) (Kd.R_typed (by (with_reducible repeat (first | apply Kd.R_alloc | apply Kd.R_drewN | apply Kd.R_drew)); exact HO_531001.out)) (by decide) hg)
                 have n2_ := Aside0.mk (blk_grown (g := gb526) (o := .cells #[.slice none 0 0, .slice none 0 0, .slice none 0 0] 112 (0, 0)) (by (with_reducible repeat (first | refine blk_drewN ?_ _ | refine blk_drew ?_ | refine blk_alloc ?_ _)); exact BK526.out) hg (Kd.R_ne HO_531001.out BK526.out (by decide)))
                 have n3_ := Aside0.mk (blk_grown (g := gb530) (o := .cells #[u531000, .slice Ao112 x531001_1.length co112, u531002] 112 (0, 0)) (by (with_reducible repeat (first | refine blk_drewN ?_ _ | refine blk_drew ?_ | refine blk_alloc ?_ _)); exact BK530.out) hg (Kd.R_ne HO_531001.out BK530.out (by decide)))
                 have n4_ := Aside0.mk (hb)
                 have n5_ := Aside0.mk (ho)
                 clear HO_531000; clear HO_531002; clear BK526; clear BK530; clear HB; clear HO_531001
                 have HO_531000 := n0_
                 have HO_531002 := n1_
                 have BK526 := n2_
                 have BK530 := n3_
                 have HB := n4_
                 have HO558 := n5_
                 clear n0_ n1_ n2_ n3_ n4_ n5_; clear ho hb hg hat
                 obtain ⟨Ao117, co117, eo117⟩ := Kd.R_slice HO558.out
                 (first | subst eo117 | (injection eo117 with f1_ f2_ f3_; have f4_ := f1_.symm; have f5_ := f3_.symm; clear f1_ f2_ f3_; subst f4_; subst f5_))
                 refine hK.out _ _ ⟨(blk_cell BK530.out 0).trans rfl, (blk_cell BK530.out 1).trans rfl, (blk_cell BK530.out 2).trans rfl, ((HB.out.cell (sqd w _ hw555_0)).trans hw555_0), ((HB.out.cell (sqd w _ hw555_1)).trans hw555_1), ((HB.out.cell (sqd w _ hw555_2)).trans hw555_2), ((HB.out.cell (sqd w _ hw555_3)).trans hw555_3), ((HB.out.cell (sqd w _ hw555_4)).trans hw555_4), ((HB.out.cell (sqd w _ hw555_5)).trans hw555_5), ((HB.out.cell (sqd w _ hw555_6)).trans hw555_6)⟩ (fun hHeld => ?_)
                 clear hK K
                 refine norm_ (a' := ?_) ?_ ?_
                 rotate_left
                 ·show Act.put _ (some 94) _ = _
                  simp only [Act.put, sqa, sqb, sqc, i64_w, i32_w]
                  rfl
                 refine pure_ (i := 9) (N := some 95) (v := ?_) (a' := ?_) #[true,true,true,true,true,true,true,true,true,true,false] rfl rfl (any_of HT_.out (by kernel_rfl)) (fun _ _ _ h => h) (Or.inl ⟨by rfl, ?_⟩) ?_ ?_
                 rotate_left; (· intro w'; go_simp; with_reducible rfl); rotate_left; (· simp only [Act.put, sqa, sqb, sqc, i64_w, i32_w]; rfl)
                 refine last_ (i := 10) (N := none) #[true,true,true,true,true,true,true,true,true,true,true] rfl rfl (one_of HT_.out (by kernel_rfl)) (by decide) (fun K hK => ?_)
                 have hs118 : w116.cell? ⟨gb530, 1, none⟩ = some (.slice Ao112 x531001_1.length co112) := (blk_cell BK530.out 1).trans rfl
                 have hfs118 := blk_frozen BK530.out 1
                 have hns118_0 := NB526_530.out
                 have hms118_0 := NB530_526.out
                 refine skip_ (w1 := ?_) (by rfl) rfl ?_ ?_
                 rotate_left
                 ·go_simp
                  rfl
                 refine hK.out _ _ ?_
                 clear hK K
                 refine done_ (done_of HT_.out (by kernel_rfl)) ?_
                 have n0_ : Aside0 (Kd.R k76 76 (w116.setCell ⟨gb530, 1, none⟩ (.slice Ao117 y556.length co117)) w.heap.size (fun _ => True) u531000 x531000_1) := ⟨by (with_reducible repeat (first | apply Kd.R_alloc | apply Kd.R_drewN | apply Kd.R_drew)); exact Kd.R_mono (Kd.R_far (p := ⟨gb530, 1, none⟩) (Kd.R_types HO_531000.out BK530.out (by decide)) (fun _ hk => hk.2) (.slice Ao117 y556.length co117)) (fun _ hk => trivial)⟩
                 have n1_ : Aside0 (Kd.R (Kd.int .i64) 3 (w116.setCell ⟨gb530, 1, none⟩ (.slice Ao117 y556.length co117)) w.heap.size (fun _ => True) u531002 x531002_1) := ⟨by (with_reducible repeat (first | apply Kd.R_alloc | apply Kd.R_drewN | apply Kd.R_drew)); exact Kd.R_mono (Kd.R_far (p := ⟨gb530, 1, none⟩) (Kd.R_types HO_531002.out BK530.out (by decide)) (fun _ hk => hk.2) (.slice Ao117 y556.length co117)) (fun _ hk => trivial)⟩
                 have n2_ : Aside0 (Kd.R Kd.string 9 (w116.setCell ⟨gb530, 1, none⟩ (.slice Ao117 y556.length co117)) w.heap.size (fun _ => True) (.slice Ao117 y556.length co117) y556) := ⟨by (with_reducible repeat (first | apply Kd.R_alloc | apply Kd.R_drewN | apply Kd.R_drew)); exact Kd.R_mono (Kd.R_far (p := ⟨gb530, 1, none⟩) (Kd.R_types HO558.out BK530.out (by decide)) (fun _ hk => hk.2) (.slice Ao117 y556.length co117)) (fun _ hk => trivial)⟩
                 have n3_ : Aside0 ((w116.setCell ⟨gb530, 1, none⟩ (.slice Ao117 y556.length co117)).heap[gb526]? = some (.cells #[.slice none 0 0, .slice none 0 0, .slice none 0 0] 112 (0, 0))) := ⟨by (with_reducible repeat (first | refine blk_drewN ?_ _ | refine blk_drew ?_ | refine blk_alloc ?_ _)); refine blk_far ?_ NB526_530.out _; (with_reducible repeat (first | refine blk_drewN ?_ _ | refine blk_drew ?_ | refine blk_alloc ?_ _)); exact BK526.out⟩
                 have n4_ : Aside0 ((w116.setCell ⟨gb530, 1, none⟩ (.slice Ao117 y556.length co117)).heap[gb530]? = some (.cells #[u531000, .slice Ao117 y556.length co117, u531002] 112 (0, 0))) := ⟨by (with_reducible repeat (first | refine blk_drewN ?_ _ | refine blk_drew ?_ | refine blk_alloc ?_ _)); refine blk_put (cs := #[u531000, .slice Ao112 x531001_1.length co112, u531002]) ?_ 1 _ rfl; (with_reducible repeat (first | refine blk_drewN ?_ _ | refine blk_drew ?_ | refine blk_alloc ?_ _)); exact BK530.out⟩
                 have n5_ : Aside0 (Below w.heap.size w (w116.setCell ⟨gb530, 1, none⟩ (.slice Ao117 y556.length co117))) := ⟨by repeat (first | (with_reducible first | exact HB.out | apply below_alloc | apply pw_below_drewN | apply below_drew1 | refine below_set ?_ GE526.out | refine below_set ?_ GE530.out) | exact HB.out)⟩
                 (try clear HO_531000); (try clear HO_531002); (try clear HO558); (try clear BK526); (try clear BK530); (try clear HB)
                 generalize (w116.setCell ⟨gb530, 1, none⟩ (.slice Ao117 y556.length co117)) = w119 at n0_ n1_ n2_ n3_ n4_ n5_ ⊢
                 have HO_531000 := n0_
                 have HO_531002 := n1_
                 have HO558 := n2_
                 have BK526 := n3_
                 have BK530 := n4_
                 have HB := n5_
                 clear n0_ n1_ n2_ n3_ n4_ n5_
                 have hcz120_0 : w119.cell? ⟨gb530, 0, none⟩ = some (u531000) := (blk_cell BK530.out 0).trans rfl
                 have hcz120_1 : w119.cell? ⟨gb530, 1, none⟩ = some (.slice Ao117 y556.length co117) := (blk_cell BK530.out 1).trans rfl
                 have hcz120_2 : w119.cell? ⟨gb530, 2, none⟩ = some (u531002) := (blk_cell BK530.out 2).trans rfl
                 have hfz120_0 := blk_frozen BK530.out 0
                 have hfz120_1 := blk_frozen BK530.out 1
                 have hfz120_2 := blk_frozen BK530.out 2
                 have p110 : 0 ≤ (x4_1 : Int) := of_decide_eq_true (by first | (with_reducible assumption) | assumption)
                 have q110 : (x4_1 : Int) < ((x531002_1.length : Int) : Int) := of_decide_eq_true (by first | (with_reducible assumption) | assumption)
                 obtain ⟨go110, co110, eo110, gb110, gl110, cl110, HG110⟩ := Kd.R_form HO_531002.out (by omega)
                 (first | cases eo110 | (injection eo110 with ea_ en_ ec_; (first | subst ea_ | (injection ea_ with ea_; subst ea_)); subst ec_; clear en_))
                 have GB110 := Aside0.mk gb110; have GG110 := Aside0.mk HG110; clear gb110 gl110 HG110
                 obtain ⟨hx110_0, hf110_0⟩ := Kd.R_celln 0 HO_531002.out (x4_1 : Int) p110 q110
                 replace p110 := eq_true p110
                 replace q110 := eq_true q110
                 obtain ⟨hy121_, hz121_⟩ := Kd.R_celln 0 HO_531002.out (x4_1 : Int) (of_decide_eq_true (by first | (with_reducible assumption) | assumption)) (of_decide_eq_true (by first | (with_reducible assumption) | assumption))
                 have HP121 := Kd.R_putg HO_531002.out (x4_1 : Int) x5_2
                 try go_wp2_with (first | ((with_reducible refine gate_store (t := 3) (p := 100) rfl ?_); refine store_event (t := 3) (p := 100) (v := ?vo_w122) (w1 := (w119.setCell ⟨go110, (x4_1 : Int).toNat, none⟩ (.int .i64 x5_2))) ?hg ?ho ?hn ?hr ?_; (case ho => rfl); (case hg => rfl); (case hn => rfl); (case hr => first | (go_simp; done) | (go_simp; rfl)); intro w122 hw; have hg : w119.grownBy w122 (some go110) := (by rw [hw]; exact HP121.2); have hp_ : Kd.R (Kd.int .i64) 3 w122 w.heap.size (fun _ => True) (.slice (some ⟨go110, 0, none⟩) x531002_1.length co110) y559 := (by rw [hw, Ny559.out]; exact HP121.1); clear HP121; have n0_ := Aside0.mk (Kd.R_over' (v := (.slice (some ⟨go110, 0, none⟩) x531002_1.length co110)) (by (with_reducible repeat (first | apply Kd.R_alloc | apply Kd.R_drewN | apply Kd.R_drew)); exact HO_531000.out) (Kd.R_typed HO_531002.out) (by decide) hg); have n1_ := Aside0.mk (hp_); have n2_ := Aside0.mk (blk_grown (g := gb526) (o := .cells #[.slice none 0 0, .slice none 0 0, .slice none 0 0] 112 (0, 0)) (by (with_reducible repeat (first | refine blk_drewN ?_ _ | refine blk_drew ?_ | refine blk_alloc ?_ _)); exact BK526.out) hg (Kd.R_ne HO_531002.out BK526.out (by decide))); have n3_ := Aside0.mk (blk_grown (g := gb530) (o := .cells #[u531000, .slice Ao117 y556.length co117, .slice (some ⟨go110, 0, none⟩) x531002_1.length co110] 112 (0, 0)) (by (with_reducible repeat (first | refine blk_drewN ?_ _ | refine blk_drew ?_ | refine blk_alloc ?_ _)); exact BK530.out) hg (Kd.R_ne HO_531002.out BK530.out (by decide))); have n4_ := Aside0.mk (Kd.R_over' (v := (.slice (some ⟨go110, 0, none⟩) x531002_1.length co110)) (by (with_reducible repeat (first | apply Kd.R_alloc | apply Kd.R_drewN | apply Kd.R_drew)); exact HO558.out) (Kd.R_typed HO_531002.out) (by decide) hg); have n5_ := Aside0.mk ((by rw [hw]; exact below_set (HB.out) GB110.out : Below w.heap.size w w122)); clear HO_531000; clear HO_531002; clear BK526; clear BK530; clear HO558; clear HB; have HO_531000 := n0_; have HO_531002 := n1_; have BK526 := n2_; have BK530 := n3_; have HO558 := n4_; have HB := n5_; clear n0_ n1_ n2_ n3_ n4_ n5_; clear hg hw hp_))
                 go_roundg k2
                 case measure => have := HK1.out; have := HK2.out; omega
                 case rel => exact ⟨(wrap64 (x4_1 + 1)), (x531000_1), (y556), (y559), (u531000), (.slice Ao117 y556.length co117), (.slice (some ⟨go110, 0, none⟩) x531002_1.length co110), (by first | rfl | (simp; done) | (simp [*]; done)), H', ⟨by have := HK1.out; have := HK2.out; omega⟩, ⟨by (with_reducible repeat (first | apply Kd.R_alloc | apply Kd.R_drewN | apply Kd.R_drew)); exact HO_531000.out⟩, ⟨by (with_reducible repeat (first | apply Kd.R_alloc | apply Kd.R_drewN | apply Kd.R_drew)); exact HO558.out⟩, ⟨by (with_reducible repeat (first | apply Kd.R_alloc | apply Kd.R_drewN | apply Kd.R_drew)); exact HO_531002.out⟩, ⟨by (with_reducible repeat (first | refine blk_drewN ?_ _ | refine blk_drew ?_ | refine blk_alloc ?_ _)); exact BK526.out⟩, ⟨by (with_reducible repeat (first | refine blk_drewN ?_ _ | refine blk_drew ?_ | refine blk_alloc ?_ _)); exact BK530.out⟩, ⟨by repeat (first | (with_reducible first | exact HB.out | apply below_alloc | apply pw_below_drewN | apply below_drew1 | refine below_set ?_ GE526.out | refine below_set ?_ GE530.out) | exact HB.out)⟩⟩
                ·rw [if_neg c109] at H
                 exact absurd H (by simp)
               ·rw [if_neg c108] at H
                exact absurd H (by simp)
              ·rw [if_neg c107] at H
               exact absurd H (by simp)
             ·rw [if_neg c106] at H
              exact absurd H (by simp)
            ·rw [if_neg c105] at H
             have c105b0 : (x5_2 == (x531001_1.length : Int)) = false := beq_eq_false_iff_ne.mpr c105
             have c105b1 : (x5_2 != (x531001_1.length : Int)) = true := bne_iff_ne.mpr c105
             by_cases c123 : 0 ≤ x4_1
             ·rw [if_pos c123] at H
              have c123b0 : decide (0 ≤ x4_1) = true := decide_eq_true c123
              clear c123
              by_cases c124 : x4_1 < (x531002_1.length : Int)
              ·rw [if_pos c124] at H
               have c124b0 : decide (x4_1 < (x531002_1.length : Int)) = true := decide_eq_true c124
               clear c124
               obtain ⟨y560, hy560⟩ : ∃ y_ : List Int, y_ = (x531002_1.set (x4_1 : Int).toNat x5_2) := ⟨_, rfl⟩
               replace H : (dowelref20_tables.l0 k2 l0 (wrap64 (x4_1 + 1)) x531000_1 x531001_1 y560) = some (r1, r2, r3) := by first | (rw [hy560]; with_reducible exact H) | (have H2_ := (Option.bind_some _ _).symm.trans H; rw [hy560]; with_reducible exact H2_) | (have H2_ := (Option.bind_some _ _).symm.trans H; with_reducible exact H2_) | with_reducible exact H | (rw [hy560]; exact H) | exact H
               have Ny560 := Aside0.mk hy560; clear hy560
               have H' := Aside0.mk H
               clear H
               try go_wp2
               have n0_ := Aside0.mk (Kd.R_drew HO_531000.out)
               have n1_ := Aside0.mk (Kd.R_drew HO_531001.out)
               have n2_ := Aside0.mk (Kd.R_drew HO_531002.out)
               have n3_ := Aside0.mk (blk_drew BK526.out)
               have n4_ := Aside0.mk (blk_drew BK530.out)
               have n5_ := Aside0.mk (below_drew1 HB.out)
               clear HO_531000; clear HO_531001; clear HO_531002; clear BK526; clear BK530; clear HB
               have HO_531000 := n0_
               have HO_531001 := n1_
               have HO_531002 := n2_
               have BK526 := n3_
               have BK530 := n4_
               have HB := n5_
               clear n0_ n1_ n2_ n3_ n4_ n5_
               obtain ⟨Ao127, co127, eo127⟩ := Kd.R_slice HO_531001.out
               (first | subst eo127 | (injection eo127 with f1_ f2_ f3_; have f4_ := f1_.symm; have f5_ := f3_.symm; clear f1_ f2_ f3_; subst f4_; subst f5_))
               refine start_ (n := 18) (S := fun w' => w'.cell? ⟨gb530, 0, none⟩ = some (u531000) ∧ w'.cell? ⟨gb530, 1, none⟩ = some (.slice Ao127 x531001_1.length co127) ∧ w'.cell? ⟨gb530, 2, none⟩ = some (u531002)) (ds := []) #[false,false,false,false,false,false,false,false,false,false,false,false,false,false,false,false,false,false] (by kernel_rfl) rfl rfl ⟨(blk_cell BK530.out 0).trans rfl, (blk_cell BK530.out 1).trans rfl, (blk_cell BK530.out 2).trans rfl⟩ (fun hHeld => ?_); refine with_tabW dowelref20_tables.tab13 dowelref20_tables.bits13 (fun HT_ HW_ => ?_)
               generalize wr.drew = w126 at HO_531000 HO_531001 HO_531002 BK526 BK530 HB hHeld ⊢
               refine pure_ (i := 0) (N := some 61) (v := ?_) (a' := ?_) #[true,false,false,false,false,false,false,false,false,false,false,false,false,false,false,false,false,false] rfl rfl (any_of HT_.out (by kernel_rfl)) (fun _ _ _ h => h) (Or.inl ⟨by rfl, ?_⟩) ?_ ?_
               rotate_left; (· intro w'; go_simp; with_reducible rfl); rotate_left; (· simp only [Act.put, sqa, sqb, sqc, i64_w, i32_w]; rfl)
               refine pure_ (i := 1) (N := some 62) (v := ?_) (a' := ?_) #[true,true,false,false,false,false,false,false,false,false,false,false,false,false,false,false,false,false] rfl rfl (any_of HT_.out (by kernel_rfl)) (fun _ _ _ h => h) (Or.inl ⟨by rfl, ?_⟩) ?_ ?_
               rotate_left; (· intro w'; go_simp; with_reducible rfl); rotate_left; (· simp only [Act.put, sqa, sqb, sqc, i64_w, i32_w]; rfl)
               refine take_ (i := 2) (N := some 63) (v := ?_) (a' := ?_) #[true,true,true,false,false,false,false,false,false,false,false,false,false,false,false,false,false,false] rfl rfl (take_ofW HT_.out HW_.out (by kernel_rfl)) (fun _ _ _ h => h) (Or.inl ⟨by rfl, ?_⟩) hHeld ?_ ?_
               rotate_left; (· rintro w' ⟨s0, s1, s2⟩; go_simp; with_reducible rfl); rotate_left; (· simp only [Act.put, sqa, sqb, sqc, i64_w, i32_w]; rfl)
               refine pure_ (i := 3) (N := some 64) (v := ?_) (a' := ?_) #[true,true,true,true,false,false,false,false,false,false,false,false,false,false,false,false,false,false] rfl rfl (any_of HT_.out (by kernel_rfl)) (fun _ _ _ h => h) (Or.inl ⟨by rfl, ?_⟩) ?_ ?_
               rotate_left; (· intro w'; go_simp; with_reducible rfl); rotate_left; (· simp only [Act.put, sqa, sqb, sqc, i64_w, i32_w]; rfl)
               refine pure_ (i := 4) (N := some 65) (v := ?_) (a' := ?_) #[true,true,true,true,true,false,false,false,false,false,false,false,false,false,false,false,false,false] rfl rfl (any_of HT_.out (by kernel_rfl)) (fun _ _ _ h => h) (Or.inl ⟨by rfl, ?_⟩) ?_ ?_
               rotate_left; (· intro w'; go_simp; with_reducible rfl); rotate_left; (· simp only [Act.put, sqa, sqb, sqc, i64_w, i32_w]; rfl)
               refine pure_ (i := 5) (N := some 66) (v := ?_) (a' := ?_) #[true,true,true,true,true,true,false,false,false,false,false,false,false,false,false,false,false,false] rfl rfl (any_of HT_.out (by kernel_rfl)) (fun _ _ _ h => h) (Or.inl ⟨by rfl, ?_⟩) ?_ ?_
               rotate_left; (· intro w'; go_simp; with_reducible rfl); rotate_left; (· simp only [Act.put, sqa, sqb, sqc, i64_w, i32_w]; rfl)
               refine pure_ (i := 6) (N := some 67) (v := undef) (a' := ?_) #[true,true,true,true,true,true,true,false,false,false,false,false,false,false,false,false,false,false] rfl rfl (any_of HT_.out (by kernel_rfl)) (fun _ _ _ h => h) (Or.inr ⟨by rfl, rfl⟩) ?_ ?_
               rotate_left; (· simp only [Act.put, sqa, sqb, sqc, i64_w, i32_w]; rfl)
               refine pure_ (i := 7) (N := some 68) (v := undef) (a' := ?_) #[true,true,true,true,true,true,true,true,false,false,false,false,false,false,false,false,false,false] rfl rfl (any_of HT_.out (by kernel_rfl)) (fun _ _ _ h => h) (Or.inr ⟨by rfl, rfl⟩) ?_ ?_
               rotate_left; (· simp only [Act.put, sqa, sqb, sqc, i64_w, i32_w]; rfl)
               refine pure_ (i := 8) (N := some 69) (v := undef) (a' := ?_) #[true,true,true,true,true,true,true,true,true,false,false,false,false,false,false,false,false,false] rfl rfl (any_of HT_.out (by kernel_rfl)) (fun _ _ _ h => h) (Or.inr ⟨by rfl, rfl⟩) ?_ ?_
               rotate_left; (· simp only [Act.put, sqa, sqb, sqc, i64_w, i32_w]; rfl)
               refine pure_ (i := 9) (N := some 70) (v := undef) (a' := ?_) #[true,true,true,true,true,true,true,true,true,true,false,false,false,false,false,false,false,false] rfl rfl (any_of HT_.out (by kernel_rfl)) (fun _ _ _ h => h) (Or.inr ⟨by rfl, rfl⟩) ?_ ?_
               rotate_left; (· simp only [Act.put, sqa, sqb, sqc, i64_w, i32_w]; rfl)
               refine pure_ (i := 10) (N := some 71) (v := undef) (a' := ?_) #[true,true,true,true,true,true,true,true,true,true,true,false,false,false,false,false,false,false] rfl rfl (any_of HT_.out (by kernel_rfl)) (fun _ _ _ h => h) (Or.inr ⟨by rfl, rfl⟩) ?_ ?_
               rotate_left; (· simp only [Act.put, sqa, sqb, sqc, i64_w, i32_w]; rfl)
               refine pure_ (i := 11) (N := some 72) (v := undef) (a' := ?_) #[true,true,true,true,true,true,true,true,true,true,true,true,false,false,false,false,false,false] rfl rfl (any_of HT_.out (by kernel_rfl)) (fun _ _ _ h => h) (Or.inr ⟨by rfl, rfl⟩) ?_ ?_
               rotate_left; (· simp only [Act.put, sqa, sqb, sqc, i64_w, i32_w]; rfl)
               refine pure_ (i := 12) (N := some 73) (v := undef) (a' := ?_) #[true,true,true,true,true,true,true,true,true,true,true,true,true,false,false,false,false,false] rfl rfl (any_of HT_.out (by kernel_rfl)) (fun _ _ _ h => h) (Or.inr ⟨by rfl, rfl⟩) ?_ ?_
               rotate_left; (· simp only [Act.put, sqa, sqb, sqc, i64_w, i32_w]; rfl)
               refine pure_ (i := 13) (N := some 74) (v := undef) (a' := ?_) #[true,true,true,true,true,true,true,true,true,true,true,true,true,true,false,false,false,false] rfl rfl (any_of HT_.out (by kernel_rfl)) (fun _ _ _ h => h) (Or.inr ⟨by rfl, rfl⟩) ?_ ?_
               rotate_left; (· simp only [Act.put, sqa, sqb, sqc, i64_w, i32_w]; rfl)
               refine pure_ (i := 14) (N := some 75) (v := undef) (a' := ?_) #[true,true,true,true,true,true,true,true,true,true,true,true,true,true,true,false,false,false] rfl rfl (any_of HT_.out (by kernel_rfl)) (fun _ _ _ h => h) (Or.inr ⟨by rfl, rfl⟩) ?_ ?_
               rotate_left; (· simp only [Act.put, sqa, sqb, sqc, i64_w, i32_w]; rfl)
               refine pure_ (i := 15) (N := some 76) (v := undef) (a' := ?_) #[true,true,true,true,true,true,true,true,true,true,true,true,true,true,true,true,false,false] rfl rfl (any_of HT_.out (by kernel_rfl)) (fun _ _ _ h => h) (Or.inr ⟨by rfl, rfl⟩) ?_ ?_
               rotate_left; (· simp only [Act.put, sqa, sqb, sqc, i64_w, i32_w]; rfl)
               refine pure_ (i := 16) (N := some 77) (v := undef) (a' := ?_) #[true,true,true,true,true,true,true,true,true,true,true,true,true,true,true,true,true,false] rfl rfl (any_of HT_.out (by kernel_rfl)) (fun _ _ _ h => h) (Or.inr ⟨by rfl, rfl⟩) ?_ ?_
               rotate_left; (· simp only [Act.put, sqa, sqb, sqc, i64_w, i32_w]; rfl)
               refine pure_ (i := 17) (N := some 78) (v := ?_) (a' := ?_) #[true,true,true,true,true,true,true,true,true,true,true,true,true,true,true,true,true,true] rfl rfl (any_of HT_.out (by kernel_rfl)) (fun _ _ _ h => h) (Or.inl ⟨by rfl, ?_⟩) ?_ ?_
               rotate_left; (· intro w'; go_simp; with_reducible rfl); rotate_left; (· simp only [Act.put, sqa, sqb, sqc, i64_w, i32_w]; rfl)
               refine done_ (done_of HT_.out (by kernel_rfl)) ?_
               have hnb128 := NB530_526.out
               have hnc128 := NB526_530.out
               have hcz129_0 : w126.cell? ⟨gb530, 0, none⟩ = some (u531000) := (blk_cell BK530.out 0).trans rfl
               have hcz129_1 : w126.cell? ⟨gb530, 1, none⟩ = some (.slice Ao127 x531001_1.length co127) := (blk_cell BK530.out 1).trans rfl
               have hcz129_2 : w126.cell? ⟨gb530, 2, none⟩ = some (u531002) := (blk_cell BK530.out 2).trans rfl
               have hfz129_0 := blk_frozen BK530.out 0
               have hfz129_1 := blk_frozen BK530.out 1
               have hfz129_2 := blk_frozen BK530.out 2
               have p125 : 0 ≤ (x4_1 : Int) := of_decide_eq_true (by first | (with_reducible assumption) | assumption)
               have q125 : (x4_1 : Int) < ((x531002_1.length : Int) : Int) := of_decide_eq_true (by first | (with_reducible assumption) | assumption)
               obtain ⟨go125, co125, eo125, gb125, gl125, cl125, HG125⟩ := Kd.R_form HO_531002.out (by omega)
               (first | cases eo125 | (injection eo125 with ea_ en_ ec_; (first | subst ea_ | (injection ea_ with ea_; subst ea_)); subst ec_; clear en_))
               have GB125 := Aside0.mk gb125; have GG125 := Aside0.mk HG125; clear gb125 gl125 HG125
               obtain ⟨hx125_0, hf125_0⟩ := Kd.R_celln 0 HO_531002.out (x4_1 : Int) p125 q125
               replace p125 := eq_true p125
               replace q125 := eq_true q125
               obtain ⟨hy130_, hz130_⟩ := Kd.R_celln 0 HO_531002.out (x4_1 : Int) (of_decide_eq_true (by first | (with_reducible assumption) | assumption)) (of_decide_eq_true (by first | (with_reducible assumption) | assumption))
               have HP130 := Kd.R_putg HO_531002.out (x4_1 : Int) x5_2
               try go_wp2_with (first | ((with_reducible refine gate_store (t := 3) (p := 100) rfl ?_); refine store_event (t := 3) (p := 100) (v := ?vo_w131) (w1 := (w126.setCell ⟨go125, (x4_1 : Int).toNat, none⟩ (.int .i64 x5_2))) ?hg ?ho ?hn ?hr ?_; (case ho => rfl); (case hg => rfl); (case hn => rfl); (case hr => first | (go_simp; done) | (go_simp; rfl)); intro w131 hw; have hg : w126.grownBy w131 (some go125) := (by rw [hw]; exact HP130.2); have hp_ : Kd.R (Kd.int .i64) 3 w131 w.heap.size (fun _ => True) (.slice (some ⟨go125, 0, none⟩) x531002_1.length co125) y560 := (by rw [hw, Ny560.out]; exact HP130.1); clear HP130; have n0_ := Aside0.mk (Kd.R_over' (v := (.slice (some ⟨go125, 0, none⟩) x531002_1.length co125)) (by (with_reducible repeat (first | apply Kd.R_alloc | apply Kd.R_drewN | apply Kd.R_drew)); exact HO_531000.out) (Kd.R_typed HO_531002.out) (by decide) hg); have n1_ := Aside0.mk (Kd.R_over' (v := (.slice (some ⟨go125, 0, none⟩) x531002_1.length co125)) (by (with_reducible repeat (first | apply Kd.R_alloc | apply Kd.R_drewN | apply Kd.R_drew)); exact HO_531001.out) (Kd.R_typed HO_531002.out) (by decide) hg); have n2_ := Aside0.mk (hp_); have n3_ := Aside0.mk (blk_grown (g := gb526) (o := .cells #[.slice none 0 0, .slice none 0 0, .slice none 0 0] 112 (0, 0)) (by (with_reducible repeat (first | refine blk_drewN ?_ _ | refine blk_drew ?_ | refine blk_alloc ?_ _)); exact BK526.out) hg (Kd.R_ne HO_531002.out BK526.out (by decide))); have n4_ := Aside0.mk (blk_grown (g := gb530) (o := .cells #[u531000, .slice Ao127 x531001_1.length co127, .slice (some ⟨go125, 0, none⟩) x531002_1.length co125] 112 (0, 0)) (by (with_reducible repeat (first | refine blk_drewN ?_ _ | refine blk_drew ?_ | refine blk_alloc ?_ _)); exact BK530.out) hg (Kd.R_ne HO_531002.out BK530.out (by decide))); have n5_ := Aside0.mk ((by rw [hw]; exact below_set (HB.out) GB125.out : Below w.heap.size w w131)); clear HO_531000; clear HO_531001; clear HO_531002; clear BK526; clear BK530; clear HB; have HO_531000 := n0_; have HO_531001 := n1_; have HO_531002 := n2_; have BK526 := n3_; have BK530 := n4_; have HB := n5_; clear n0_ n1_ n2_ n3_ n4_ n5_; clear hg hw hp_))
               go_roundg k2
               case measure => have := HK1.out; have := HK2.out; omega
               case rel => exact ⟨(wrap64 (x4_1 + 1)), (x531000_1), (x531001_1), (y560), (u531000), (.slice Ao127 x531001_1.length co127), (.slice (some ⟨go125, 0, none⟩) x531002_1.length co125), (by first | rfl | (simp; done) | (simp [*]; done)), H', ⟨by have := HK1.out; have := HK2.out; omega⟩, ⟨by (with_reducible repeat (first | apply Kd.R_alloc | apply Kd.R_drewN | apply Kd.R_drew)); exact HO_531000.out⟩, ⟨by (with_reducible repeat (first | apply Kd.R_alloc | apply Kd.R_drewN | apply Kd.R_drew)); exact HO_531001.out⟩, ⟨by (with_reducible repeat (first | apply Kd.R_alloc | apply Kd.R_drewN | apply Kd.R_drew)); exact HO_531002.out⟩, ⟨by (with_reducible repeat (first | refine blk_drewN ?_ _ | refine blk_drew ?_ | refine blk_alloc ?_ _)); exact BK526.out⟩, ⟨by (with_reducible repeat (first | refine blk_drewN ?_ _ | refine blk_drew ?_ | refine blk_alloc ?_ _)); exact BK530.out⟩, ⟨by repeat (first | (with_reducible first | exact HB.out | apply below_alloc | apply pw_below_drewN | apply below_drew1 | refine below_set ?_ GE526.out | refine below_set ?_ GE530.out) | exact HB.out)⟩⟩
              ·rw [if_neg c124] at H
               exact absurd H (by simp)
             ·rw [if_neg c123] at H
              exact absurd H (by simp)
        ·rw [if_neg c73] at H
         have c73b0 : (t532 == 3) = false := beq_eq_false_iff_ne.mpr c73
         have c73b1 : (t532 != 3) = true := bne_iff_ne.mpr c73
         by_cases c132 : x4_1 < (x531002_1.length : Int)
         ·rw [if_pos c132] at H
          have c132b0 : decide (x4_1 < (x531002_1.length : Int)) = true := decide_eq_true c132
          clear c132
          obtain ⟨y561, hy561⟩ : ∃ y_ : List Int, y_ = (x531002_1.set (x4_1 : Int).toNat 0) := ⟨_, rfl⟩
          replace H : (dowelref20_tables.l0 k1 l0 (wrap64 (x4_1 + 1)) x531000_1 x531001_1 y561) = some (r1, r2, r3) := by first | (rw [hy561]; with_reducible exact H) | (have H2_ := (Option.bind_some _ _).symm.trans H; rw [hy561]; with_reducible exact H2_) | (have H2_ := (Option.bind_some _ _).symm.trans H; with_reducible exact H2_) | with_reducible exact H | (rw [hy561]; exact H) | exact H
          have Ny561 := Aside0.mk hy561; clear hy561
          have H' := Aside0.mk H
          clear H
          have p531 : 0 ≤ (x4_1 : Int) := of_decide_eq_true (by first | (with_reducible assumption) | assumption)
          have q531 : x4_1 < (l0.length : Int) := of_decide_eq_true (by first | (with_reducible assumption) | assumption)
          obtain ⟨ad531, e531, hx531_0, hx531_1, hx531_2, hx531_3, hx531_4, hx531_5, hx531_6⟩ := at_T78 HR0.out x4_1 p531 q531
          cases e531
          replace hx531_0 := (HB.out.cell (sqd w _ hx531_0)).trans hx531_0
          replace hx531_1 := (HB.out.cell (sqd w _ hx531_1)).trans hx531_1
          replace hx531_2 := (HB.out.cell (sqd w _ hx531_2)).trans hx531_2
          replace hx531_3 := (HB.out.cell (sqd w _ hx531_3)).trans hx531_3
          replace hx531_4 := (HB.out.cell (sqd w _ hx531_4)).trans hx531_4
          replace hx531_5 := (HB.out.cell (sqd w _ hx531_5)).trans hx531_5
          replace hx531_6 := (HB.out.cell (sqd w _ hx531_6)).trans hx531_6
          replace p531 := eq_true p531
          replace q531 := eq_true q531
          go_wp2_with (first | ((with_reducible refine gate_callee (f := 80) rfl ?_); refine goesL_ (some 21) rfl rfl Try.func80 (by kernel_rfl) rfl #[.int .i64 ((rd_T78 l0 x4_1).f0)] rfl (by (try simp only [List.map_toArray, List.map_cons, List.map_nil]); first | done | rfl | (simp only [List.length_drop, List.length_take]; rfl)) ?_; (with_reducible refine (dowelref20_kind.calls k1 ((rd_T78 l0 x4_1).f0) t532 _ A13.out).mono ?_); rintro e w' ⟨rfl, ⟨nd, rfl⟩⟩; refine ⟨_, rfl, ?_⟩; (try (rw [drewN_self wr]; generalize hq_ : World.drewN wr _ = wr; have n0_ : Aside0 (Kd.R k76 76 wr w.heap.size (fun _ => True) u531000 x531000_1) := ⟨by rw [← hq_]; exact (by (with_reducible repeat (first | apply Kd.R_alloc | apply Kd.R_drewN | apply Kd.R_drew)); exact HO_531000.out)⟩; have n1_ : Aside0 (Kd.R Kd.string 9 wr w.heap.size (fun _ => True) u531001 x531001_1) := ⟨by rw [← hq_]; exact (by (with_reducible repeat (first | apply Kd.R_alloc | apply Kd.R_drewN | apply Kd.R_drew)); exact HO_531001.out)⟩; have n2_ : Aside0 (Kd.R (Kd.int .i64) 3 wr w.heap.size (fun _ => True) u531002 x531002_1) := ⟨by rw [← hq_]; exact (by (with_reducible repeat (first | apply Kd.R_alloc | apply Kd.R_drewN | apply Kd.R_drew)); exact HO_531002.out)⟩; have n3_ : Aside0 (wr.heap[gb526]? = some (.cells #[.slice none 0 0, .slice none 0 0, .slice none 0 0] 112 (0, 0))) := ⟨by rw [← hq_]; exact (by (with_reducible repeat (first | refine blk_drewN ?_ _ | refine blk_drew ?_ | refine blk_alloc ?_ _)); exact BK526.out)⟩; have n4_ : Aside0 (wr.heap[gb530]? = some (.cells #[u531000, u531001, u531002] 112 (0, 0))) := ⟨by rw [← hq_]; exact (by (with_reducible repeat (first | refine blk_drewN ?_ _ | refine blk_drew ?_ | refine blk_alloc ?_ _)); exact BK530.out)⟩; have n5_ : Aside0 (Below w.heap.size w wr) := ⟨by rw [← hq_]; exact (by repeat (first | (with_reducible first | exact HB.out | apply below_alloc | apply pw_below_drewN | apply below_drew1 | refine below_set ?_ GE526.out | refine below_set ?_ GE530.out) | exact HB.out))⟩; clear HO_531000 HO_531001 HO_531002 BK526 BK530 HB hq_; have HO_531000 := n0_; have HO_531001 := n1_; have HO_531002 := n2_; have BK526 := n3_; have BK530 := n4_; have HB := n5_; clear n0_ n1_ n2_ n3_ n4_ n5_)); have hnb134 := NB530_526.out; have hnc134 := NB526_530.out; have hcz135_0 : wr.cell? ⟨gb530, 0, none⟩ = some (u531000) := (blk_cell BK530.out 0).trans rfl; have hcz135_1 : wr.cell? ⟨gb530, 1, none⟩ = some (u531001) := (blk_cell BK530.out 1).trans rfl; have hcz135_2 : wr.cell? ⟨gb530, 2, none⟩ = some (u531002) := (blk_cell BK530.out 2).trans rfl; have hfz135_0 := blk_frozen BK530.out 0; have hfz135_1 := blk_frozen BK530.out 1; have hfz135_2 := blk_frozen BK530.out 2; have p133 : 0 ≤ (x4_1 : Int) := of_decide_eq_true (by first | (with_reducible assumption) | assumption); have q133 : (x4_1 : Int) < ((x531002_1.length : Int) : Int) := of_decide_eq_true (by first | (with_reducible assumption) | assumption); obtain ⟨go133, co133, eo133, gb133, gl133, cl133, HG133⟩ := Kd.R_form HO_531002.out (by omega); (first | cases eo133 | (injection eo133 with ea_ en_ ec_; (first | subst ea_ | (injection ea_ with ea_; subst ea_)); subst ec_; clear en_)); have GB133 := Aside0.mk gb133; have GG133 := Aside0.mk HG133; clear gb133 gl133 HG133; obtain ⟨hx133_0, hf133_0⟩ := Kd.R_celln 0 HO_531002.out (x4_1 : Int) p133 q133; replace p133 := eq_true p133; replace q133 := eq_true q133; obtain ⟨hy136_, hz136_⟩ := Kd.R_celln 0 HO_531002.out (x4_1 : Int) (of_decide_eq_true (by first | (with_reducible assumption) | assumption)) (of_decide_eq_true (by first | (with_reducible assumption) | assumption)); have HP136 := Kd.R_putg HO_531002.out (x4_1 : Int) 0) | ((with_reducible refine gate_store (t := 3) (p := 100) rfl ?_); refine store_event (t := 3) (p := 100) (v := ?vo_w137) (w1 := (wr.setCell ⟨go133, (x4_1 : Int).toNat, none⟩ (.int .i64 0))) ?hg ?ho ?hn ?hr ?_; (case ho => rfl); (case hg => rfl); (case hn => rfl); (case hr => first | (go_simp; done) | (go_simp; rfl)); intro w137 hw; have hg : wr.grownBy w137 (some go133) := (by rw [hw]; exact HP136.2); have hp_ : Kd.R (Kd.int .i64) 3 w137 w.heap.size (fun _ => True) (.slice (some ⟨go133, 0, none⟩) x531002_1.length co133) y561 := (by rw [hw, Ny561.out]; exact HP136.1); clear HP136; have n0_ := Aside0.mk (Kd.R_over' (v := (.slice (some ⟨go133, 0, none⟩) x531002_1.length co133)) (by (with_reducible repeat (first | apply Kd.R_alloc | apply Kd.R_drewN | apply Kd.R_drew)); exact HO_531000.out) (Kd.R_typed HO_531002.out) (by decide) hg); have n1_ := Aside0.mk (Kd.R_over' (v := (.slice (some ⟨go133, 0, none⟩) x531002_1.length co133)) (by (with_reducible repeat (first | apply Kd.R_alloc | apply Kd.R_drewN | apply Kd.R_drew)); exact HO_531001.out) (Kd.R_typed HO_531002.out) (by decide) hg); have n2_ := Aside0.mk (hp_); have n3_ := Aside0.mk (blk_grown (g := gb526) (o := .cells #[.slice none 0 0, .slice none 0 0, .slice none 0 0] 112 (0, 0)) (by (with_reducible repeat (first | refine blk_drewN ?_ _ | refine blk_drew ?_ | refine blk_alloc ?_ _)); exact BK526.out) hg (Kd.R_ne HO_531002.out BK526.out (by decide))); have n4_ := Aside0.mk (blk_grown (g := gb530) (o := .cells #[u531000, u531001, .slice (some ⟨go133, 0, none⟩) x531002_1.length co133] 112 (0, 0)) (by (with_reducible repeat (first | refine blk_drewN ?_ _ | refine blk_drew ?_ | refine blk_alloc ?_ _)); exact BK530.out) hg (Kd.R_ne HO_531002.out BK530.out (by decide))); have n5_ := Aside0.mk ((by rw [hw]; exact below_set (HB.out) GB133.out : Below w.heap.size w w137)); clear HO_531000; clear HO_531001; clear HO_531002; clear BK526; clear BK530; clear HB; have HO_531000 := n0_; have HO_531001 := n1_; have HO_531002 := n2_; have BK526 := n3_; have BK530 := n4_; have HB := n5_; clear n0_ n1_ n2_ n3_ n4_ n5_; clear hg hw hp_))
          go_roundg k1
          case measure => have := HK1.out; omega
          case rel => exact ⟨(wrap64 (x4_1 + 1)), (x531000_1), (x531001_1), (y561), (u531000), (u531001), (.slice (some ⟨go133, 0, none⟩) x531002_1.length co133), (by first | rfl | (simp; done) | (simp [*]; done)), H', ⟨by have := HK1.out; omega⟩, ⟨by (with_reducible repeat (first | apply Kd.R_alloc | apply Kd.R_drewN | apply Kd.R_drew)); exact HO_531000.out⟩, ⟨by (with_reducible repeat (first | apply Kd.R_alloc | apply Kd.R_drewN | apply Kd.R_drew)); exact HO_531001.out⟩, ⟨by (with_reducible repeat (first | apply Kd.R_alloc | apply Kd.R_drewN | apply Kd.R_drew)); exact HO_531002.out⟩, ⟨by (with_reducible repeat (first | refine blk_drewN ?_ _ | refine blk_drew ?_ | refine blk_alloc ?_ _)); exact BK526.out⟩, ⟨by (with_reducible repeat (first | refine blk_drewN ?_ _ | refine blk_drew ?_ | refine blk_alloc ?_ _)); exact BK530.out⟩, ⟨by repeat (first | (with_reducible first | exact HB.out | apply below_alloc | apply pw_below_drewN | apply below_drew1 | refine below_set ?_ GE526.out | refine below_set ?_ GE530.out) | exact HB.out)⟩⟩
         ·rw [if_neg c132] at H
          exact absurd H (by simp)
      ·rw [if_neg c12] at H
       exact absurd H (by simp)
     ·rw [if_neg c11] at H
      have c11b0 : decide (x4_1 < (l0.length : Int)) = false := decide_eq_false c11
      clear c11
      simp only [Option.some.injEq, Prod.mk.injEq] at H
      obtain ⟨rfl, rfl, rfl⟩ := H
      have hnb138 := NB530_526.out
      have hnc138 := NB526_530.out
      have hcz139_0 : wr.cell? ⟨gb530, 0, none⟩ = some (u531000) := (blk_cell BK530.out 0).trans rfl
      have hcz139_1 : wr.cell? ⟨gb530, 1, none⟩ = some (u531001) := (blk_cell BK530.out 1).trans rfl
      have hcz139_2 : wr.cell? ⟨gb530, 2, none⟩ = some (u531002) := (blk_cell BK530.out 2).trans rfl
      have hfz139_0 := blk_frozen BK530.out 0
      have hfz139_1 := blk_frozen BK530.out 1
      have hfz139_2 := blk_frozen BK530.out 2
      obtain ⟨Ao140, co140, eo140⟩ := Kd.R_slice HO_531000.out
      subst eo140
      have hcz141_0 : wr.cell? ⟨gb526, 0, none⟩ = some (.slice none 0 0) := (blk_cell BK526.out 0).trans rfl
      have hcz141_1 : wr.cell? ⟨gb526, 1, none⟩ = some (.slice none 0 0) := (blk_cell BK526.out 1).trans rfl
      have hcz141_2 : wr.cell? ⟨gb526, 2, none⟩ = some (.slice none 0 0) := (blk_cell BK526.out 2).trans rfl
      have hfz141_0 := blk_frozen BK526.out 0
      have hfz141_1 := blk_frozen BK526.out 1
      have hfz141_2 := blk_frozen BK526.out 2
      obtain ⟨Ao142, co142, eo142⟩ := Kd.R_slice HO_531001.out
      subst eo142
      obtain ⟨Ao143, co143, eo143⟩ := Kd.R_slice HO_531002.out
      subst eo143
      go_wp2
      refine bodyPost_ret (results_cell_row rfl _ _ gb526 112 #[.slice Ao140 x531000_1.length co140, .slice Ao142 x531001_1.length co142, .slice Ao143 x531002_1.length co143] (0, 0) _ rfl (by (with_reducible repeat (first | refine blk_drewN ?_ _ | refine blk_drew ?_ | refine blk_alloc ?_ _)); refine blk_put (cs := #[.slice Ao140 x531000_1.length co140, .slice Ao142 x531001_1.length co142, .slice none 0 0]) ?_ 2 _ rfl; (with_reducible repeat (first | refine blk_drewN ?_ _ | refine blk_drew ?_ | refine blk_alloc ?_ _)); refine blk_put (cs := #[.slice Ao140 x531000_1.length co140, .slice none 0 0, .slice none 0 0]) ?_ 1 _ rfl; (with_reducible repeat (first | refine blk_drewN ?_ _ | refine blk_drew ?_ | refine blk_alloc ?_ _)); refine blk_put (cs := #[.slice none 0 0, .slice none 0 0, .slice none 0 0]) ?_ 0 _ rfl; (with_reducible repeat (first | refine blk_drewN ?_ _ | refine blk_drew ?_ | refine blk_alloc ?_ _)); exact BK526.out) Try.underlying112 rfl (by kernel_rfl)) rfl ?_
      exact ⟨_, _, _, by first | rfl | (simp [errW_none, errW_some] <;> rfl) | (simp [*, errW_none, errW_some] <;> rfl), by (with_reducible repeat (first | apply Kd.R_alloc | apply Kd.R_drewN | apply Kd.R_drew)); exact Kd.R_mono (Kd.R_far (p := ⟨gb526, 2, none⟩) (Kd.R_far (p := ⟨gb526, 1, none⟩) (Kd.R_far (p := ⟨gb526, 0, none⟩) (Kd.R_types HO_531000.out BK526.out (by decide)) (fun _ hk => hk.2) (.slice Ao140 x531000_1.length co140)) (fun _ hk => hk.2) (.slice Ao142 x531001_1.length co142)) (fun _ hk => hk.2) (.slice Ao143 x531002_1.length co143)) (fun _ hk => trivial), by (with_reducible repeat (first | apply Kd.R_alloc | apply Kd.R_drewN | apply Kd.R_drew)); exact Kd.R_mono (Kd.R_far (p := ⟨gb526, 2, none⟩) (Kd.R_far (p := ⟨gb526, 1, none⟩) (Kd.R_far (p := ⟨gb526, 0, none⟩) (Kd.R_types HO_531001.out BK526.out (by decide)) (fun _ hk => hk.2) (.slice Ao140 x531000_1.length co140)) (fun _ hk => hk.2) (.slice Ao142 x531001_1.length co142)) (fun _ hk => hk.2) (.slice Ao143 x531002_1.length co143)) (fun _ hk => trivial), by (with_reducible repeat (first | apply Kd.R_alloc | apply Kd.R_drewN | apply Kd.R_drew)); exact Kd.R_mono (Kd.R_far (p := ⟨gb526, 2, none⟩) (Kd.R_far (p := ⟨gb526, 1, none⟩) (Kd.R_far (p := ⟨gb526, 0, none⟩) (Kd.R_types HO_531002.out BK526.out (by decide)) (fun _ hk => hk.2) (.slice Ao140 x531000_1.length co140)) (fun _ hk => hk.2) (.slice Ao142 x531001_1.length co142)) (fun _ hk => hk.2) (.slice Ao143 x531002_1.length co143)) (fun _ hk => trivial), by repeat (first | (with_reducible first | exact HB.out | apply below_alloc | apply pw_below_drewN | apply below_drew1 | refine below_set ?_ GE526.out | refine below_set ?_ GE530.out) | exact HB.out)⟩
  ·rw [if_neg c3] at H
   exact absurd H (by simp)
 ·rw [if_neg c2] at H
  exact absurd H (by simp)
end Go.Proofs.Ytebiogaacikphaa.PAll
end
