/- Parts of the proof of coreOrder: PAllx15. No condition beyond each lemma's own. -/
import Derived.Test.YtihiicjnjhideaaDoorTO5
import Derived.Test.YtihiicjnjhideaaDoorTO6
import Derived.Test.YtihiicjnjhideaaDoorTO8
import Derived.Test.YtihiicjnjhideaaDoorTO32
section
namespace Go.Proofs.YtihiicjnjhideaaDoor.PAll
open Go.RowKit Go.Proofs.YtihiicjnjhideaaDoorW.PrintWords Go.Proofs.YtihiicjnjhideaaDoorW.PrintLast Go.Proofs.YtihiicjnjhideaaDoorW.PrintMore
attribute [local go_sem] max2_int max_two
set_option linter.unusedVariables false
set_option linter.unusedSimpArgs false
theorem qDoor15_12 {p : Prop} (h : p := by have := HK1.out; have := HJ6.out; first | omega | exact Nat.le_refl _) : p := h
theorem qDoor15_11 {p : Prop} (h : p := by have := HK1.out; first | omega | exact Nat.le_refl _) : p := h
theorem qDoor15_10 {p : Prop} (h : p := by (with_reducible repeat (first | refine blk_drewN ?_ _ | refine blk_drew ?_ | refine blk_alloc ?_ _)); exact BK205.out) : p := h
theorem qDoor15_9 {p : Prop} (h : p := by (with_reducible repeat (first | refine blk_drewN ?_ _ | refine blk_drew ?_ | refine blk_alloc ?_ _)); exact BK203.out) : p := h
theorem qDoor15_8 {p : Prop} (h : p := by repeat (first | (with_reducible first | exact HB.out | apply below_alloc | apply pw_below_drewN | apply below_drew1) | exact HB.out)) : p := h
theorem qDoor15_7 {p : Prop} (h : p := by first | rfl | (simp; done) | (simp [*]; done)) : p := h
theorem qDoor15_6 {p : Prop} (h : p := by (with_reducible repeat (first | refine blk_drewN ?_ _ | refine blk_drew ?_ | refine blk_alloc ?_ _)); refine blk_far ?_ NB203_205.out _; (with_reducible repeat (first | refine blk_drewN ?_ _ | refine blk_drew ?_ | refine blk_alloc ?_ _)); exact BK203.out) : p := h
theorem qDoor15_5 {p : Prop} (h : p := by (with_reducible repeat (first | refine blk_drewN ?_ _ | refine blk_drew ?_ | refine blk_alloc ?_ _)); refine blk_put (cs := #[.int .i64 ((rd_T55 l0 x13_1).f0), .int .u64 0, .int .u64 0, .int .u64 0, .int .u64 0, .int .i64 0, .string (⟨#[]⟩ : ByteArray)]) ?_ 6 _ rfl; (with_reducible repeat (first | refine blk_drewN ?_ _ | refine blk_drew ?_ | refine blk_alloc ?_ _)); exact BK205.out) : p := h
theorem qDoor15_4 {p : Prop} (h : p := by first | rfl | (simp [errW_none, errW_some] <;> rfl) | (simp [*, errW_none, errW_some] <;> rfl)) : p := h
theorem qDoor15_3 {p : Prop} (h : p := by (with_reducible repeat (first | refine blk_drewN ?_ _ | refine blk_drew ?_ | refine blk_alloc ?_ _)); refine blk_far ?_ NB203_205.out _; (with_reducible repeat (first | refine blk_drewN ?_ _ | refine blk_drew ?_ | refine blk_alloc ?_ _)); refine blk_far ?_ NB203_205.out _; (with_reducible repeat (first | refine blk_drewN ?_ _ | refine blk_drew ?_ | refine blk_alloc ?_ _)); refine blk_far ?_ NB203_205.out _; (with_reducible repeat (first | refine blk_drewN ?_ _ | refine blk_drew ?_ | refine blk_alloc ?_ _)); refine blk_far ?_ NB203_205.out _; (with_reducible repeat (first | refine blk_drewN ?_ _ | refine blk_drew ?_ | refine blk_alloc ?_ _)); refine blk_far ?_ NB203_205.out _; (with_reducible repeat (first | refine blk_drewN ?_ _ | refine blk_drew ?_ | refine blk_alloc ?_ _)); refine blk_far ?_ NB203_205.out _; (with_reducible repeat (first | refine blk_drewN ?_ _ | refine blk_drew ?_ | refine blk_alloc ?_ _)); refine blk_far ?_ NB203_205.out _; (with_reducible repeat (first | refine blk_drewN ?_ _ | refine blk_drew ?_ | refine blk_alloc ?_ _)); exact BK203.out) : p := h
theorem qDoor15_2 {p : Prop} (h : p := by repeat (first | (with_reducible first | exact HB.out | apply below_alloc | apply pw_below_drewN | apply below_drew1 | refine below_set ?_ GE203.out | refine below_set ?_ GE205.out) | exact HB.out)) : p := h
theorem qDoor15_1 {p : Prop} (h : p := by (with_reducible repeat (first | refine blk_drewN ?_ _ | refine blk_drew ?_ | refine blk_alloc ?_ _)); refine blk_put (cs := #[.int .i64 ((rd_T55 l0 x13_1).f0), .int .u64 0, .int .u64 0, .int .u64 0, .int .u64 0, .int .i64 0, .string (⟨#[]⟩ : ByteArray)]) ?_ 6 _ rfl; (with_reducible repeat (first | refine blk_drewN ?_ _ | refine blk_drew ?_ | refine blk_alloc ?_ _)); refine blk_put (cs := #[.int .i64 ((rd_T55 l0 x13_1).f0), .int .u64 0, .int .u64 0, .int .u64 0, .int .u64 0, .int .i64 0, .string (⟨#[]⟩ : ByteArray)]) ?_ 5 _ rfl; (with_reducible repeat (first | refine blk_drewN ?_ _ | refine blk_drew ?_ | refine blk_alloc ?_ _)); refine blk_put (cs := #[.int .i64 ((rd_T55 l0 x13_1).f0), .int .u64 0, .int .u64 0, .int .u64 0, .int .u64 0, .int .i64 0, .string (⟨#[]⟩ : ByteArray)]) ?_ 4 _ rfl; (with_reducible repeat (first | refine blk_drewN ?_ _ | refine blk_drew ?_ | refine blk_alloc ?_ _)); refine blk_put (cs := #[.int .i64 ((rd_T55 l0 x13_1).f0), .int .u64 0, .int .u64 0, .int .u64 0, .int .u64 0, .int .i64 0, .string (⟨#[]⟩ : ByteArray)]) ?_ 3 _ rfl; (with_reducible repeat (first | refine blk_drewN ?_ _ | refine blk_drew ?_ | refine blk_alloc ?_ _)); refine blk_put (cs := #[.int .i64 ((rd_T55 l0 x13_1).f0), .int .u64 0, .int .u64 0, .int .u64 0, .int .u64 0, .int .i64 0, .string (⟨#[]⟩ : ByteArray)]) ?_ 2 _ rfl; (with_reducible repeat (first | refine blk_drewN ?_ _ | refine blk_drew ?_ | refine blk_alloc ?_ _)); refine blk_put (cs := #[.int .i64 ((rd_T55 l0 x13_1).f0), .int .u64 0, .int .u64 0, .int .u64 0, .int .u64 0, .int .i64 0, .string (⟨#[]⟩ : ByteArray)]) ?_ 1 _ rfl; (with_reducible repeat (first | refine blk_drewN ?_ _ | refine blk_drew ?_ | refine blk_alloc ?_ _)); refine blk_put (cs := #[.int .i64 0, .int .u64 0, .int .u64 0, .int .u64 0, .int .u64 0, .int .i64 0, .string (⟨#[]⟩ : ByteArray)]) ?_ 0 _ rfl; (with_reducible repeat (first | refine blk_drewN ?_ _ | refine blk_drew ?_ | refine blk_alloc ?_ _)); exact BK205.out) : p := h
theorem qDoor15_0 {p : Prop} (h : p := by (with_reducible repeat (first | refine blk_drewN ?_ _ | refine blk_drew ?_ | refine blk_alloc ?_ _)); refine blk_put (cs := #[.int .i64 ((rd_T55 l0 x13_1).f0), .int .u64 ((rd_T55 l0 x13_1).f1.f0), .int .u64 ((rd_T55 l0 x13_1).f1.f1), .int .u64 ((rd_T55 l0 x13_1).f1.f2), .int .u64 ((rd_T55 l0 x13_1).f1.f3), .int .i64 ((rd_T55 l0 x13_1).f2), .string (⟨#[]⟩ : ByteArray)]) ?_ 6 _ rfl; (with_reducible repeat (first | refine blk_drewN ?_ _ | refine blk_drew ?_ | refine blk_alloc ?_ _)); refine blk_put (cs := #[.int .i64 ((rd_T55 l0 x13_1).f0), .int .u64 ((rd_T55 l0 x13_1).f1.f0), .int .u64 ((rd_T55 l0 x13_1).f1.f1), .int .u64 ((rd_T55 l0 x13_1).f1.f2), .int .u64 ((rd_T55 l0 x13_1).f1.f3), .int .i64 0, .string (⟨#[]⟩ : ByteArray)]) ?_ 5 _ rfl; (with_reducible repeat (first | refine blk_drewN ?_ _ | refine blk_drew ?_ | refine blk_alloc ?_ _)); refine blk_put (cs := #[.int .i64 ((rd_T55 l0 x13_1).f0), .int .u64 ((rd_T55 l0 x13_1).f1.f0), .int .u64 ((rd_T55 l0 x13_1).f1.f1), .int .u64 ((rd_T55 l0 x13_1).f1.f2), .int .u64 0, .int .i64 0, .string (⟨#[]⟩ : ByteArray)]) ?_ 4 _ rfl; (with_reducible repeat (first | refine blk_drewN ?_ _ | refine blk_drew ?_ | refine blk_alloc ?_ _)); refine blk_put (cs := #[.int .i64 ((rd_T55 l0 x13_1).f0), .int .u64 ((rd_T55 l0 x13_1).f1.f0), .int .u64 ((rd_T55 l0 x13_1).f1.f1), .int .u64 0, .int .u64 0, .int .i64 0, .string (⟨#[]⟩ : ByteArray)]) ?_ 3 _ rfl; (with_reducible repeat (first | refine blk_drewN ?_ _ | refine blk_drew ?_ | refine blk_alloc ?_ _)); refine blk_put (cs := #[.int .i64 ((rd_T55 l0 x13_1).f0), .int .u64 ((rd_T55 l0 x13_1).f1.f0), .int .u64 0, .int .u64 0, .int .u64 0, .int .i64 0, .string (⟨#[]⟩ : ByteArray)]) ?_ 2 _ rfl; (with_reducible repeat (first | refine blk_drewN ?_ _ | refine blk_drew ?_ | refine blk_alloc ?_ _)); refine blk_put (cs := #[.int .i64 ((rd_T55 l0 x13_1).f0), .int .u64 0, .int .u64 0, .int .u64 0, .int .u64 0, .int .i64 0, .string (⟨#[]⟩ : ByteArray)]) ?_ 1 _ rfl; (with_reducible repeat (first | refine blk_drewN ?_ _ | refine blk_drew ?_ | refine blk_alloc ?_ _)); refine blk_put (cs := #[.int .i64 0, .int .u64 0, .int .u64 0, .int .u64 0, .int .u64 0, .int .i64 0, .string (⟨#[]⟩ : ByteArray)]) ?_ 0 _ rfl; (with_reducible repeat (first | refine blk_drewN ?_ _ | refine blk_drew ?_ | refine blk_alloc ?_ _)); exact BK203.out) : p := h
attribute [local go_sem high] eqA55
mutual
def core_right.l0 : Nat → Int → Int → List (S55) → Int → Int → Option (Bool)
 | 0, _, _, _, _, _ => none
 | k + 1, x1, x5, x11, x12, x13 => if x13 < x12 then (if 0 ≤ x13 then (if x13 < (x11.length : Int) then ((core_arity.f k ((rd_T55 x11 x13).f0)).bind fun t204 => (if t204 ≤ x5 then (if ((rd_T55 x11 x13).f0) ≥ 0 then (core_right.j1 k x1 x5 t204 (decide (((rd_T55 x11 x13).f0) ≤ 8)) x11 x12 x13 ((rd_T55 x11 x13).f0) ((rd_T55 x11 x13).f1.f0) ((rd_T55 x11 x13).f1.f1) ((rd_T55 x11 x13).f1.f2) ((rd_T55 x11 x13).f1.f3) ((rd_T55 x11 x13).f2) ((rd_T55 x11 x13).f3) ((rd_T55 x11 x13).f0) 0 0 0 0 0 (⟨#[]⟩ : ByteArray)) else (core_right.j1 k x1 x5 t204 false x11 x12 x13 ((rd_T55 x11 x13).f0) ((rd_T55 x11 x13).f1.f0) ((rd_T55 x11 x13).f1.f1) ((rd_T55 x11 x13).f1.f2) ((rd_T55 x11 x13).f1.f3) ((rd_T55 x11 x13).f2) ((rd_T55 x11 x13).f3) ((rd_T55 x11 x13).f0) 0 0 0 0 0 (⟨#[]⟩ : ByteArray))) else (core_right.j1 k x1 x5 t204 false x11 x12 x13 ((rd_T55 x11 x13).f0) ((rd_T55 x11 x13).f1.f0) ((rd_T55 x11 x13).f1.f1) ((rd_T55 x11 x13).f1.f2) ((rd_T55 x11 x13).f1.f3) ((rd_T55 x11 x13).f2) ((rd_T55 x11 x13).f3) ((rd_T55 x11 x13).f0) 0 0 0 0 0 (⟨#[]⟩ : ByteArray)))) else (none)) else (none)) else (some (x5 == 1))
def core_right.j1 : Nat → Int → Int → Int → Bool → List (S55) → Int → Int → Int → Int → Int → Int → Int → Int → ByteArray → Int → Int → Int → Int → Int → Int → ByteArray → Option (Bool)
 | 0, _, _, _, _, _, _, _, _, _, _, _, _, _, _, _, _, _, _, _, _, _ => none
 | k + 1, x1, x5, x8, x10, x11, x12, x13, x204000, x204001, x204002, x204003, x204004, x204005, x204006, x206000, x206001, x206002, x206003, x206004, x206005, x206006 => if x204000 = 1 then (if x10 = true then (if (!(x204000 == x206000) || (!(x204005 == x206005) || (!(x204006.toList == x206006.toList)))) = true then (some false) else (core_right.l0 k x1 (wrap64 (x5 + (wrap64 (1 - x8)))) x11 x12 (wrap64 (x13 + 1)))) else (some false)) else (if x204000 = 2 then (if x10 = true then (if x204005 ≥ 0 then (if x204005 < x1 then (if (!(x204000 == x206000) || ((!(x204001 == x206001) || (!(x204002 == x206002) || (!(x204003 == x206003) || (!(x204004 == x206004))))) || (!(x204006.toList == x206006.toList)))) = true then (some false) else (core_right.l0 k x1 (wrap64 (x5 + (wrap64 (1 - x8)))) x11 x12 (wrap64 (x13 + 1)))) else (some false)) else (some false)) else (some false)) else (if x204000 = 3 then (core_right.j2 k x1 x5 x8 x10 x11 x12 x13 (x204000 == 3) x204000 x204001 x204002 x204003 x204004 x204005 x204006 x206000 x206001 x206002 x206003 x206004 x206005 x206006) else (core_right.j2 k x1 x5 x8 x10 x11 x12 x13 (x204000 == 8) x204000 x204001 x204002 x204003 x204004 x204005 x204006 x206000 x206001 x206002 x206003 x206004 x206005 x206006)))
def core_right.j2 : Nat → Int → Int → Int → Bool → List (S55) → Int → Int → Bool → Int → Int → Int → Int → Int → Int → ByteArray → Int → Int → Int → Int → Int → Int → ByteArray → Option (Bool)
 | 0, _, _, _, _, _, _, _, _, _, _, _, _, _, _, _, _, _, _, _, _, _, _ => none
 | k + 1, x1, x5, x8, x10, x11, x12, x13, x60, x204000, x204001, x204002, x204003, x204004, x204005, x204006, x206000, x206001, x206002, x206003, x206004, x206005, x206006 => if x60 = true then (if x10 = true then ((lexis_Name.f k x204006).bind fun t206 => (if t206 = true then ((strings_ContainsAny.f x204006 (⟨#[58, 126]⟩ : ByteArray)).bind fun t207 => (if t207 = true then (some false) else (if (!(x204000 == x206000) || ((!(x204001 == x206001) || (!(x204002 == x206002) || (!(x204003 == x206003) || (!(x204004 == x206004))))) || (!(x204005 == x206005)))) = true then (some false) else (core_right.l0 k x1 (wrap64 (x5 + (wrap64 (1 - x8)))) x11 x12 (wrap64 (x13 + 1)))))) else (some false))) else (some false)) else (if x10 = true then (if (!(x204000 == x206000) || ((!(x204001 == x206001) || (!(x204002 == x206002) || (!(x204003 == x206003) || (!(x204004 == x206004))))) || (!(x204005 == x206005) || (!(x204006.toList == x206006.toList))))) = true then (some false) else (core_right.l0 k x1 (wrap64 (x5 + (wrap64 (1 - x8)))) x11 x12 (wrap64 (x13 + 1)))) else (some false))
end
def core_right.f (k : Nat) (l0 : List (S55)) (a1 : Int) : Option (Bool) := core_right.l0 k a1 0 l0 (l0.length : Int) 0
theorem core_right.mono_l : ∀ k, (∀ y0 y1 y2 y3 y4, LeO (core_right.l0 k y0 y1 y2 y3 y4) (core_right.l0 (k + 1) y0 y1 y2 y3 y4)) ∧ (∀ y0 y1 y2 y3 y4 y5 y6 y7 y8 y9 y10 y11 y12 y13 y14 y15 y16 y17 y18 y19 y20, LeO (core_right.j1 k y0 y1 y2 y3 y4 y5 y6 y7 y8 y9 y10 y11 y12 y13 y14 y15 y16 y17 y18 y19 y20) (core_right.j1 (k + 1) y0 y1 y2 y3 y4 y5 y6 y7 y8 y9 y10 y11 y12 y13 y14 y15 y16 y17 y18 y19 y20)) ∧ (∀ y0 y1 y2 y3 y4 y5 y6 y7 y8 y9 y10 y11 y12 y13 y14 y15 y16 y17 y18 y19 y20 y21, LeO (core_right.j2 k y0 y1 y2 y3 y4 y5 y6 y7 y8 y9 y10 y11 y12 y13 y14 y15 y16 y17 y18 y19 y20 y21) (core_right.j2 (k + 1) y0 y1 y2 y3 y4 y5 y6 y7 y8 y9 y10 y11 y12 y13 y14 y15 y16 y17 y18 y19 y20 y21))
 | 0 => ⟨fun _ _ _ _ _ r h => by simp [core_right.l0] at h, fun _ _ _ _ _ _ _ _ _ _ _ _ _ _ _ _ _ _ _ _ _ r h => by simp [core_right.j1] at h, fun _ _ _ _ _ _ _ _ _ _ _ _ _ _ _ _ _ _ _ _ _ _ r h => by simp [core_right.j2] at h⟩
 | k + 1 => by
  obtain ⟨ih0, ih1, ih2⟩ := core_right.mono_l k
  refine ⟨?_, ?_, ?_⟩
  ·intro y0 y1 y2 y3 y4
   unfold core_right.l0
   repeat' first
   | (with_reducible exact ih0 _ _ _ _ _)
   | (with_reducible exact ih1 _ _ _ _ _ _ _ _ _ _ _ _ _ _ _ _ _ _ _ _ _)
   | (with_reducible exact ih2 _ _ _ _ _ _ _ _ _ _ _ _ _ _ _ _ _ _ _ _ _ _)
   | (with_reducible exact core_arity.mono _ _)
   | (with_reducible exact lexis_Name.mono _ _)
   | (with_reducible exact LeO.refl _)
   | (with_reducible exact LeO.none _)
   | (with_reducible refine LeO.ite ?_ ?_)
   | (with_reducible refine LeO.bind ?_ (fun _ => ?_))
   | exact ih0 _ _ _ _ _
   | exact ih1 _ _ _ _ _ _ _ _ _ _ _ _ _ _ _ _ _ _ _ _ _
   | exact ih2 _ _ _ _ _ _ _ _ _ _ _ _ _ _ _ _ _ _ _ _ _ _
   | exact core_arity.mono _ _
   | exact lexis_Name.mono _ _
   | exact LeO.none _
   | refine LeO.ite ?_ ?_
   | refine LeO.bind ?_ (fun _ => ?_)
  ·intro y0 y1 y2 y3 y4 y5 y6 y7 y8 y9 y10 y11 y12 y13 y14 y15 y16 y17 y18 y19 y20
   unfold core_right.j1
   repeat' first
   | (with_reducible exact ih0 _ _ _ _ _)
   | (with_reducible exact ih1 _ _ _ _ _ _ _ _ _ _ _ _ _ _ _ _ _ _ _ _ _)
   | (with_reducible exact ih2 _ _ _ _ _ _ _ _ _ _ _ _ _ _ _ _ _ _ _ _ _ _)
   | (with_reducible exact core_arity.mono _ _)
   | (with_reducible exact lexis_Name.mono _ _)
   | (with_reducible exact LeO.refl _)
   | (with_reducible exact LeO.none _)
   | (with_reducible refine LeO.ite ?_ ?_)
   | (with_reducible refine LeO.bind ?_ (fun _ => ?_))
   | exact ih0 _ _ _ _ _
   | exact ih1 _ _ _ _ _ _ _ _ _ _ _ _ _ _ _ _ _ _ _ _ _
   | exact ih2 _ _ _ _ _ _ _ _ _ _ _ _ _ _ _ _ _ _ _ _ _ _
   | exact core_arity.mono _ _
   | exact lexis_Name.mono _ _
   | exact LeO.none _
   | refine LeO.ite ?_ ?_
   | refine LeO.bind ?_ (fun _ => ?_)
  ·intro y0 y1 y2 y3 y4 y5 y6 y7 y8 y9 y10 y11 y12 y13 y14 y15 y16 y17 y18 y19 y20 y21
   unfold core_right.j2
   repeat' first
   | (with_reducible exact ih0 _ _ _ _ _)
   | (with_reducible exact ih1 _ _ _ _ _ _ _ _ _ _ _ _ _ _ _ _ _ _ _ _ _)
   | (with_reducible exact ih2 _ _ _ _ _ _ _ _ _ _ _ _ _ _ _ _ _ _ _ _ _ _)
   | (with_reducible exact core_arity.mono _ _)
   | (with_reducible exact lexis_Name.mono _ _)
   | (with_reducible exact LeO.refl _)
   | (with_reducible exact LeO.none _)
   | (with_reducible refine LeO.ite ?_ ?_)
   | (with_reducible refine LeO.bind ?_ (fun _ => ?_))
   | exact ih0 _ _ _ _ _
   | exact ih1 _ _ _ _ _ _ _ _ _ _ _ _ _ _ _ _ _ _ _ _ _
   | exact ih2 _ _ _ _ _ _ _ _ _ _ _ _ _ _ _ _ _ _ _ _ _ _
   | exact core_arity.mono _ _
   | exact lexis_Name.mono _ _
   | exact LeO.none _
   | refine LeO.ite ?_ ?_
   | refine LeO.bind ?_ (fun _ => ?_)
theorem core_right.mono : ∀ a0 a1 k, LeO (core_right.f k a0 a1) (core_right.f (k + 1) a0 a1) := by
 intro a0 a1 k
 obtain ⟨ih0, ih1, ih2⟩ := core_right.mono_l k
 unfold core_right.f
 repeat' first
   | (with_reducible exact ih0 _ _ _ _ _)
   | (with_reducible exact ih1 _ _ _ _ _ _ _ _ _ _ _ _ _ _ _ _ _ _ _ _ _)
   | (with_reducible exact ih2 _ _ _ _ _ _ _ _ _ _ _ _ _ _ _ _ _ _ _ _ _ _)
   | (with_reducible exact core_arity.mono _ _)
   | (with_reducible exact lexis_Name.mono _ _)
   | (with_reducible exact LeO.refl _)
   | (with_reducible exact LeO.none _)
   | (with_reducible refine LeO.ite ?_ ?_)
   | (with_reducible refine LeO.bind ?_ (fun _ => ?_))
   | exact ih0 _ _ _ _ _
   | exact ih1 _ _ _ _ _ _ _ _ _ _ _ _ _ _ _ _ _ _ _ _ _
   | exact ih2 _ _ _ _ _ _ _ _ _ _ _ _ _ _ _ _ _ _ _ _ _ _
   | exact core_arity.mono _ _
   | exact lexis_Name.mono _ _
   | exact LeO.none _
   | refine LeO.ite ?_ ?_
   | refine LeO.bind ?_ (fun _ => ?_)
set_option maxHeartbeats 8000000 in
set_option maxRecDepth 100000 in
theorem core_right.calls (k : Nat) (A0 : Option Addr) (c0 : Nat) (l0 : List (S55)) (a1 : Int) (r : Bool) (w : World) (hr0 : Kd.C k55 w A0 l0.length l0) (hc0 : l0.length ≤ c0) (h : core_right.f k l0 a1 = some r) :
  Calls Tryd.prog 20 #[.slice A0 l0.length c0, .int .i64 a1] w fun e w' => e = .returned (.bool r) ∧ Below w.heap.size w w' := by
 have hu55 := Tryd.underlying55
 have hu49 := Tryd.underlying49
 have HR0 := aK hr0; have HC0 := aK hc0; clear hr0 hc0
 have HB := aK (Below.refl w.heap.size w)
 have H : (core_right.l0 k a1 0 l0 (l0.length : Int) 0) = some r := h
 clear h
 have H' := aK H
 clear H
 go_enter Tryd.func20, Tryd.ntmps20
 go_wp2
 go_loopg [5, 13] k (fun kq v5 v13 w' => ∃ (x5_1 : Int) (x13_1 : Int), v5 = .int .i64 x5_1 ∧ v13 = .int .i64 x13_1 ∧ Aside0 (core_right.l0 kq a1 x5_1 l0 (l0.length : Int) x13_1 = some r) ∧ Aside0 (kq ≤ k) ∧ Aside0 (Below w.heap.size w w'))
 case atStart => exact ⟨(0), (0), qDoor15_7, qDoor15_7, H', ⟨Nat.le_refl _⟩, ⟨qDoor15_8⟩⟩
 case round =>
  clear H'; (try clear c2); (try clear p2)
  obtain ⟨x5_1, x13_1, rfl, rfl, HA, HK1, HB⟩ := hrel
  cases gk with
  | zero => exact absurd HA.out (by simp [core_right.l0])
  | succ k1 =>
   have H := HA.out
   clear HA
   simp only [core_right.l0] at H
   by_cases c3 : x13_1 < (l0.length : Int)
   ·rw [if_pos c3] at H
    have c3b0 : decide (x13_1 < (l0.length : Int)) = true := decide_eq_true c3
    clear c3
    by_cases c4 : 0 ≤ x13_1
    ·rw [if_pos c4] at H
     have c4b0 : decide (0 ≤ x13_1) = true := decide_eq_true c4
     clear c4
     by_cases c5 : x13_1 < (l0.length : Int)
     ·rw [if_pos c5] at H
      have c5b0 : decide (x13_1 < (l0.length : Int)) = true := decide_eq_true c5
      clear c5
      replace H := Option.bind_eq_some_iff.mp H
      obtain ⟨t204, A60, H⟩ := H
      replace H : (if t204 ≤ x5_1 then (if ((rd_T55 l0 x13_1).f0) ≥ 0 then (core_right.j1 k1 a1 x5_1 t204 (decide (((rd_T55 l0 x13_1).f0) ≤ 8)) l0 (l0.length : Int) x13_1 ((rd_T55 l0 x13_1).f0) ((rd_T55 l0 x13_1).f1.f0) ((rd_T55 l0 x13_1).f1.f1) ((rd_T55 l0 x13_1).f1.f2) ((rd_T55 l0 x13_1).f1.f3) ((rd_T55 l0 x13_1).f2) ((rd_T55 l0 x13_1).f3) ((rd_T55 l0 x13_1).f0) 0 0 0 0 0 (⟨#[]⟩ : ByteArray)) else (core_right.j1 k1 a1 x5_1 t204 false l0 (l0.length : Int) x13_1 ((rd_T55 l0 x13_1).f0) ((rd_T55 l0 x13_1).f1.f0) ((rd_T55 l0 x13_1).f1.f1) ((rd_T55 l0 x13_1).f1.f2) ((rd_T55 l0 x13_1).f1.f3) ((rd_T55 l0 x13_1).f2) ((rd_T55 l0 x13_1).f3) ((rd_T55 l0 x13_1).f0) 0 0 0 0 0 (⟨#[]⟩ : ByteArray))) else (core_right.j1 k1 a1 x5_1 t204 false l0 (l0.length : Int) x13_1 ((rd_T55 l0 x13_1).f0) ((rd_T55 l0 x13_1).f1.f0) ((rd_T55 l0 x13_1).f1.f1) ((rd_T55 l0 x13_1).f1.f2) ((rd_T55 l0 x13_1).f1.f3) ((rd_T55 l0 x13_1).f2) ((rd_T55 l0 x13_1).f3) ((rd_T55 l0 x13_1).f0) 0 0 0 0 0 (⟨#[]⟩ : ByteArray))) = some r := H
      have A6 := aK A60; clear A60; have HC7 := aK H; clear H
      have p202 : 0 ≤ (x13_1 : Int) := of_decide_eq_true (by first | (with_reducible assumption) | assumption)
      have q202 : x13_1 < (l0.length : Int) := of_decide_eq_true (by first | (with_reducible assumption) | assumption)
      obtain ⟨ad202, e202, hx202_0, hx202_1, hx202_2, hx202_3, hx202_4, hx202_5, hx202_6⟩ := at_T55 HR0.out x13_1 p202 q202
      cases e202
      replace hx202_0 := (HB.out.cell (World.block_lt_of_cell? w _ hx202_0)).trans hx202_0
      replace hx202_1 := (HB.out.cell (World.block_lt_of_cell? w _ hx202_1)).trans hx202_1
      replace hx202_2 := (HB.out.cell (World.block_lt_of_cell? w _ hx202_2)).trans hx202_2
      replace hx202_3 := (HB.out.cell (World.block_lt_of_cell? w _ hx202_3)).trans hx202_3
      replace hx202_4 := (HB.out.cell (World.block_lt_of_cell? w _ hx202_4)).trans hx202_4
      replace hx202_5 := (HB.out.cell (World.block_lt_of_cell? w _ hx202_5)).trans hx202_5
      replace hx202_6 := (HB.out.cell (World.block_lt_of_cell? w _ hx202_6)).trans hx202_6
      replace p202 := eq_true p202
      replace q202 := eq_true q202
      go_upto_region 7 with (first | ((with_reducible refine gate_dst (N := 7) rfl ?_); refine box_event ?hg (N := 7) ?hd (cs := #[.int .i64 0, .int .u64 0, .int .u64 0, .int .u64 0, .int .u64 0, .int .i64 0, .string (⟨#[]⟩ : ByteArray)]) (t := 55) ?hr ?_; (case hd => rfl); (case hg => rfl); (case hr => first | (go_simp; done) | (go_simp; rfl)); intro gb203 hg w8 hbox hb; have z_ := bxk hb hg qDoor15_8; have n0_ := aK z_.1; have n1_ := aK (hbox); have n2_ := aK z_.2; have n3_ := aK z_.2; clear z_; clear HB; have HB := n0_; have BK203 := n1_; have GW203 := n2_; have GE203 := n3_; clear n0_ n1_ n2_ n3_; clear hb hbox hg; obtain ⟨hcz9_0, hcz9_1, hcz9_2, hcz9_3, hcz9_4, hcz9_5, hcz9_6⟩ := ck7 BK203.out; obtain ⟨hfz9_0, hfz9_1, hfz9_2, hfz9_3, hfz9_4, hfz9_5, hfz9_6⟩ := fk7 BK203.out) | ((with_reducible refine gate_callee (f := 24) rfl ?_); refine goesL_ (some 19) rfl rfl Tryd.func24 (by kernel_rfl) rfl #[.int .i64 ((rd_T55 l0 x13_1).f0)] rfl (by (try simp only [List.map_toArray, List.map_cons, List.map_nil]); first | done | rfl | (simp only [List.length_drop, List.length_take]; rfl)) ?_; (with_reducible refine (core_arity.calls k1 ((rd_T55 l0 x13_1).f0) t204 _ A6.out).mono ?_); rintro e w' ⟨rfl, ⟨nd, rfl⟩⟩; refine ⟨_, rfl, ?_⟩) | ((with_reducible refine gate_dst (N := 9) rfl ?_); refine box_event ?hg (N := 9) ?hd (cs := #[.int .i64 0, .int .u64 0, .int .u64 0, .int .u64 0, .int .u64 0, .int .i64 0, .string (⟨#[]⟩ : ByteArray)]) (t := 55) ?hr ?_; (case hd => rfl); (case hg => rfl); (case hr => first | (go_simp; done) | (go_simp; rfl)); intro gb205 hg w10 hbox hb; have n0_ := aK (blk_below (g := gb203) (o := .cells #[.int .i64 ((rd_T55 l0 x13_1).f0), .int .u64 ((rd_T55 l0 x13_1).f1.f0), .int .u64 ((rd_T55 l0 x13_1).f1.f1), .int .u64 ((rd_T55 l0 x13_1).f1.f2), .int .u64 ((rd_T55 l0 x13_1).f1.f3), .int .i64 ((rd_T55 l0 x13_1).f2), .string ((rd_T55 l0 x13_1).f3)] 55 (0, 0)) qDoor15_0 hb); have z_ := bxk hb hg (by repeat (first | (with_reducible first | exact HB.out | apply below_alloc | apply pw_below_drewN | apply below_drew1 | refine below_set ?_ GE203.out) | exact HB.out)); have n1_ := aK z_.1; have n2_ := aK (hbox); have n3_ := aK z_.2; have n4_ := aK z_.2; clear z_; have n5_ := aK ((by rw [hg]; exact Nat.ne_of_lt (blk_lt (g := gb203) (o := .cells #[.int .i64 ((rd_T55 l0 x13_1).f0), .int .u64 ((rd_T55 l0 x13_1).f1.f0), .int .u64 ((rd_T55 l0 x13_1).f1.f1), .int .u64 ((rd_T55 l0 x13_1).f1.f2), .int .u64 ((rd_T55 l0 x13_1).f1.f3), .int .i64 ((rd_T55 l0 x13_1).f2), .string ((rd_T55 l0 x13_1).f3)] 55 (0, 0)) qDoor15_0) : gb203 ≠ gb205)); have n6_ := aK ((by rw [hg]; exact Nat.ne_of_gt (blk_lt (g := gb203) (o := .cells #[.int .i64 ((rd_T55 l0 x13_1).f0), .int .u64 ((rd_T55 l0 x13_1).f1.f0), .int .u64 ((rd_T55 l0 x13_1).f1.f1), .int .u64 ((rd_T55 l0 x13_1).f1.f2), .int .u64 ((rd_T55 l0 x13_1).f1.f3), .int .i64 ((rd_T55 l0 x13_1).f2), .string ((rd_T55 l0 x13_1).f3)] 55 (0, 0)) qDoor15_0) : gb205 ≠ gb203)); clear BK203; clear HB; have BK203 := n0_; have HB := n1_; have BK205 := n2_; have GW205 := n3_; have GE205 := n4_; have NB203_205 := n5_; have NB205_203 := n6_; clear n0_ n1_ n2_ n3_ n4_ n5_ n6_; clear hb hbox hg; have hnb11 := NB205_203.out; have hnc11 := NB203_205.out; obtain ⟨hcz12_0, hcz12_1, hcz12_2, hcz12_3, hcz12_4, hcz12_5, hcz12_6⟩ := ck7 BK205.out; obtain ⟨hfz12_0, hfz12_1, hfz12_2, hfz12_3, hfz12_4, hfz12_5, hfz12_6⟩ := fk7 BK205.out))
      (try simp only [Act.put, List.setIfInBounds_toArray, List.set_cons_zero, List.set_cons_succ])
      go_cut [10] (fun v10 wc => ∃ (kq : Nat) (x10_6 : Bool), v10 = .bool x10_6 ∧ Aside0 (core_right.j1 kq a1 x5_1 t204 x10_6 l0 (l0.length : Int) x13_1 ((rd_T55 l0 x13_1).f0) ((rd_T55 l0 x13_1).f1.f0) ((rd_T55 l0 x13_1).f1.f1) ((rd_T55 l0 x13_1).f1.f2) ((rd_T55 l0 x13_1).f1.f3) ((rd_T55 l0 x13_1).f2) ((rd_T55 l0 x13_1).f3) ((rd_T55 l0 x13_1).f0) 0 0 0 0 0 (⟨#[]⟩ : ByteArray) = some r) ∧ Aside0 (kq ≤ k1) ∧ Aside0 (wc.heap[gb203]? = some (.cells #[.int .i64 ((rd_T55 l0 x13_1).f0), .int .u64 ((rd_T55 l0 x13_1).f1.f0), .int .u64 ((rd_T55 l0 x13_1).f1.f1), .int .u64 ((rd_T55 l0 x13_1).f1.f2), .int .u64 ((rd_T55 l0 x13_1).f1.f3), .int .i64 ((rd_T55 l0 x13_1).f2), .string ((rd_T55 l0 x13_1).f3)] 55 (0, 0))) ∧ Aside0 (wc.heap[gb205]? = some (.cells #[.int .i64 ((rd_T55 l0 x13_1).f0), .int .u64 0, .int .u64 0, .int .u64 0, .int .u64 0, .int .i64 0, .string (⟨#[]⟩ : ByteArray)] 55 (0, 0))) ∧ Aside0 (Below w.heap.size w wc))
      case first =>
       have H := HC7.out
       clear HC7
       by_cases c13 : t204 ≤ x5_1
       ·rw [if_pos c13] at H
        have c13b0 : decide (t204 ≤ x5_1) = true := decide_eq_true c13
        clear c13
        (first | rw [c13b0] | (simp only [i64_w, i32_w]; rw [c13b0]) | skip)
        by_cases c14 : ((rd_T55 l0 x13_1).f0) ≥ 0
        ·rw [if_pos c14] at H
         have c14b0 : decide (0 ≤ ((rd_T55 l0 x13_1).f0)) = true := decide_eq_true c14
         clear c14
         have H' := aK H
         clear H
         have hnb15 := NB203_205.out
         have hnc15 := NB205_203.out
         obtain ⟨hcz16_0, hcz16_1, hcz16_2, hcz16_3, hcz16_4, hcz16_5, hcz16_6⟩ := ck7 BK203.out
         obtain ⟨hfz16_0, hfz16_1, hfz16_2, hfz16_3, hfz16_4, hfz16_5, hfz16_6⟩ := fk7 BK203.out
         go_wp2
         go_meet
         case rel => exact ⟨_, (decide (((rd_T55 l0 x13_1).f0) ≤ 8)), qDoor15_7, H', ⟨qDoor15_11⟩, ⟨qDoor15_3⟩, ⟨qDoor15_1⟩, ⟨qDoor15_2⟩⟩
        ·rw [if_neg c14] at H
         have c14b0 : decide (0 ≤ ((rd_T55 l0 x13_1).f0)) = false := decide_eq_false c14
         clear c14
         have H' := aK H
         clear H
         have hnb17 := NB203_205.out
         have hnc17 := NB205_203.out
         obtain ⟨hcz18_0, hcz18_1, hcz18_2, hcz18_3, hcz18_4, hcz18_5, hcz18_6⟩ := ck7 BK203.out
         obtain ⟨hfz18_0, hfz18_1, hfz18_2, hfz18_3, hfz18_4, hfz18_5, hfz18_6⟩ := fk7 BK203.out
         go_wp2
         go_meet
         case rel => exact ⟨_, (false), qDoor15_7, H', ⟨qDoor15_11⟩, ⟨qDoor15_3⟩, ⟨qDoor15_1⟩, ⟨qDoor15_2⟩⟩
       ·rw [if_neg c13] at H
        have c13b0 : decide (t204 ≤ x5_1) = false := decide_eq_false c13
        clear c13
        (first | rw [c13b0] | (simp only [i64_w, i32_w]; rw [c13b0]) | skip)
        have H' := aK H
        clear H
        go_wp2
        go_meet
        case rel => exact ⟨_, (false), qDoor15_7, H', ⟨qDoor15_11⟩, ⟨qDoor15_3⟩, ⟨qDoor15_1⟩, ⟨qDoor15_2⟩⟩
      case rest =>
       clear HC7; (try clear c1); (try clear c2); (try clear p2); (try clear q2); (try clear hx2); (try clear c3); (try clear c3b0); (try clear c4); (try clear c4b0); (try clear c5); (try clear c5b0); (try clear c11); (try clear c13); (try clear c13b0); (try clear c14); (try clear c14b0); (try clear c15); (try clear c17); (try clear hcz12_0); (try clear hcz12_1); (try clear hcz12_2); (try clear hcz12_3); (try clear hcz12_4); (try clear hcz12_5); (try clear hcz12_6); (try clear hcz16_0); (try clear hcz16_1); (try clear hcz16_2); (try clear hcz16_3); (try clear hcz16_4); (try clear hcz16_5); (try clear hcz16_6); (try clear hcz18_0); (try clear hcz18_1); (try clear hcz18_2); (try clear hcz18_3); (try clear hcz18_4); (try clear hcz18_5); (try clear hcz18_6); (try clear hcz9_0); (try clear hcz9_1); (try clear hcz9_2); (try clear hcz9_3); (try clear hcz9_4); (try clear hcz9_5); (try clear hcz9_6); (try clear hfz12_0); (try clear hfz12_1); (try clear hfz12_2); (try clear hfz12_3); (try clear hfz12_4); (try clear hfz12_5); (try clear hfz12_6); (try clear hfz16_0); (try clear hfz16_1); (try clear hfz16_2); (try clear hfz16_3); (try clear hfz16_4); (try clear hfz16_5); (try clear hfz16_6); (try clear hfz18_0); (try clear hfz18_1); (try clear hfz18_2); (try clear hfz18_3); (try clear hfz18_4); (try clear hfz18_5); (try clear hfz18_6); (try clear hfz9_0); (try clear hfz9_1); (try clear hfz9_2); (try clear hfz9_3); (try clear hfz9_4); (try clear hfz9_5); (try clear hfz9_6); (try clear hx202_0); (try clear hx202_1); (try clear hx202_2); (try clear hx202_3); (try clear hx202_4); (try clear hx202_5); (try clear hx202_6); (try clear p2); (try clear p202); (try clear q202)
       obtain ⟨kq, x10_6, rfl, HA, HJ6, BK203, BK205, HB⟩ := hcut
       cases kq with
       | zero => exact absurd HA.out (by simp [core_right.j1])
       | succ kj6 =>
        have H := HA.out
        clear HA
        simp only [core_right.j1] at H
        by_cases c19 : ((rd_T55 l0 x13_1).f0) = 1
        ·rw [if_pos c19] at H
         have c19b0 : (((rd_T55 l0 x13_1).f0) == 1) = true := beq_iff_eq.mpr c19
         have c19b1 : (((rd_T55 l0 x13_1).f0) != 1) = false := bne_eq_false_iff_eq.mpr c19
         clear c19
         by_cases c20 : x10_6 = true
         ·subst c20
          have H1 : (if (!(((rd_T55 l0 x13_1).f0) == ((rd_T55 l0 x13_1).f0)) || (!(((rd_T55 l0 x13_1).f2) == 0) || (!(((rd_T55 l0 x13_1).f3).toList == (⟨#[]⟩ : ByteArray).toList)))) = true then (some false) else (core_right.l0 kj6 a1 (wrap64 (x5_1 + (wrap64 (1 - t204)))) l0 (l0.length : Int) (wrap64 (x13_1 + 1)))) = some r := by rw [if_pos rfl] at H; exact H
          clear H
          have H := H1
          clear H1
          by_cases c21 : (!(((rd_T55 l0 x13_1).f0) == ((rd_T55 l0 x13_1).f0)) || (!(((rd_T55 l0 x13_1).f2) == 0) || (!(((rd_T55 l0 x13_1).f3).toList == (⟨#[]⟩ : ByteArray).toList)))) = true
          ·rw [if_pos c21] at H
           have c21b0 : (!(((rd_T55 l0 x13_1).f0) == ((rd_T55 l0 x13_1).f0)) || (!(((rd_T55 l0 x13_1).f2) == 0) || (!(((rd_T55 l0 x13_1).f3).toList == (⟨#[]⟩ : ByteArray).toList)))) = true := c21
           have c21b9 := c21b0
           try simp only [beq_self_eq_true, Bool.not_true, Bool.false_or, Bool.or_false, beq_nil_bytes] at c21b9
           clear c21
           obtain rfl := Option.some.inj H
           have hnb22 := NB203_205.out
           have hnc22 := NB205_203.out
           obtain ⟨hcz23_0, hcz23_1, hcz23_2, hcz23_3, hcz23_4, hcz23_5, hcz23_6⟩ := ck7 BK203.out
           obtain ⟨hfz23_0, hfz23_1, hfz23_2, hfz23_3, hfz23_4, hfz23_5, hfz23_6⟩ := fk7 BK203.out
           obtain ⟨hcz24_0, hcz24_1, hcz24_2, hcz24_3, hcz24_4, hcz24_5, hcz24_6⟩ := ck7 BK205.out
           obtain ⟨hfz24_0, hfz24_1, hfz24_2, hfz24_3, hfz24_4, hfz24_5, hfz24_6⟩ := fk7 BK205.out
           go_wp2
           go_ret
           exact ⟨qDoor15_4, qDoor15_2⟩
          ·rw [if_neg c21] at H
           have c21b0 : (!(((rd_T55 l0 x13_1).f0) == ((rd_T55 l0 x13_1).f0)) || (!(((rd_T55 l0 x13_1).f2) == 0) || (!(((rd_T55 l0 x13_1).f3).toList == (⟨#[]⟩ : ByteArray).toList)))) = false := by simpa using c21
           have c21b9 := c21b0
           try simp only [beq_self_eq_true, Bool.not_true, Bool.false_or, Bool.or_false, beq_nil_bytes] at c21b9
           clear c21
           have H' := aK H
           clear H
           have hnb25 := NB203_205.out
           have hnc25 := NB205_203.out
           obtain ⟨hcz26_0, hcz26_1, hcz26_2, hcz26_3, hcz26_4, hcz26_5, hcz26_6⟩ := ck7 BK203.out
           obtain ⟨hfz26_0, hfz26_1, hfz26_2, hfz26_3, hfz26_4, hfz26_5, hfz26_6⟩ := fk7 BK203.out
           obtain ⟨hcz27_0, hcz27_1, hcz27_2, hcz27_3, hcz27_4, hcz27_5, hcz27_6⟩ := ck7 BK205.out
           obtain ⟨hfz27_0, hfz27_1, hfz27_2, hfz27_3, hfz27_4, hfz27_5, hfz27_6⟩ := fk7 BK205.out
           go_wp2
           go_roundg kj6
           case measure => have := HK1.out; have := HJ6.out; omega
           case rel => exact ⟨(wrap64 (x5_1 + (wrap64 (1 - t204)))), (wrap64 (x13_1 + 1)), qDoor15_7, qDoor15_7, H', ⟨by have := HK1.out; have := HJ6.out; omega⟩, ⟨qDoor15_2⟩⟩
         ·replace c20 := Bool.eq_false_iff.mpr c20
          subst c20
          have H1 : (some false) = some r := by rw [if_neg (show ¬ (false = true) by decide)] at H; exact H
          clear H
          have H := H1
          clear H1
          obtain rfl := Option.some.inj H
          have hnb28 := NB203_205.out
          have hnc28 := NB205_203.out
          obtain ⟨hcz29_0, hcz29_1, hcz29_2, hcz29_3, hcz29_4, hcz29_5, hcz29_6⟩ := ck7 BK203.out
          obtain ⟨hfz29_0, hfz29_1, hfz29_2, hfz29_3, hfz29_4, hfz29_5, hfz29_6⟩ := fk7 BK203.out
          obtain ⟨hcz30_0, hcz30_1, hcz30_2, hcz30_3, hcz30_4, hcz30_5, hcz30_6⟩ := ck7 BK205.out
          obtain ⟨hfz30_0, hfz30_1, hfz30_2, hfz30_3, hfz30_4, hfz30_5, hfz30_6⟩ := fk7 BK205.out
          go_wp2
          go_ret
          exact ⟨qDoor15_4, qDoor15_2⟩
        ·rw [if_neg c19] at H
         have c19b0 : (((rd_T55 l0 x13_1).f0) == 1) = false := beq_eq_false_iff_ne.mpr c19
         have c19b1 : (((rd_T55 l0 x13_1).f0) != 1) = true := bne_iff_ne.mpr c19
         by_cases c31 : ((rd_T55 l0 x13_1).f0) = 2
         ·rw [if_pos c31] at H
          have c31b0 : (((rd_T55 l0 x13_1).f0) == 2) = true := beq_iff_eq.mpr c31
          have c31b1 : (((rd_T55 l0 x13_1).f0) != 2) = false := bne_eq_false_iff_eq.mpr c31
          clear c31
          by_cases c32 : x10_6 = true
          ·subst c32
           have H1 : (if ((rd_T55 l0 x13_1).f2) ≥ 0 then (if ((rd_T55 l0 x13_1).f2) < a1 then (if (!(((rd_T55 l0 x13_1).f0) == ((rd_T55 l0 x13_1).f0)) || ((!(((rd_T55 l0 x13_1).f1.f0) == 0) || (!(((rd_T55 l0 x13_1).f1.f1) == 0) || (!(((rd_T55 l0 x13_1).f1.f2) == 0) || (!(((rd_T55 l0 x13_1).f1.f3) == 0))))) || (!(((rd_T55 l0 x13_1).f3).toList == (⟨#[]⟩ : ByteArray).toList)))) = true then (some false) else (core_right.l0 kj6 a1 (wrap64 (x5_1 + (wrap64 (1 - t204)))) l0 (l0.length : Int) (wrap64 (x13_1 + 1)))) else (some false)) else (some false)) = some r := by rw [if_pos rfl] at H; exact H
           clear H
           have H := H1
           clear H1
           by_cases c33 : ((rd_T55 l0 x13_1).f2) ≥ 0
           ·rw [if_pos c33] at H
            have c33b0 : decide (0 ≤ ((rd_T55 l0 x13_1).f2)) = true := decide_eq_true c33
            clear c33
            by_cases c34 : ((rd_T55 l0 x13_1).f2) < a1
            ·rw [if_pos c34] at H
             have c34b0 : decide (((rd_T55 l0 x13_1).f2) < a1) = true := decide_eq_true c34
             clear c34
             by_cases c35 : (!(((rd_T55 l0 x13_1).f0) == ((rd_T55 l0 x13_1).f0)) || ((!(((rd_T55 l0 x13_1).f1.f0) == 0) || (!(((rd_T55 l0 x13_1).f1.f1) == 0) || (!(((rd_T55 l0 x13_1).f1.f2) == 0) || (!(((rd_T55 l0 x13_1).f1.f3) == 0))))) || (!(((rd_T55 l0 x13_1).f3).toList == (⟨#[]⟩ : ByteArray).toList)))) = true
             ·rw [if_pos c35] at H
              have c35b0 : (!(((rd_T55 l0 x13_1).f0) == ((rd_T55 l0 x13_1).f0)) || ((!(((rd_T55 l0 x13_1).f1.f0) == 0) || (!(((rd_T55 l0 x13_1).f1.f1) == 0) || (!(((rd_T55 l0 x13_1).f1.f2) == 0) || (!(((rd_T55 l0 x13_1).f1.f3) == 0))))) || (!(((rd_T55 l0 x13_1).f3).toList == (⟨#[]⟩ : ByteArray).toList)))) = true := c35
              have c35b9 := c35b0
              try simp only [beq_self_eq_true, Bool.not_true, Bool.false_or, Bool.or_false, beq_nil_bytes] at c35b9
              clear c35
              obtain rfl := Option.some.inj H
              have hnb36 := NB203_205.out
              have hnc36 := NB205_203.out
              obtain ⟨hcz37_0, hcz37_1, hcz37_2, hcz37_3, hcz37_4, hcz37_5, hcz37_6⟩ := ck7 BK203.out
              obtain ⟨hfz37_0, hfz37_1, hfz37_2, hfz37_3, hfz37_4, hfz37_5, hfz37_6⟩ := fk7 BK203.out
              obtain ⟨hcz38_0, hcz38_1, hcz38_2, hcz38_3, hcz38_4, hcz38_5, hcz38_6⟩ := ck7 BK205.out
              obtain ⟨hfz38_0, hfz38_1, hfz38_2, hfz38_3, hfz38_4, hfz38_5, hfz38_6⟩ := fk7 BK205.out
              go_wp2
              go_ret
              exact ⟨qDoor15_4, qDoor15_2⟩
             ·rw [if_neg c35] at H
              have c35b0 : (!(((rd_T55 l0 x13_1).f0) == ((rd_T55 l0 x13_1).f0)) || ((!(((rd_T55 l0 x13_1).f1.f0) == 0) || (!(((rd_T55 l0 x13_1).f1.f1) == 0) || (!(((rd_T55 l0 x13_1).f1.f2) == 0) || (!(((rd_T55 l0 x13_1).f1.f3) == 0))))) || (!(((rd_T55 l0 x13_1).f3).toList == (⟨#[]⟩ : ByteArray).toList)))) = false := by simpa using c35
              have c35b9 := c35b0
              try simp only [beq_self_eq_true, Bool.not_true, Bool.false_or, Bool.or_false, beq_nil_bytes] at c35b9
              clear c35
              have H' := aK H
              clear H
              have hnb39 := NB203_205.out
              have hnc39 := NB205_203.out
              obtain ⟨hcz40_0, hcz40_1, hcz40_2, hcz40_3, hcz40_4, hcz40_5, hcz40_6⟩ := ck7 BK203.out
              obtain ⟨hfz40_0, hfz40_1, hfz40_2, hfz40_3, hfz40_4, hfz40_5, hfz40_6⟩ := fk7 BK203.out
              obtain ⟨hcz41_0, hcz41_1, hcz41_2, hcz41_3, hcz41_4, hcz41_5, hcz41_6⟩ := ck7 BK205.out
              obtain ⟨hfz41_0, hfz41_1, hfz41_2, hfz41_3, hfz41_4, hfz41_5, hfz41_6⟩ := fk7 BK205.out
              go_wp2
              go_roundg kj6
              case measure => have := HK1.out; have := HJ6.out; omega
              case rel => exact ⟨(wrap64 (x5_1 + (wrap64 (1 - t204)))), (wrap64 (x13_1 + 1)), qDoor15_7, qDoor15_7, H', ⟨by have := HK1.out; have := HJ6.out; omega⟩, ⟨qDoor15_2⟩⟩
            ·rw [if_neg c34] at H
             have c34b0 : decide (((rd_T55 l0 x13_1).f2) < a1) = false := decide_eq_false c34
             clear c34
             obtain rfl := Option.some.inj H
             have hnb42 := NB203_205.out
             have hnc42 := NB205_203.out
             obtain ⟨hcz43_0, hcz43_1, hcz43_2, hcz43_3, hcz43_4, hcz43_5, hcz43_6⟩ := ck7 BK203.out
             obtain ⟨hfz43_0, hfz43_1, hfz43_2, hfz43_3, hfz43_4, hfz43_5, hfz43_6⟩ := fk7 BK203.out
             obtain ⟨hcz44_0, hcz44_1, hcz44_2, hcz44_3, hcz44_4, hcz44_5, hcz44_6⟩ := ck7 BK205.out
             obtain ⟨hfz44_0, hfz44_1, hfz44_2, hfz44_3, hfz44_4, hfz44_5, hfz44_6⟩ := fk7 BK205.out
             go_wp2
             go_ret
             exact ⟨qDoor15_4, qDoor15_2⟩
           ·rw [if_neg c33] at H
            have c33b0 : decide (0 ≤ ((rd_T55 l0 x13_1).f2)) = false := decide_eq_false c33
            clear c33
            obtain rfl := Option.some.inj H
            have hnb45 := NB203_205.out
            have hnc45 := NB205_203.out
            obtain ⟨hcz46_0, hcz46_1, hcz46_2, hcz46_3, hcz46_4, hcz46_5, hcz46_6⟩ := ck7 BK203.out
            obtain ⟨hfz46_0, hfz46_1, hfz46_2, hfz46_3, hfz46_4, hfz46_5, hfz46_6⟩ := fk7 BK203.out
            obtain ⟨hcz47_0, hcz47_1, hcz47_2, hcz47_3, hcz47_4, hcz47_5, hcz47_6⟩ := ck7 BK205.out
            obtain ⟨hfz47_0, hfz47_1, hfz47_2, hfz47_3, hfz47_4, hfz47_5, hfz47_6⟩ := fk7 BK205.out
            go_wp2
            go_ret
            exact ⟨qDoor15_4, qDoor15_2⟩
          ·replace c32 := Bool.eq_false_iff.mpr c32
           subst c32
           have H1 : (some false) = some r := by rw [if_neg (show ¬ (false = true) by decide)] at H; exact H
           clear H
           have H := H1
           clear H1
           obtain rfl := Option.some.inj H
           have hnb48 := NB203_205.out
           have hnc48 := NB205_203.out
           obtain ⟨hcz49_0, hcz49_1, hcz49_2, hcz49_3, hcz49_4, hcz49_5, hcz49_6⟩ := ck7 BK203.out
           obtain ⟨hfz49_0, hfz49_1, hfz49_2, hfz49_3, hfz49_4, hfz49_5, hfz49_6⟩ := fk7 BK203.out
           obtain ⟨hcz50_0, hcz50_1, hcz50_2, hcz50_3, hcz50_4, hcz50_5, hcz50_6⟩ := ck7 BK205.out
           obtain ⟨hfz50_0, hfz50_1, hfz50_2, hfz50_3, hfz50_4, hfz50_5, hfz50_6⟩ := fk7 BK205.out
           go_wp2
           go_ret
           exact ⟨qDoor15_4, qDoor15_2⟩
         ·rw [if_neg c31] at H
          have c31b0 : (((rd_T55 l0 x13_1).f0) == 2) = false := beq_eq_false_iff_ne.mpr c31
          have c31b1 : (((rd_T55 l0 x13_1).f0) != 2) = true := bne_iff_ne.mpr c31
          have HC51 := aK H; clear H
          have hnb52 := NB203_205.out
          have hnc52 := NB205_203.out
          obtain ⟨hcz53_0, hcz53_1, hcz53_2, hcz53_3, hcz53_4, hcz53_5, hcz53_6⟩ := ck7 BK203.out
          obtain ⟨hfz53_0, hfz53_1, hfz53_2, hfz53_3, hfz53_4, hfz53_5, hfz53_6⟩ := fk7 BK203.out
          go_upto_if 60 with (fail)
          go_cut [60] (fun v60 wc => ∃ (kq : Nat) (x60_50 : Bool), v60 = .bool x60_50 ∧ Aside0 (core_right.j2 kq a1 x5_1 t204 x10_6 l0 (l0.length : Int) x13_1 x60_50 ((rd_T55 l0 x13_1).f0) ((rd_T55 l0 x13_1).f1.f0) ((rd_T55 l0 x13_1).f1.f1) ((rd_T55 l0 x13_1).f1.f2) ((rd_T55 l0 x13_1).f1.f3) ((rd_T55 l0 x13_1).f2) ((rd_T55 l0 x13_1).f3) ((rd_T55 l0 x13_1).f0) 0 0 0 0 0 (⟨#[]⟩ : ByteArray) = some r) ∧ Aside0 (kq ≤ kj6) ∧ Aside0 (wc.heap[gb203]? = some (.cells #[.int .i64 ((rd_T55 l0 x13_1).f0), .int .u64 ((rd_T55 l0 x13_1).f1.f0), .int .u64 ((rd_T55 l0 x13_1).f1.f1), .int .u64 ((rd_T55 l0 x13_1).f1.f2), .int .u64 ((rd_T55 l0 x13_1).f1.f3), .int .i64 ((rd_T55 l0 x13_1).f2), .string ((rd_T55 l0 x13_1).f3)] 55 (0, 0))) ∧ Aside0 (wc.heap[gb205]? = some (.cells #[.int .i64 ((rd_T55 l0 x13_1).f0), .int .u64 0, .int .u64 0, .int .u64 0, .int .u64 0, .int .i64 0, .string (⟨#[]⟩ : ByteArray)] 55 (0, 0))) ∧ Aside0 (Below w.heap.size w wc))
          case first =>
           have H := HC51.out
           clear HC51
           by_cases c54 : ((rd_T55 l0 x13_1).f0) = 3
           ·rw [if_pos c54] at H
            have c54b0 : (((rd_T55 l0 x13_1).f0) == 3) = true := beq_iff_eq.mpr c54
            have c54b1 : (((rd_T55 l0 x13_1).f0) != 3) = false := bne_eq_false_iff_eq.mpr c54
            clear c54
            (first | rw [c54b0] | (simp only [i64_w, i32_w]; rw [c54b0]) | skip)
            have H' := aK H
            clear H
            go_wp2
            go_meet
            case rel => exact ⟨_, ((((rd_T55 l0 x13_1).f0) == 3)), qDoor15_7, H', ⟨qDoor15_12⟩, ⟨qDoor15_9⟩, ⟨qDoor15_10⟩, ⟨qDoor15_2⟩⟩
           ·rw [if_neg c54] at H
            have c54b0 : (((rd_T55 l0 x13_1).f0) == 3) = false := beq_eq_false_iff_ne.mpr c54
            have c54b1 : (((rd_T55 l0 x13_1).f0) != 3) = true := bne_iff_ne.mpr c54
            (first | rw [c54b0] | (simp only [i64_w, i32_w]; rw [c54b0]) | skip)
            have H' := aK H
            clear H
            go_wp2
            go_meet
            case rel => exact ⟨_, ((((rd_T55 l0 x13_1).f0) == 8)), qDoor15_7, H', ⟨qDoor15_12⟩, ⟨qDoor15_9⟩, ⟨qDoor15_10⟩, ⟨qDoor15_2⟩⟩
          case rest =>
           clear HC51; (try clear c1); (try clear c2); (try clear p2); (try clear q2); (try clear hx2); (try clear c3); (try clear c3b0); (try clear c4); (try clear c4b0); (try clear c5); (try clear c5b0); (try clear p6); (try clear c11); (try clear c13); (try clear c13b0); (try clear c14); (try clear c14b0); (try clear c15); (try clear c17); (try clear c19); (try clear c19b0); (try clear c19b1); (try clear c20); (try clear p20); (try clear q20); (try clear hx20); (try clear c21); (try clear c21b0); (try clear c22); (try clear c24); (try clear c25); (try clear c28); (try clear c31); (try clear c31b0); (try clear c31b1); (try clear c32); (try clear c33); (try clear c33b0); (try clear c34); (try clear c34b0); (try clear c35); (try clear c35b0); (try clear c36); (try clear c39); (try clear c42); (try clear c45); (try clear c48); (try clear c52); (try clear c54); (try clear c54b0); (try clear c54b1); (try clear hcz12_0); (try clear hcz12_1); (try clear hcz12_2); (try clear hcz12_3); (try clear hcz12_4); (try clear hcz12_5); (try clear hcz12_6); (try clear hcz16_0); (try clear hcz16_1); (try clear hcz16_2); (try clear hcz16_3); (try clear hcz16_4); (try clear hcz16_5); (try clear hcz16_6); (try clear hcz18_0); (try clear hcz18_1); (try clear hcz18_2); (try clear hcz18_3); (try clear hcz18_4); (try clear hcz18_5); (try clear hcz18_6); (try clear hcz23_0); (try clear hcz23_1); (try clear hcz23_2); (try clear hcz23_3); (try clear hcz23_4); (try clear hcz23_5); (try clear hcz23_6); (try clear hcz24_0); (try clear hcz24_1); (try clear hcz24_2); (try clear hcz24_3); (try clear hcz24_4); (try clear hcz24_5); (try clear hcz24_6); (try clear hcz26_0); (try clear hcz26_1); (try clear hcz26_2); (try clear hcz26_3); (try clear hcz26_4); (try clear hcz26_5); (try clear hcz26_6); (try clear hcz27_0); (try clear hcz27_1); (try clear hcz27_2); (try clear hcz27_3); (try clear hcz27_4); (try clear hcz27_5); (try clear hcz27_6); (try clear hcz29_0); (try clear hcz29_1); (try clear hcz29_2); (try clear hcz29_3); (try clear hcz29_4); (try clear hcz29_5); (try clear hcz29_6); (try clear hcz30_0); (try clear hcz30_1); (try clear hcz30_2); (try clear hcz30_3); (try clear hcz30_4); (try clear hcz30_5); (try clear hcz30_6); (try clear hcz37_0); (try clear hcz37_1); (try clear hcz37_2); (try clear hcz37_3); (try clear hcz37_4); (try clear hcz37_5); (try clear hcz37_6); (try clear hcz38_0); (try clear hcz38_1); (try clear hcz38_2); (try clear hcz38_3); (try clear hcz38_4); (try clear hcz38_5); (try clear hcz38_6); (try clear hcz40_0); (try clear hcz40_1); (try clear hcz40_2); (try clear hcz40_3); (try clear hcz40_4); (try clear hcz40_5); (try clear hcz40_6); (try clear hcz41_0); (try clear hcz41_1); (try clear hcz41_2); (try clear hcz41_3); (try clear hcz41_4); (try clear hcz41_5); (try clear hcz41_6); (try clear hcz43_0); (try clear hcz43_1); (try clear hcz43_2); (try clear hcz43_3); (try clear hcz43_4); (try clear hcz43_5); (try clear hcz43_6); (try clear hcz44_0); (try clear hcz44_1); (try clear hcz44_2); (try clear hcz44_3); (try clear hcz44_4); (try clear hcz44_5); (try clear hcz44_6); (try clear hcz46_0); (try clear hcz46_1); (try clear hcz46_2); (try clear hcz46_3); (try clear hcz46_4); (try clear hcz46_5); (try clear hcz46_6); (try clear hcz47_0); (try clear hcz47_1); (try clear hcz47_2); (try clear hcz47_3); (try clear hcz47_4); (try clear hcz47_5); (try clear hcz47_6); (try clear hcz49_0); (try clear hcz49_1); (try clear hcz49_2); (try clear hcz49_3); (try clear hcz49_4); (try clear hcz49_5); (try clear hcz49_6); (try clear hcz50_0); (try clear hcz50_1); (try clear hcz50_2); (try clear hcz50_3); (try clear hcz50_4); (try clear hcz50_5); (try clear hcz50_6); (try clear hcz53_0); (try clear hcz53_1); (try clear hcz53_2); (try clear hcz53_3); (try clear hcz53_4); (try clear hcz53_5); (try clear hcz53_6); (try clear hcz9_0); (try clear hcz9_1); (try clear hcz9_2); (try clear hcz9_3); (try clear hcz9_4); (try clear hcz9_5); (try clear hcz9_6); (try clear hfz12_0); (try clear hfz12_1); (try clear hfz12_2); (try clear hfz12_3); (try clear hfz12_4); (try clear hfz12_5); (try clear hfz12_6); (try clear hfz16_0); (try clear hfz16_1); (try clear hfz16_2); (try clear hfz16_3); (try clear hfz16_4); (try clear hfz16_5); (try clear hfz16_6); (try clear hfz18_0); (try clear hfz18_1); (try clear hfz18_2); (try clear hfz18_3); (try clear hfz18_4); (try clear hfz18_5); (try clear hfz18_6); (try clear hfz23_0); (try clear hfz23_1); (try clear hfz23_2); (try clear hfz23_3); (try clear hfz23_4); (try clear hfz23_5); (try clear hfz23_6); (try clear hfz24_0); (try clear hfz24_1); (try clear hfz24_2); (try clear hfz24_3); (try clear hfz24_4); (try clear hfz24_5); (try clear hfz24_6); (try clear hfz26_0); (try clear hfz26_1); (try clear hfz26_2); (try clear hfz26_3); (try clear hfz26_4); (try clear hfz26_5); (try clear hfz26_6); (try clear hfz27_0); (try clear hfz27_1); (try clear hfz27_2); (try clear hfz27_3); (try clear hfz27_4); (try clear hfz27_5); (try clear hfz27_6); (try clear hfz29_0); (try clear hfz29_1); (try clear hfz29_2); (try clear hfz29_3); (try clear hfz29_4); (try clear hfz29_5); (try clear hfz29_6); (try clear hfz30_0); (try clear hfz30_1); (try clear hfz30_2); (try clear hfz30_3); (try clear hfz30_4); (try clear hfz30_5); (try clear hfz30_6); (try clear hfz37_0); (try clear hfz37_1); (try clear hfz37_2); (try clear hfz37_3); (try clear hfz37_4); (try clear hfz37_5); (try clear hfz37_6); (try clear hfz38_0); (try clear hfz38_1); (try clear hfz38_2); (try clear hfz38_3); (try clear hfz38_4); (try clear hfz38_5); (try clear hfz38_6); (try clear hfz40_0); (try clear hfz40_1); (try clear hfz40_2); (try clear hfz40_3); (try clear hfz40_4); (try clear hfz40_5); (try clear hfz40_6); (try clear hfz41_0); (try clear hfz41_1); (try clear hfz41_2); (try clear hfz41_3); (try clear hfz41_4); (try clear hfz41_5); (try clear hfz41_6); (try clear hfz43_0); (try clear hfz43_1); (try clear hfz43_2); (try clear hfz43_3); (try clear hfz43_4); (try clear hfz43_5); (try clear hfz43_6); (try clear hfz44_0); (try clear hfz44_1); (try clear hfz44_2); (try clear hfz44_3); (try clear hfz44_4); (try clear hfz44_5); (try clear hfz44_6); (try clear hfz46_0); (try clear hfz46_1); (try clear hfz46_2); (try clear hfz46_3); (try clear hfz46_4); (try clear hfz46_5); (try clear hfz46_6); (try clear hfz47_0); (try clear hfz47_1); (try clear hfz47_2); (try clear hfz47_3); (try clear hfz47_4); (try clear hfz47_5); (try clear hfz47_6); (try clear hfz49_0); (try clear hfz49_1); (try clear hfz49_2); (try clear hfz49_3); (try clear hfz49_4); (try clear hfz49_5); (try clear hfz49_6); (try clear hfz50_0); (try clear hfz50_1); (try clear hfz50_2); (try clear hfz50_3); (try clear hfz50_4); (try clear hfz50_5); (try clear hfz50_6); (try clear hfz53_0); (try clear hfz53_1); (try clear hfz53_2); (try clear hfz53_3); (try clear hfz53_4); (try clear hfz53_5); (try clear hfz53_6); (try clear hfz9_0); (try clear hfz9_1); (try clear hfz9_2); (try clear hfz9_3); (try clear hfz9_4); (try clear hfz9_5); (try clear hfz9_6); (try clear hx202_0); (try clear hx202_1); (try clear hx202_2); (try clear hx202_3); (try clear hx202_4); (try clear hx202_5); (try clear hx202_6); (try clear p2); (try clear p202); (try clear q2); (try clear q202)
           obtain ⟨kq, x60_50, rfl, HA, HJ50, BK203, BK205, HB⟩ := hcut
           cases kq with
           | zero => exact absurd HA.out (by simp [core_right.j2])
           | succ kj50 =>
            have H := HA.out
            clear HA
            simp only [core_right.j2] at H
            by_cases c55 : x60_50 = true
            ·subst c55
             have H1 : (if x10_6 = true then ((lexis_Name.f kj50 ((rd_T55 l0 x13_1).f3)).bind fun t206 => (if t206 = true then ((strings_ContainsAny.f ((rd_T55 l0 x13_1).f3) (⟨#[58, 126]⟩ : ByteArray)).bind fun t207 => (if t207 = true then (some false) else (if (!(((rd_T55 l0 x13_1).f0) == ((rd_T55 l0 x13_1).f0)) || ((!(((rd_T55 l0 x13_1).f1.f0) == 0) || (!(((rd_T55 l0 x13_1).f1.f1) == 0) || (!(((rd_T55 l0 x13_1).f1.f2) == 0) || (!(((rd_T55 l0 x13_1).f1.f3) == 0))))) || (!(((rd_T55 l0 x13_1).f2) == 0)))) = true then (some false) else (core_right.l0 kj50 a1 (wrap64 (x5_1 + (wrap64 (1 - t204)))) l0 (l0.length : Int) (wrap64 (x13_1 + 1)))))) else (some false))) else (some false)) = some r := by rw [if_pos rfl] at H; exact H
             clear H
             have H := H1
             clear H1
             by_cases c56 : x10_6 = true
             ·subst c56
              have H1 : ((lexis_Name.f kj50 ((rd_T55 l0 x13_1).f3)).bind fun t206 => (if t206 = true then ((strings_ContainsAny.f ((rd_T55 l0 x13_1).f3) (⟨#[58, 126]⟩ : ByteArray)).bind fun t207 => (if t207 = true then (some false) else (if (!(((rd_T55 l0 x13_1).f0) == ((rd_T55 l0 x13_1).f0)) || ((!(((rd_T55 l0 x13_1).f1.f0) == 0) || (!(((rd_T55 l0 x13_1).f1.f1) == 0) || (!(((rd_T55 l0 x13_1).f1.f2) == 0) || (!(((rd_T55 l0 x13_1).f1.f3) == 0))))) || (!(((rd_T55 l0 x13_1).f2) == 0)))) = true then (some false) else (core_right.l0 kj50 a1 (wrap64 (x5_1 + (wrap64 (1 - t204)))) l0 (l0.length : Int) (wrap64 (x13_1 + 1)))))) else (some false))) = some r := by rw [if_pos rfl] at H; exact H
              clear H
              have H := H1
              clear H1
              replace H := Option.bind_eq_some_iff.mp H
              obtain ⟨t206, A570, H⟩ := H
              replace H : (if t206 = true then ((strings_ContainsAny.f ((rd_T55 l0 x13_1).f3) (⟨#[58, 126]⟩ : ByteArray)).bind fun t207 => (if t207 = true then (some false) else (if (!(((rd_T55 l0 x13_1).f0) == ((rd_T55 l0 x13_1).f0)) || ((!(((rd_T55 l0 x13_1).f1.f0) == 0) || (!(((rd_T55 l0 x13_1).f1.f1) == 0) || (!(((rd_T55 l0 x13_1).f1.f2) == 0) || (!(((rd_T55 l0 x13_1).f1.f3) == 0))))) || (!(((rd_T55 l0 x13_1).f2) == 0)))) = true then (some false) else (core_right.l0 kj50 a1 (wrap64 (x5_1 + (wrap64 (1 - t204)))) l0 (l0.length : Int) (wrap64 (x13_1 + 1)))))) else (some false)) = some r := H
              have A57 := aK A570; clear A570
              by_cases c58 : t206 = true
              ·subst c58
               have H1 : ((strings_ContainsAny.f ((rd_T55 l0 x13_1).f3) (⟨#[58, 126]⟩ : ByteArray)).bind fun t207 => (if t207 = true then (some false) else (if (!(((rd_T55 l0 x13_1).f0) == ((rd_T55 l0 x13_1).f0)) || ((!(((rd_T55 l0 x13_1).f1.f0) == 0) || (!(((rd_T55 l0 x13_1).f1.f1) == 0) || (!(((rd_T55 l0 x13_1).f1.f2) == 0) || (!(((rd_T55 l0 x13_1).f1.f3) == 0))))) || (!(((rd_T55 l0 x13_1).f2) == 0)))) = true then (some false) else (core_right.l0 kj50 a1 (wrap64 (x5_1 + (wrap64 (1 - t204)))) l0 (l0.length : Int) (wrap64 (x13_1 + 1)))))) = some r := by rw [if_pos rfl] at H; exact H
               clear H
               have H := H1
               clear H1
               replace H := Option.bind_eq_some_iff.mp H
               obtain ⟨t207, A590, H⟩ := H
               replace H : (if t207 = true then (some false) else (if (!(((rd_T55 l0 x13_1).f0) == ((rd_T55 l0 x13_1).f0)) || ((!(((rd_T55 l0 x13_1).f1.f0) == 0) || (!(((rd_T55 l0 x13_1).f1.f1) == 0) || (!(((rd_T55 l0 x13_1).f1.f2) == 0) || (!(((rd_T55 l0 x13_1).f1.f3) == 0))))) || (!(((rd_T55 l0 x13_1).f2) == 0)))) = true then (some false) else (core_right.l0 kj50 a1 (wrap64 (x5_1 + (wrap64 (1 - t204)))) l0 (l0.length : Int) (wrap64 (x13_1 + 1))))) = some r := H
               have A59 := aK A590; clear A590
               by_cases c60 : t207 = true
               ·subst c60
                have H1 : (some false) = some r := by rw [if_pos rfl] at H; exact H
                clear H
                have H := H1
                clear H1
                obtain rfl := Option.some.inj H
                have hnb61 := NB203_205.out
                have hnc61 := NB205_203.out
                obtain ⟨hcz62_0, hcz62_1, hcz62_2, hcz62_3, hcz62_4, hcz62_5, hcz62_6⟩ := ck7 BK203.out
                obtain ⟨hfz62_0, hfz62_1, hfz62_2, hfz62_3, hfz62_4, hfz62_5, hfz62_6⟩ := fk7 BK203.out
                obtain ⟨hcz63_0, hcz63_1, hcz63_2, hcz63_3, hcz63_4, hcz63_5, hcz63_6⟩ := ck7 BK205.out
                obtain ⟨hfz63_0, hfz63_1, hfz63_2, hfz63_3, hfz63_4, hfz63_5, hfz63_6⟩ := fk7 BK205.out
                go_wp2_with (first | (go_at_call 19; (with_reducible refine (lexis_Name.calls kj50 ((rd_T55 l0 x13_1).f3) true _ A57.out).mono ?_); rintro e w' ⟨rfl, ⟨nd, rfl⟩⟩) | (go_at_call 33; (with_reducible refine (strings_ContainsAny.calls ((rd_T55 l0 x13_1).f3) (⟨#[58, 126]⟩ : ByteArray) true _ A59.out).mono ?_); rintro e w64 ⟨rfl, hb⟩; have n0_ := aK (blk_below (g := gb203) (o := .cells #[.int .i64 ((rd_T55 l0 x13_1).f0), .int .u64 ((rd_T55 l0 x13_1).f1.f0), .int .u64 ((rd_T55 l0 x13_1).f1.f1), .int .u64 ((rd_T55 l0 x13_1).f1.f2), .int .u64 ((rd_T55 l0 x13_1).f1.f3), .int .i64 ((rd_T55 l0 x13_1).f2), .string ((rd_T55 l0 x13_1).f3)] 55 (0, 0)) qDoor15_6 hb); have n1_ := aK (blk_below (g := gb205) (o := .cells #[.int .i64 ((rd_T55 l0 x13_1).f0), .int .u64 0, .int .u64 0, .int .u64 0, .int .u64 0, .int .i64 0, .string ((rd_T55 l0 x13_1).f3)] 55 (0, 0)) qDoor15_5 hb); have n2_ := aK (below_step qDoor15_2 hb); clear BK203; clear BK205; clear HB; have BK203 := n0_; have BK205 := n1_; have HB := n2_; clear n0_ n1_ n2_; (try clear hb); (try clear hb2); (try clear hk); (try clear hi)))
                go_ret
                exact ⟨qDoor15_4, qDoor15_2⟩
               ·replace c60 := Bool.eq_false_iff.mpr c60
                subst c60
                have H1 : (if (!(((rd_T55 l0 x13_1).f0) == ((rd_T55 l0 x13_1).f0)) || ((!(((rd_T55 l0 x13_1).f1.f0) == 0) || (!(((rd_T55 l0 x13_1).f1.f1) == 0) || (!(((rd_T55 l0 x13_1).f1.f2) == 0) || (!(((rd_T55 l0 x13_1).f1.f3) == 0))))) || (!(((rd_T55 l0 x13_1).f2) == 0)))) = true then (some false) else (core_right.l0 kj50 a1 (wrap64 (x5_1 + (wrap64 (1 - t204)))) l0 (l0.length : Int) (wrap64 (x13_1 + 1)))) = some r := by rw [if_neg (show ¬ (false = true) by decide)] at H; exact H
                clear H
                have H := H1
                clear H1
                by_cases c65 : (!(((rd_T55 l0 x13_1).f0) == ((rd_T55 l0 x13_1).f0)) || ((!(((rd_T55 l0 x13_1).f1.f0) == 0) || (!(((rd_T55 l0 x13_1).f1.f1) == 0) || (!(((rd_T55 l0 x13_1).f1.f2) == 0) || (!(((rd_T55 l0 x13_1).f1.f3) == 0))))) || (!(((rd_T55 l0 x13_1).f2) == 0)))) = true
                ·rw [if_pos c65] at H
                 have c65b0 : (!(((rd_T55 l0 x13_1).f0) == ((rd_T55 l0 x13_1).f0)) || ((!(((rd_T55 l0 x13_1).f1.f0) == 0) || (!(((rd_T55 l0 x13_1).f1.f1) == 0) || (!(((rd_T55 l0 x13_1).f1.f2) == 0) || (!(((rd_T55 l0 x13_1).f1.f3) == 0))))) || (!(((rd_T55 l0 x13_1).f2) == 0)))) = true := c65
                 have c65b9 := c65b0
                 try simp only [beq_self_eq_true, Bool.not_true, Bool.false_or, Bool.or_false, beq_nil_bytes] at c65b9
                 clear c65
                 obtain rfl := Option.some.inj H
                 have hnb66 := NB203_205.out
                 have hnc66 := NB205_203.out
                 obtain ⟨hcz67_0, hcz67_1, hcz67_2, hcz67_3, hcz67_4, hcz67_5, hcz67_6⟩ := ck7 BK203.out
                 obtain ⟨hfz67_0, hfz67_1, hfz67_2, hfz67_3, hfz67_4, hfz67_5, hfz67_6⟩ := fk7 BK203.out
                 obtain ⟨hcz68_0, hcz68_1, hcz68_2, hcz68_3, hcz68_4, hcz68_5, hcz68_6⟩ := ck7 BK205.out
                 obtain ⟨hfz68_0, hfz68_1, hfz68_2, hfz68_3, hfz68_4, hfz68_5, hfz68_6⟩ := fk7 BK205.out
                 go_wp2_with (first | (go_at_call 19; (with_reducible refine (lexis_Name.calls kj50 ((rd_T55 l0 x13_1).f3) true _ A57.out).mono ?_); rintro e w' ⟨rfl, ⟨nd, rfl⟩⟩) | (go_at_call 33; (with_reducible refine (strings_ContainsAny.calls ((rd_T55 l0 x13_1).f3) (⟨#[58, 126]⟩ : ByteArray) false _ A59.out).mono ?_); rintro e w69 ⟨rfl, hb⟩; have n0_ := aK (blk_below (g := gb203) (o := .cells #[.int .i64 ((rd_T55 l0 x13_1).f0), .int .u64 ((rd_T55 l0 x13_1).f1.f0), .int .u64 ((rd_T55 l0 x13_1).f1.f1), .int .u64 ((rd_T55 l0 x13_1).f1.f2), .int .u64 ((rd_T55 l0 x13_1).f1.f3), .int .i64 ((rd_T55 l0 x13_1).f2), .string ((rd_T55 l0 x13_1).f3)] 55 (0, 0)) qDoor15_6 hb); have n1_ := aK (blk_below (g := gb205) (o := .cells #[.int .i64 ((rd_T55 l0 x13_1).f0), .int .u64 0, .int .u64 0, .int .u64 0, .int .u64 0, .int .i64 0, .string ((rd_T55 l0 x13_1).f3)] 55 (0, 0)) qDoor15_5 hb); have n2_ := aK (below_step qDoor15_2 hb); clear BK203; clear BK205; clear HB; have BK203 := n0_; have BK205 := n1_; have HB := n2_; clear n0_ n1_ n2_; (try clear hb); (try clear hb2); (try clear hk); (try clear hi); obtain ⟨hcz70_0, hcz70_1, hcz70_2, hcz70_3, hcz70_4, hcz70_5, hcz70_6⟩ := ck7 BK203.out; obtain ⟨hfz70_0, hfz70_1, hfz70_2, hfz70_3, hfz70_4, hfz70_5, hfz70_6⟩ := fk7 BK203.out; obtain ⟨hcz71_0, hcz71_1, hcz71_2, hcz71_3, hcz71_4, hcz71_5, hcz71_6⟩ := ck7 BK205.out; obtain ⟨hfz71_0, hfz71_1, hfz71_2, hfz71_3, hfz71_4, hfz71_5, hfz71_6⟩ := fk7 BK205.out))
                 go_ret
                 exact ⟨qDoor15_4, qDoor15_2⟩
                ·rw [if_neg c65] at H
                 have c65b0 : (!(((rd_T55 l0 x13_1).f0) == ((rd_T55 l0 x13_1).f0)) || ((!(((rd_T55 l0 x13_1).f1.f0) == 0) || (!(((rd_T55 l0 x13_1).f1.f1) == 0) || (!(((rd_T55 l0 x13_1).f1.f2) == 0) || (!(((rd_T55 l0 x13_1).f1.f3) == 0))))) || (!(((rd_T55 l0 x13_1).f2) == 0)))) = false := by simpa using c65
                 have c65b9 := c65b0
                 try simp only [beq_self_eq_true, Bool.not_true, Bool.false_or, Bool.or_false, beq_nil_bytes] at c65b9
                 clear c65
                 have H' := aK H
                 clear H
                 have hnb72 := NB203_205.out
                 have hnc72 := NB205_203.out
                 obtain ⟨hcz73_0, hcz73_1, hcz73_2, hcz73_3, hcz73_4, hcz73_5, hcz73_6⟩ := ck7 BK203.out
                 obtain ⟨hfz73_0, hfz73_1, hfz73_2, hfz73_3, hfz73_4, hfz73_5, hfz73_6⟩ := fk7 BK203.out
                 obtain ⟨hcz74_0, hcz74_1, hcz74_2, hcz74_3, hcz74_4, hcz74_5, hcz74_6⟩ := ck7 BK205.out
                 obtain ⟨hfz74_0, hfz74_1, hfz74_2, hfz74_3, hfz74_4, hfz74_5, hfz74_6⟩ := fk7 BK205.out
                 go_wp2_with (first | (go_at_call 19; (with_reducible refine (lexis_Name.calls kj50 ((rd_T55 l0 x13_1).f3) true _ A57.out).mono ?_); rintro e w' ⟨rfl, ⟨nd, rfl⟩⟩) | (go_at_call 33; (with_reducible refine (strings_ContainsAny.calls ((rd_T55 l0 x13_1).f3) (⟨#[58, 126]⟩ : ByteArray) false _ A59.out).mono ?_); rintro e w75 ⟨rfl, hb⟩; have n0_ := aK (blk_below (g := gb203) (o := .cells #[.int .i64 ((rd_T55 l0 x13_1).f0), .int .u64 ((rd_T55 l0 x13_1).f1.f0), .int .u64 ((rd_T55 l0 x13_1).f1.f1), .int .u64 ((rd_T55 l0 x13_1).f1.f2), .int .u64 ((rd_T55 l0 x13_1).f1.f3), .int .i64 ((rd_T55 l0 x13_1).f2), .string ((rd_T55 l0 x13_1).f3)] 55 (0, 0)) qDoor15_6 hb); have n1_ := aK (blk_below (g := gb205) (o := .cells #[.int .i64 ((rd_T55 l0 x13_1).f0), .int .u64 0, .int .u64 0, .int .u64 0, .int .u64 0, .int .i64 0, .string ((rd_T55 l0 x13_1).f3)] 55 (0, 0)) qDoor15_5 hb); have n2_ := aK (below_step qDoor15_2 hb); clear BK203; clear BK205; clear HB; have BK203 := n0_; have BK205 := n1_; have HB := n2_; clear n0_ n1_ n2_; (try clear hb); (try clear hb2); (try clear hk); (try clear hi); obtain ⟨hcz76_0, hcz76_1, hcz76_2, hcz76_3, hcz76_4, hcz76_5, hcz76_6⟩ := ck7 BK203.out; obtain ⟨hfz76_0, hfz76_1, hfz76_2, hfz76_3, hfz76_4, hfz76_5, hfz76_6⟩ := fk7 BK203.out; obtain ⟨hcz77_0, hcz77_1, hcz77_2, hcz77_3, hcz77_4, hcz77_5, hcz77_6⟩ := ck7 BK205.out; obtain ⟨hfz77_0, hfz77_1, hfz77_2, hfz77_3, hfz77_4, hfz77_5, hfz77_6⟩ := fk7 BK205.out))
                 go_roundg kj50
                 case measure => have := HK1.out; have := HJ6.out; have := HJ50.out; omega
                 case rel => exact ⟨(wrap64 (x5_1 + (wrap64 (1 - t204)))), (wrap64 (x13_1 + 1)), qDoor15_7, qDoor15_7, H', ⟨by have := HK1.out; have := HJ6.out; have := HJ50.out; omega⟩, ⟨qDoor15_2⟩⟩
              ·replace c58 := Bool.eq_false_iff.mpr c58
               subst c58
               have H1 : (some false) = some r := by rw [if_neg (show ¬ (false = true) by decide)] at H; exact H
               clear H
               have H := H1
               clear H1
               obtain rfl := Option.some.inj H
               have hnb78 := NB203_205.out
               have hnc78 := NB205_203.out
               obtain ⟨hcz79_0, hcz79_1, hcz79_2, hcz79_3, hcz79_4, hcz79_5, hcz79_6⟩ := ck7 BK203.out
               obtain ⟨hfz79_0, hfz79_1, hfz79_2, hfz79_3, hfz79_4, hfz79_5, hfz79_6⟩ := fk7 BK203.out
               obtain ⟨hcz80_0, hcz80_1, hcz80_2, hcz80_3, hcz80_4, hcz80_5, hcz80_6⟩ := ck7 BK205.out
               obtain ⟨hfz80_0, hfz80_1, hfz80_2, hfz80_3, hfz80_4, hfz80_5, hfz80_6⟩ := fk7 BK205.out
               go_wp2_with (first | (go_at_call 19; (with_reducible refine (lexis_Name.calls kj50 ((rd_T55 l0 x13_1).f3) false _ A57.out).mono ?_); rintro e w' ⟨rfl, ⟨nd, rfl⟩⟩))
               go_ret
               exact ⟨qDoor15_4, qDoor15_2⟩
             ·replace c56 := Bool.eq_false_iff.mpr c56
              subst c56
              have H1 : (some false) = some r := by rw [if_neg (show ¬ (false = true) by decide)] at H; exact H
              clear H
              have H := H1
              clear H1
              obtain rfl := Option.some.inj H
              have hnb81 := NB203_205.out
              have hnc81 := NB205_203.out
              obtain ⟨hcz82_0, hcz82_1, hcz82_2, hcz82_3, hcz82_4, hcz82_5, hcz82_6⟩ := ck7 BK203.out
              obtain ⟨hfz82_0, hfz82_1, hfz82_2, hfz82_3, hfz82_4, hfz82_5, hfz82_6⟩ := fk7 BK203.out
              obtain ⟨hcz83_0, hcz83_1, hcz83_2, hcz83_3, hcz83_4, hcz83_5, hcz83_6⟩ := ck7 BK205.out
              obtain ⟨hfz83_0, hfz83_1, hfz83_2, hfz83_3, hfz83_4, hfz83_5, hfz83_6⟩ := fk7 BK205.out
              go_wp2
              go_ret
              exact ⟨qDoor15_4, qDoor15_2⟩
            ·replace c55 := Bool.eq_false_iff.mpr c55
             subst c55
             have H1 : (if x10_6 = true then (if (!(((rd_T55 l0 x13_1).f0) == ((rd_T55 l0 x13_1).f0)) || ((!(((rd_T55 l0 x13_1).f1.f0) == 0) || (!(((rd_T55 l0 x13_1).f1.f1) == 0) || (!(((rd_T55 l0 x13_1).f1.f2) == 0) || (!(((rd_T55 l0 x13_1).f1.f3) == 0))))) || (!(((rd_T55 l0 x13_1).f2) == 0) || (!(((rd_T55 l0 x13_1).f3).toList == (⟨#[]⟩ : ByteArray).toList))))) = true then (some false) else (core_right.l0 kj50 a1 (wrap64 (x5_1 + (wrap64 (1 - t204)))) l0 (l0.length : Int) (wrap64 (x13_1 + 1)))) else (some false)) = some r := by rw [if_neg (show ¬ (false = true) by decide)] at H; exact H
             clear H
             have H := H1
             clear H1
             by_cases c84 : x10_6 = true
             ·subst c84
              have H1 : (if (!(((rd_T55 l0 x13_1).f0) == ((rd_T55 l0 x13_1).f0)) || ((!(((rd_T55 l0 x13_1).f1.f0) == 0) || (!(((rd_T55 l0 x13_1).f1.f1) == 0) || (!(((rd_T55 l0 x13_1).f1.f2) == 0) || (!(((rd_T55 l0 x13_1).f1.f3) == 0))))) || (!(((rd_T55 l0 x13_1).f2) == 0) || (!(((rd_T55 l0 x13_1).f3).toList == (⟨#[]⟩ : ByteArray).toList))))) = true then (some false) else (core_right.l0 kj50 a1 (wrap64 (x5_1 + (wrap64 (1 - t204)))) l0 (l0.length : Int) (wrap64 (x13_1 + 1)))) = some r := by rw [if_pos rfl] at H; exact H
              clear H
              have H := H1
              clear H1
              by_cases c85 : (!(((rd_T55 l0 x13_1).f0) == ((rd_T55 l0 x13_1).f0)) || ((!(((rd_T55 l0 x13_1).f1.f0) == 0) || (!(((rd_T55 l0 x13_1).f1.f1) == 0) || (!(((rd_T55 l0 x13_1).f1.f2) == 0) || (!(((rd_T55 l0 x13_1).f1.f3) == 0))))) || (!(((rd_T55 l0 x13_1).f2) == 0) || (!(((rd_T55 l0 x13_1).f3).toList == (⟨#[]⟩ : ByteArray).toList))))) = true
              ·rw [if_pos c85] at H
               have c85b0 : (!(((rd_T55 l0 x13_1).f0) == ((rd_T55 l0 x13_1).f0)) || ((!(((rd_T55 l0 x13_1).f1.f0) == 0) || (!(((rd_T55 l0 x13_1).f1.f1) == 0) || (!(((rd_T55 l0 x13_1).f1.f2) == 0) || (!(((rd_T55 l0 x13_1).f1.f3) == 0))))) || (!(((rd_T55 l0 x13_1).f2) == 0) || (!(((rd_T55 l0 x13_1).f3).toList == (⟨#[]⟩ : ByteArray).toList))))) = true := c85
               have c85b9 := c85b0
               try simp only [beq_self_eq_true, Bool.not_true, Bool.false_or, Bool.or_false, beq_nil_bytes] at c85b9
               clear c85
               obtain rfl := Option.some.inj H
               have hnb86 := NB203_205.out
               have hnc86 := NB205_203.out
               obtain ⟨hcz87_0, hcz87_1, hcz87_2, hcz87_3, hcz87_4, hcz87_5, hcz87_6⟩ := ck7 BK203.out
               obtain ⟨hfz87_0, hfz87_1, hfz87_2, hfz87_3, hfz87_4, hfz87_5, hfz87_6⟩ := fk7 BK203.out
               obtain ⟨hcz88_0, hcz88_1, hcz88_2, hcz88_3, hcz88_4, hcz88_5, hcz88_6⟩ := ck7 BK205.out
               obtain ⟨hfz88_0, hfz88_1, hfz88_2, hfz88_3, hfz88_4, hfz88_5, hfz88_6⟩ := fk7 BK205.out
               go_wp2
               go_ret
               exact ⟨qDoor15_4, qDoor15_2⟩
              ·rw [if_neg c85] at H
               have c85b0 : (!(((rd_T55 l0 x13_1).f0) == ((rd_T55 l0 x13_1).f0)) || ((!(((rd_T55 l0 x13_1).f1.f0) == 0) || (!(((rd_T55 l0 x13_1).f1.f1) == 0) || (!(((rd_T55 l0 x13_1).f1.f2) == 0) || (!(((rd_T55 l0 x13_1).f1.f3) == 0))))) || (!(((rd_T55 l0 x13_1).f2) == 0) || (!(((rd_T55 l0 x13_1).f3).toList == (⟨#[]⟩ : ByteArray).toList))))) = false := by simpa using c85
               have c85b9 := c85b0
               try simp only [beq_self_eq_true, Bool.not_true, Bool.false_or, Bool.or_false, beq_nil_bytes] at c85b9
               clear c85
               have H' := aK H
               clear H
               have hnb89 := NB203_205.out
               have hnc89 := NB205_203.out
               obtain ⟨hcz90_0, hcz90_1, hcz90_2, hcz90_3, hcz90_4, hcz90_5, hcz90_6⟩ := ck7 BK203.out
               obtain ⟨hfz90_0, hfz90_1, hfz90_2, hfz90_3, hfz90_4, hfz90_5, hfz90_6⟩ := fk7 BK203.out
               obtain ⟨hcz91_0, hcz91_1, hcz91_2, hcz91_3, hcz91_4, hcz91_5, hcz91_6⟩ := ck7 BK205.out
               obtain ⟨hfz91_0, hfz91_1, hfz91_2, hfz91_3, hfz91_4, hfz91_5, hfz91_6⟩ := fk7 BK205.out
               go_wp2
               go_roundg kj50
               case measure => have := HK1.out; have := HJ6.out; have := HJ50.out; omega
               case rel => exact ⟨(wrap64 (x5_1 + (wrap64 (1 - t204)))), (wrap64 (x13_1 + 1)), qDoor15_7, qDoor15_7, H', ⟨by have := HK1.out; have := HJ6.out; have := HJ50.out; omega⟩, ⟨qDoor15_2⟩⟩
             ·replace c84 := Bool.eq_false_iff.mpr c84
              subst c84
              have H1 : (some false) = some r := by rw [if_neg (show ¬ (false = true) by decide)] at H; exact H
              clear H
              have H := H1
              clear H1
              obtain rfl := Option.some.inj H
              go_wp2
              go_ret
              exact ⟨qDoor15_4, qDoor15_2⟩
     ·rw [if_neg c5] at H
      exact absurd H (by simp)
    ·rw [if_neg c4] at H
     exact absurd H (by simp)
   ·rw [if_neg c3] at H
    have c3b0 : decide (x13_1 < (l0.length : Int)) = false := decide_eq_false c3
    clear c3
    obtain rfl := Option.some.inj H
    go_wp2
    go_ret
    exact ⟨qDoor15_4, qDoor15_8⟩
end Go.Proofs.YtihiicjnjhideaaDoor.PAll
end
