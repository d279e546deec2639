/- Parts of the proof of coreOrder: PAllx9. No condition beyond each lemma's own. -/
import Derived.Test.YtihiicjnjhideaaDoorTO5
section
namespace Go.Proofs.YtihiicjnjhideaaDoor.PAll
open Go.RowKit Go.Proofs.YtihiicjnjhideaaDoorW.PrintWords Go.Proofs.YtihiicjnjhideaaDoorW.PrintLast Go.Proofs.YtihiicjnjhideaaDoorW.PrintMore
attribute [local go_sem] max2_int max_two
set_option linter.unusedVariables false
set_option linter.unusedSimpArgs false
theorem qDoor9_11 {p : Prop} (h : p := by have := HK1.out; have := HJ8.out; first | omega | exact Nat.le_refl _) : p := h
theorem qDoor9_10 {p : Prop} (h : p := by first | rfl | (simp; done) | (simp only [← hji22] <;> (first | rfl | simp)) | (simp [*]; done)) : p := h
theorem qDoor9_9 {p : Prop} (h : p := by have := HK1.out; have := HJ8.out; have := HJ14.out; have := HK4.out; first | omega | exact Nat.le_refl _) : p := h
theorem qDoor9_8 {p : Prop} (h : p := by have := HK1.out; have := HJ8.out; have := HJ14.out; have := HK4.out; have := HJ16.out; omega) : p := h
theorem qDoor9_7 {p : Prop} (h : p := by repeat (first | (with_reducible first | exact HB.out | apply below_alloc | apply pw_below_drewN | apply below_drew1) | exact HB.out)) : p := h
theorem qDoor9_6 {p : Prop} (h : p := by first | rfl | (simp; done) | (simp [*]; done)) : p := h
theorem qDoor9_5 {p : Prop} (h : p := by first | (with_reducible assumption) | assumption) : p := h
theorem qDoor9_4 {p : Prop} (h : p := by (with_reducible repeat (first | refine blk_drewN ?_ _ | refine blk_drew ?_ | refine blk_alloc ?_ _)); exact BK132.out) : p := h
theorem qDoor9_3 {p : Prop} (h : p := by (with_reducible repeat (first | apply Kd.R_alloc | apply Kd.R_drewN | apply Kd.R_drew)); exact HO_3.out) : p := h
theorem qDoor9_2 {p : Prop} (h : p := by (with_reducible repeat (first | apply Kd.R_alloc | apply Kd.R_drewN | apply Kd.R_drew)); exact Kd.R_mono (Kd.R_far (p := ⟨gb132, 9, none⟩) (Kd.R_far (p := ⟨gb132, 8, none⟩) (Kd.R_far (p := ⟨gb132, 7, none⟩) (Kd.R_far (p := ⟨gb132, 6, none⟩) (Kd.R_far (p := ⟨gb132, 5, none⟩) (Kd.R_far (p := ⟨gb132, 4, none⟩) (Kd.R_far (p := ⟨gb132, 3, none⟩) (Kd.R_far (p := ⟨gb132, 2, none⟩) (Kd.R_far (p := ⟨gb132, 1, none⟩) (Kd.R_far (p := ⟨gb132, 0, none⟩) (Kd.R_types HO_3.out BK132.out (by decide)) (fun _ hk => hk.2) (.int .i64 ((rd_T51 l0 x13_1).f0))) (fun _ hk => hk.2) (.int .i64 ((rd_T51 l0 x13_1).f1))) (fun _ hk => hk.2) (.string ((rd_T51 l0 x13_1).f2))) (fun _ hk => hk.2) (.bool ((rd_T51 l0 x13_1).f3))) (fun _ hk => hk.2) (.int .u64 ((rd_T51 l0 x13_1).f4.f0))) (fun _ hk => hk.2) (.int .u64 ((rd_T51 l0 x13_1).f4.f1))) (fun _ hk => hk.2) (.int .u64 ((rd_T51 l0 x13_1).f4.f2))) (fun _ hk => hk.2) (.int .u64 ((rd_T51 l0 x13_1).f4.f3))) (fun _ hk => hk.2) (.int .i64 ((rd_T51 l0 x13_1).f5))) (fun _ hk => hk.2) (.int .i64 ((rd_T51 l0 x13_1).f6))) (fun _ hk => trivial)) : p := h
theorem qDoor9_1 {p : Prop} (h : p := by repeat (first | (with_reducible first | exact HB.out | apply below_alloc | apply pw_below_drewN | apply below_drew1 | refine below_set ?_ GE132.out) | exact HB.out)) : p := h
theorem qDoor9_0 {p : Prop} (h : p := by (with_reducible repeat (first | refine blk_drewN ?_ _ | refine blk_drew ?_ | refine blk_alloc ?_ _)); refine blk_put (cs := #[.int .i64 ((rd_T51 l0 x13_1).f0), .int .i64 ((rd_T51 l0 x13_1).f1), .string ((rd_T51 l0 x13_1).f2), .bool ((rd_T51 l0 x13_1).f3), .int .u64 ((rd_T51 l0 x13_1).f4.f0), .int .u64 ((rd_T51 l0 x13_1).f4.f1), .int .u64 ((rd_T51 l0 x13_1).f4.f2), .int .u64 ((rd_T51 l0 x13_1).f4.f3), .int .i64 ((rd_T51 l0 x13_1).f5), .int .i64 0]) ?_ 9 _ rfl; (with_reducible repeat (first | refine blk_drewN ?_ _ | refine blk_drew ?_ | refine blk_alloc ?_ _)); refine blk_put (cs := #[.int .i64 ((rd_T51 l0 x13_1).f0), .int .i64 ((rd_T51 l0 x13_1).f1), .string ((rd_T51 l0 x13_1).f2), .bool ((rd_T51 l0 x13_1).f3), .int .u64 ((rd_T51 l0 x13_1).f4.f0), .int .u64 ((rd_T51 l0 x13_1).f4.f1), .int .u64 ((rd_T51 l0 x13_1).f4.f2), .int .u64 ((rd_T51 l0 x13_1).f4.f3), .int .i64 0, .int .i64 0]) ?_ 8 _ rfl; (with_reducible repeat (first | refine blk_drewN ?_ _ | refine blk_drew ?_ | refine blk_alloc ?_ _)); refine blk_put (cs := #[.int .i64 ((rd_T51 l0 x13_1).f0), .int .i64 ((rd_T51 l0 x13_1).f1), .string ((rd_T51 l0 x13_1).f2), .bool ((rd_T51 l0 x13_1).f3), .int .u64 ((rd_T51 l0 x13_1).f4.f0), .int .u64 ((rd_T51 l0 x13_1).f4.f1), .int .u64 ((rd_T51 l0 x13_1).f4.f2), .int .u64 0, .int .i64 0, .int .i64 0]) ?_ 7 _ rfl; (with_reducible repeat (first | refine blk_drewN ?_ _ | refine blk_drew ?_ | refine blk_alloc ?_ _)); refine blk_put (cs := #[.int .i64 ((rd_T51 l0 x13_1).f0), .int .i64 ((rd_T51 l0 x13_1).f1), .string ((rd_T51 l0 x13_1).f2), .bool ((rd_T51 l0 x13_1).f3), .int .u64 ((rd_T51 l0 x13_1).f4.f0), .int .u64 ((rd_T51 l0 x13_1).f4.f1), .int .u64 0, .int .u64 0, .int .i64 0, .int .i64 0]) ?_ 6 _ rfl; (with_reducible repeat (first | refine blk_drewN ?_ _ | refine blk_drew ?_ | refine blk_alloc ?_ _)); refine blk_put (cs := #[.int .i64 ((rd_T51 l0 x13_1).f0), .int .i64 ((rd_T51 l0 x13_1).f1), .string ((rd_T51 l0 x13_1).f2), .bool ((rd_T51 l0 x13_1).f3), .int .u64 ((rd_T51 l0 x13_1).f4.f0), .int .u64 0, .int .u64 0, .int .u64 0, .int .i64 0, .int .i64 0]) ?_ 5 _ rfl; (with_reducible repeat (first | refine blk_drewN ?_ _ | refine blk_drew ?_ | refine blk_alloc ?_ _)); refine blk_put (cs := #[.int .i64 ((rd_T51 l0 x13_1).f0), .int .i64 ((rd_T51 l0 x13_1).f1), .string ((rd_T51 l0 x13_1).f2), .bool ((rd_T51 l0 x13_1).f3), .int .u64 0, .int .u64 0, .int .u64 0, .int .u64 0, .int .i64 0, .int .i64 0]) ?_ 4 _ rfl; (with_reducible repeat (first | refine blk_drewN ?_ _ | refine blk_drew ?_ | refine blk_alloc ?_ _)); refine blk_put (cs := #[.int .i64 ((rd_T51 l0 x13_1).f0), .int .i64 ((rd_T51 l0 x13_1).f1), .string ((rd_T51 l0 x13_1).f2), .bool false, .int .u64 0, .int .u64 0, .int .u64 0, .int .u64 0, .int .i64 0, .int .i64 0]) ?_ 3 _ rfl; (with_reducible repeat (first | refine blk_drewN ?_ _ | refine blk_drew ?_ | refine blk_alloc ?_ _)); refine blk_put (cs := #[.int .i64 ((rd_T51 l0 x13_1).f0), .int .i64 ((rd_T51 l0 x13_1).f1), .string (⟨#[]⟩ : ByteArray), .bool false, .int .u64 0, .int .u64 0, .int .u64 0, .int .u64 0, .int .i64 0, .int .i64 0]) ?_ 2 _ rfl; (with_reducible repeat (first | refine blk_drewN ?_ _ | refine blk_drew ?_ | refine blk_alloc ?_ _)); refine blk_put (cs := #[.int .i64 ((rd_T51 l0 x13_1).f0), .int .i64 0, .string (⟨#[]⟩ : ByteArray), .bool false, .int .u64 0, .int .u64 0, .int .u64 0, .int .u64 0, .int .i64 0, .int .i64 0]) ?_ 1 _ rfl; (with_reducible repeat (first | refine blk_drewN ?_ _ | refine blk_drew ?_ | refine blk_alloc ?_ _)); refine blk_put (cs := #[.int .i64 0, .int .i64 0, .string (⟨#[]⟩ : ByteArray), .bool false, .int .u64 0, .int .u64 0, .int .u64 0, .int .u64 0, .int .i64 0, .int .i64 0]) ?_ 0 _ rfl; (with_reducible repeat (first | refine blk_drewN ?_ _ | refine blk_drew ?_ | refine blk_alloc ?_ _)); exact BK132.out) : p := h
mutual
def script_begins.l0 : Nat → List Int → List (S51) → Int → Int → Option (List Int)
 | 0, _, _, _, _ => none
 | k + 1, x3, x11, x12, x13 => if x13 < x12 then (if 0 ≤ x13 then (if x13 < (x11.length : Int) then (if ((rd_T51 x11 x13).f1) < 0 then (script_begins.j1 k x3 x13 x13 x11 x12 x13 true ((rd_T51 x11 x13).f0) ((rd_T51 x11 x13).f1) ((rd_T51 x11 x13).f2) ((rd_T51 x11 x13).f3) ((rd_T51 x11 x13).f4.f0) ((rd_T51 x11 x13).f4.f1) ((rd_T51 x11 x13).f4.f2) ((rd_T51 x11 x13).f4.f3) ((rd_T51 x11 x13).f5) ((rd_T51 x11 x13).f6)) else (script_begins.j1 k x3 x13 x13 x11 x12 x13 (decide (((rd_T51 x11 x13).f1) > x13)) ((rd_T51 x11 x13).f0) ((rd_T51 x11 x13).f1) ((rd_T51 x11 x13).f2) ((rd_T51 x11 x13).f3) ((rd_T51 x11 x13).f4.f0) ((rd_T51 x11 x13).f4.f1) ((rd_T51 x11 x13).f4.f2) ((rd_T51 x11 x13).f4.f3) ((rd_T51 x11 x13).f5) ((rd_T51 x11 x13).f6))) else (none)) else (none)) else (some x3)
def script_begins.j1 : Nat → List Int → Int → Int → List (S51) → Int → Int → Bool → Int → Int → ByteArray → Bool → Int → Int → Int → Int → Int → Int → Option (List Int)
 | 0, _, _, _, _, _, _, _, _, _, _, _, _, _, _, _, _, _ => none
 | k + 1, x3, x4, x6, x11, x12, x13, x27, x133000, x133001, x133002, x133003, x133004, x133005, x133006, x133007, x133008, x133009 => if x27 = true then (script_begins.j2 k x3 x4 (-1) x11 x12 x13 x133000 x133001 x133002 x133003 x133004 x133005 x133006 x133007 x133008 x133009) else (script_begins.j2 k x3 x4 x6 x11 x12 x13 x133000 x133001 x133002 x133003 x133004 x133005 x133006 x133007 x133008 x133009)
def script_begins.j2 : Nat → List Int → Int → Int → List (S51) → Int → Int → Int → Int → ByteArray → Bool → Int → Int → Int → Int → Int → Int → Option (List Int)
 | 0, _, _, _, _, _, _, _, _, _, _, _, _, _, _, _, _ => none
 | k + 1, x3, x4, x6, x11, x12, x13, x133000, x133001, x133002, x133003, x133004, x133005, x133006, x133007, x133008, x133009 => script_begins.l1 k x3 x4 x6 0 x11 x12 x13 x133000 x133001 x133002 x133003 x133004 x133005 x133006 x133007 x133008 x133009
def script_begins.l1 : Nat → List Int → Int → Int → Int → List (S51) → Int → Int → Int → Int → ByteArray → Bool → Int → Int → Int → Int → Int → Int → Option (List Int)
 | 0, _, _, _, _, _, _, _, _, _, _, _, _, _, _, _, _, _ => none
 | k + 1, x3, x4, x6, x7, x11, x12, x13, x133000, x133001, x133002, x133003, x133004, x133005, x133006, x133007, x133008, x133009 => if x7 < x133001 then (script_begins.j4 k x3 x4 x6 x7 x11 x12 x13 (decide (x6 > 0)) x133000 x133001 x133002 x133003 x133004 x133005 x133006 x133007 x133008 x133009) else (script_begins.j4 k x3 x4 x6 x7 x11 x12 x13 false x133000 x133001 x133002 x133003 x133004 x133005 x133006 x133007 x133008 x133009)
def script_begins.j4 : Nat → List Int → Int → Int → Int → List (S51) → Int → Int → Bool → Int → Int → ByteArray → Bool → Int → Int → Int → Int → Int → Int → Option (List Int)
 | 0, _, _, _, _, _, _, _, _, _, _, _, _, _, _, _, _, _, _ => none
 | k + 1, x3, x4, x6, x7, x11, x12, x13, x35, x133000, x133001, x133002, x133003, x133004, x133005, x133006, x133007, x133008, x133009 => if x35 = true then (if 0 ≤ (wrap64 (x6 - 1)) then (if (wrap64 (x6 - 1)) < (x3.length : Int) then (if (rd x3 (wrap64 (x6 - 1))) = 0 then (if x7 < (wrap64 (x133001 - 1)) then (script_begins.l1 k x3 x4 (-1) (wrap64 (x7 + 1)) x11 x12 x13 x133000 x133001 x133002 x133003 x133004 x133005 x133006 x133007 x133008 x133009) else (script_begins.l1 k x3 x4 (rd x3 (wrap64 (x6 - 1))) (wrap64 (x7 + 1)) x11 x12 x13 x133000 x133001 x133002 x133003 x133004 x133005 x133006 x133007 x133008 x133009)) else (script_begins.l1 k x3 x4 (rd x3 (wrap64 (x6 - 1))) (wrap64 (x7 + 1)) x11 x12 x13 x133000 x133001 x133002 x133003 x133004 x133005 x133006 x133007 x133008 x133009)) else (none)) else (none)) else (if x6 = 0 then (if x133001 > 0 then (if x4 = 0 then (if 0 ≤ x4 then (if x4 < (x3.length : Int) then (script_begins.l0 k (x3.set (x4 : Int).toNat (-1)) x11 x12 (wrap64 (x13 + 1))) else (none)) else (none)) else (if 0 ≤ x4 then (if x4 < (x3.length : Int) then (script_begins.l0 k (x3.set (x4 : Int).toNat x6) x11 x12 (wrap64 (x13 + 1))) else (none)) else (none))) else (if 0 ≤ x4 then (if x4 < (x3.length : Int) then (script_begins.l0 k (x3.set (x4 : Int).toNat x6) x11 x12 (wrap64 (x13 + 1))) else (none)) else (none))) else (if 0 ≤ x4 then (if x4 < (x3.length : Int) then (script_begins.l0 k (x3.set (x4 : Int).toNat x6) x11 x12 (wrap64 (x13 + 1))) else (none)) else (none)))
end
def script_begins.f (k : Nat) (l0 : List (S51)) : Option (List Int) := if 0 ≤ (l0.length : Int) then (if ((l0.length : Int) : Int).toNat ≤ 35184372088832 then (script_begins.l0 k (List.replicate ((l0.length : Int) : Int).toNat 0) l0 (l0.length : Int) 0) else (none)) else (none)
theorem script_begins.mono_l : ∀ k, (∀ y0 y1 y2 y3, LeO (script_begins.l0 k y0 y1 y2 y3) (script_begins.l0 (k + 1) y0 y1 y2 y3)) ∧ (∀ y0 y1 y2 y3 y4 y5 y6 y7 y8 y9 y10 y11 y12 y13 y14 y15 y16, LeO (script_begins.j1 k y0 y1 y2 y3 y4 y5 y6 y7 y8 y9 y10 y11 y12 y13 y14 y15 y16) (script_begins.j1 (k + 1) y0 y1 y2 y3 y4 y5 y6 y7 y8 y9 y10 y11 y12 y13 y14 y15 y16)) ∧ (∀ y0 y1 y2 y3 y4 y5 y6 y7 y8 y9 y10 y11 y12 y13 y14 y15, LeO (script_begins.j2 k y0 y1 y2 y3 y4 y5 y6 y7 y8 y9 y10 y11 y12 y13 y14 y15) (script_begins.j2 (k + 1) y0 y1 y2 y3 y4 y5 y6 y7 y8 y9 y10 y11 y12 y13 y14 y15)) ∧ (∀ y0 y1 y2 y3 y4 y5 y6 y7 y8 y9 y10 y11 y12 y13 y14 y15 y16, LeO (script_begins.l1 k y0 y1 y2 y3 y4 y5 y6 y7 y8 y9 y10 y11 y12 y13 y14 y15 y16) (script_begins.l1 (k + 1) y0 y1 y2 y3 y4 y5 y6 y7 y8 y9 y10 y11 y12 y13 y14 y15 y16)) ∧ (∀ y0 y1 y2 y3 y4 y5 y6 y7 y8 y9 y10 y11 y12 y13 y14 y15 y16 y17, LeO (script_begins.j4 k y0 y1 y2 y3 y4 y5 y6 y7 y8 y9 y10 y11 y12 y13 y14 y15 y16 y17) (script_begins.j4 (k + 1) y0 y1 y2 y3 y4 y5 y6 y7 y8 y9 y10 y11 y12 y13 y14 y15 y16 y17))
 | 0 => ⟨fun _ _ _ _ r h => by simp [script_begins.l0] at h, fun _ _ _ _ _ _ _ _ _ _ _ _ _ _ _ _ _ r h => by simp [script_begins.j1] at h, fun _ _ _ _ _ _ _ _ _ _ _ _ _ _ _ _ r h => by simp [script_begins.j2] at h, fun _ _ _ _ _ _ _ _ _ _ _ _ _ _ _ _ _ r h => by simp [script_begins.l1] at h, fun _ _ _ _ _ _ _ _ _ _ _ _ _ _ _ _ _ _ r h => by simp [script_begins.j4] at h⟩
 | k + 1 => by
  obtain ⟨ih0, ih1, ih2, ih3, ih4⟩ := script_begins.mono_l k
  refine ⟨?_, ?_, ?_, ?_, ?_⟩
  ·intro y0 y1 y2 y3
   unfold script_begins.l0
   repeat' first
   | (with_reducible exact ih0 _ _ _ _)
   | (with_reducible exact ih1 _ _ _ _ _ _ _ _ _ _ _ _ _ _ _ _ _)
   | (with_reducible exact ih2 _ _ _ _ _ _ _ _ _ _ _ _ _ _ _ _)
   | (with_reducible exact ih3 _ _ _ _ _ _ _ _ _ _ _ _ _ _ _ _ _)
   | (with_reducible exact ih4 _ _ _ _ _ _ _ _ _ _ _ _ _ _ _ _ _ _)
   | (with_reducible exact LeO.refl _)
   | (with_reducible exact LeO.none _)
   | (with_reducible refine LeO.ite ?_ ?_)
   | (with_reducible refine LeO.bind ?_ (fun _ => ?_))
   | exact ih0 _ _ _ _
   | exact ih1 _ _ _ _ _ _ _ _ _ _ _ _ _ _ _ _ _
   | exact ih2 _ _ _ _ _ _ _ _ _ _ _ _ _ _ _ _
   | exact ih3 _ _ _ _ _ _ _ _ _ _ _ _ _ _ _ _ _
   | exact ih4 _ _ _ _ _ _ _ _ _ _ _ _ _ _ _ _ _ _
   | exact LeO.none _
   | refine LeO.ite ?_ ?_
   | refine LeO.bind ?_ (fun _ => ?_)
  ·intro y0 y1 y2 y3 y4 y5 y6 y7 y8 y9 y10 y11 y12 y13 y14 y15 y16
   unfold script_begins.j1
   repeat' first
   | (with_reducible exact ih0 _ _ _ _)
   | (with_reducible exact ih1 _ _ _ _ _ _ _ _ _ _ _ _ _ _ _ _ _)
   | (with_reducible exact ih2 _ _ _ _ _ _ _ _ _ _ _ _ _ _ _ _)
   | (with_reducible exact ih3 _ _ _ _ _ _ _ _ _ _ _ _ _ _ _ _ _)
   | (with_reducible exact ih4 _ _ _ _ _ _ _ _ _ _ _ _ _ _ _ _ _ _)
   | (with_reducible exact LeO.refl _)
   | (with_reducible exact LeO.none _)
   | (with_reducible refine LeO.ite ?_ ?_)
   | (with_reducible refine LeO.bind ?_ (fun _ => ?_))
   | exact ih0 _ _ _ _
   | exact ih1 _ _ _ _ _ _ _ _ _ _ _ _ _ _ _ _ _
   | exact ih2 _ _ _ _ _ _ _ _ _ _ _ _ _ _ _ _
   | exact ih3 _ _ _ _ _ _ _ _ _ _ _ _ _ _ _ _ _
   | exact ih4 _ _ _ _ _ _ _ _ _ _ _ _ _ _ _ _ _ _
   | exact LeO.none _
   | refine LeO.ite ?_ ?_
   | refine LeO.bind ?_ (fun _ => ?_)
  ·intro y0 y1 y2 y3 y4 y5 y6 y7 y8 y9 y10 y11 y12 y13 y14 y15
   unfold script_begins.j2
   repeat' first
   | (with_reducible exact ih0 _ _ _ _)
   | (with_reducible exact ih1 _ _ _ _ _ _ _ _ _ _ _ _ _ _ _ _ _)
   | (with_reducible exact ih2 _ _ _ _ _ _ _ _ _ _ _ _ _ _ _ _)
   | (with_reducible exact ih3 _ _ _ _ _ _ _ _ _ _ _ _ _ _ _ _ _)
   | (with_reducible exact ih4 _ _ _ _ _ _ _ _ _ _ _ _ _ _ _ _ _ _)
   | (with_reducible exact LeO.refl _)
   | (with_reducible exact LeO.none _)
   | (with_reducible refine LeO.ite ?_ ?_)
   | (with_reducible refine LeO.bind ?_ (fun _ => ?_))
   | exact ih0 _ _ _ _
   | exact ih1 _ _ _ _ _ _ _ _ _ _ _ _ _ _ _ _ _
   | exact ih2 _ _ _ _ _ _ _ _ _ _ _ _ _ _ _ _
   | exact ih3 _ _ _ _ _ _ _ _ _ _ _ _ _ _ _ _ _
   | exact ih4 _ _ _ _ _ _ _ _ _ _ _ _ _ _ _ _ _ _
   | exact LeO.none _
   | refine LeO.ite ?_ ?_
   | refine LeO.bind ?_ (fun _ => ?_)
  ·intro y0 y1 y2 y3 y4 y5 y6 y7 y8 y9 y10 y11 y12 y13 y14 y15 y16
   unfold script_begins.l1
   repeat' first
   | (with_reducible exact ih0 _ _ _ _)
   | (with_reducible exact ih1 _ _ _ _ _ _ _ _ _ _ _ _ _ _ _ _ _)
   | (with_reducible exact ih2 _ _ _ _ _ _ _ _ _ _ _ _ _ _ _ _)
   | (with_reducible exact ih3 _ _ _ _ _ _ _ _ _ _ _ _ _ _ _ _ _)
   | (with_reducible exact ih4 _ _ _ _ _ _ _ _ _ _ _ _ _ _ _ _ _ _)
   | (with_reducible exact LeO.refl _)
   | (with_reducible exact LeO.none _)
   | (with_reducible refine LeO.ite ?_ ?_)
   | (with_reducible refine LeO.bind ?_ (fun _ => ?_))
   | exact ih0 _ _ _ _
   | exact ih1 _ _ _ _ _ _ _ _ _ _ _ _ _ _ _ _ _
   | exact ih2 _ _ _ _ _ _ _ _ _ _ _ _ _ _ _ _
   | exact ih3 _ _ _ _ _ _ _ _ _ _ _ _ _ _ _ _ _
   | exact ih4 _ _ _ _ _ _ _ _ _ _ _ _ _ _ _ _ _ _
   | exact LeO.none _
   | refine LeO.ite ?_ ?_
   | refine LeO.bind ?_ (fun _ => ?_)
  ·intro y0 y1 y2 y3 y4 y5 y6 y7 y8 y9 y10 y11 y12 y13 y14 y15 y16 y17
   unfold script_begins.j4
   repeat' first
   | (with_reducible exact ih0 _ _ _ _)
   | (with_reducible exact ih1 _ _ _ _ _ _ _ _ _ _ _ _ _ _ _ _ _)
   | (with_reducible exact ih2 _ _ _ _ _ _ _ _ _ _ _ _ _ _ _ _)
   | (with_reducible exact ih3 _ _ _ _ _ _ _ _ _ _ _ _ _ _ _ _ _)
   | (with_reducible exact ih4 _ _ _ _ _ _ _ _ _ _ _ _ _ _ _ _ _ _)
   | (with_reducible exact LeO.refl _)
   | (with_reducible exact LeO.none _)
   | (with_reducible refine LeO.ite ?_ ?_)
   | (with_reducible refine LeO.bind ?_ (fun _ => ?_))
   | exact ih0 _ _ _ _
   | exact ih1 _ _ _ _ _ _ _ _ _ _ _ _ _ _ _ _ _
   | exact ih2 _ _ _ _ _ _ _ _ _ _ _ _ _ _ _ _
   | exact ih3 _ _ _ _ _ _ _ _ _ _ _ _ _ _ _ _ _
   | exact ih4 _ _ _ _ _ _ _ _ _ _ _ _ _ _ _ _ _ _
   | exact LeO.none _
   | refine LeO.ite ?_ ?_
   | refine LeO.bind ?_ (fun _ => ?_)
theorem script_begins.mono : ∀ a0 k, LeO (script_begins.f k a0) (script_begins.f (k + 1) a0) := by
 intro a0 k
 obtain ⟨ih0, ih1, ih2, ih3, ih4⟩ := script_begins.mono_l k
 unfold script_begins.f
 repeat' first
   | (with_reducible exact ih0 _ _ _ _)
   | (with_reducible exact ih1 _ _ _ _ _ _ _ _ _ _ _ _ _ _ _ _ _)
   | (with_reducible exact ih2 _ _ _ _ _ _ _ _ _ _ _ _ _ _ _ _)
   | (with_reducible exact ih3 _ _ _ _ _ _ _ _ _ _ _ _ _ _ _ _ _)
   | (with_reducible exact ih4 _ _ _ _ _ _ _ _ _ _ _ _ _ _ _ _ _ _)
   | (with_reducible exact LeO.refl _)
   | (with_reducible exact LeO.none _)
   | (with_reducible refine LeO.ite ?_ ?_)
   | (with_reducible refine LeO.bind ?_ (fun _ => ?_))
   | exact ih0 _ _ _ _
   | exact ih1 _ _ _ _ _ _ _ _ _ _ _ _ _ _ _ _ _
   | exact ih2 _ _ _ _ _ _ _ _ _ _ _ _ _ _ _ _
   | exact ih3 _ _ _ _ _ _ _ _ _ _ _ _ _ _ _ _ _
   | exact ih4 _ _ _ _ _ _ _ _ _ _ _ _ _ _ _ _ _ _
   | exact LeO.none _
   | refine LeO.ite ?_ ?_
   | refine LeO.bind ?_ (fun _ => ?_)
set_option maxHeartbeats 8000000 in
set_option maxRecDepth 100000 in
theorem script_begins.calls (k : Nat) (A0 : Option Addr) (c0 : Nat) (l0 : List (S51)) (r : List Int) (w : World) (hr0 : Kd.C k51 w A0 l0.length l0) (hc0 : l0.length ≤ c0) (h : script_begins.f k l0 = some r) :
  Calls Tryd.prog 39 #[.slice A0 l0.length c0] w fun e w' => ∃ v0_ : Value, e = .returned (v0_) ∧ Kd.R (Kd.int .i64) 3 w' w.heap.size (fun _ => True) v0_ r ∧ Below w.heap.size w w' := by
 have hu51 := Tryd.underlying51
 have HR0 := aK hr0; have HC0 := aK hc0; clear hr0 hc0
 have HB := aK (Below.refl w.heap.size w)
 have H : (if 0 ≤ (l0.length : Int) then (if ((l0.length : Int) : Int).toNat ≤ 35184372088832 then (script_begins.l0 k (List.replicate ((l0.length : Int) : Int).toNat 0) l0 (l0.length : Int) 0) else (none)) else (none)) = some r := h
 clear h
 by_cases c2 : 0 ≤ (l0.length : Int)
 ·rw [if_pos c2] at H
  have c2b0 := eq_true c2
  have c2b1 : decide (0 ≤ (l0.length : Int)) = true := decide_eq_true c2
  clear c2
  by_cases c3 : ((l0.length : Int) : Int).toNat ≤ 35184372088832
  ·rw [if_pos c3] at H
   have c3b0 := eq_true c3
   have c3b1 : decide (((l0.length : Int) : Int).toNat ≤ 35184372088832) = true := decide_eq_true c3
   clear c3
   obtain ⟨y128, hy128⟩ : ∃ y_ : List Int, y_ = (List.replicate ((l0.length : Int) : Int).toNat 0) := ⟨_, rfl⟩
   replace H : (script_begins.l0 k y128 l0 (l0.length : Int) 0) = some r := by first | (rw [hy128]; with_reducible exact H) | (have H2_ := (Option.bind_some _ _).symm.trans H; rw [hy128]; with_reducible exact H2_) | (have H2_ := (Option.bind_some _ _).symm.trans H; with_reducible exact H2_) | with_reducible exact H | (rw [hy128]; exact H) | exact H
   have Ny128 := aK hy128; clear hy128
   have H' := aK H
   clear H
   go_enter Tryd.func39, Tryd.ntmps39
   go_wp2_with (first | ((with_reducible refine gate_dst (N := 10) rfl ?_); refine Kd.R_make (Kd.int .i64) _ 3 rfl (N := 10) rfl 91 _ _ rfl (l0.length : Int) rfl rfl Tryd.underlying91 (.int .i64 0) 8 info3 rfl (by decide) (by omega) 0 (ok := fun _ => True) (okp := fun _ => True) rfl (fun _ hk => hk) trivial (of_decide_eq_true qDoor9_5) (Nat.le_trans (Nat.mul_le_mul_right _ (of_decide_eq_true qDoor9_5 : (l0.length : Int).toNat ≤ 35184372088832)) (by omega)) (Below.refl _ _) (Nat.le_refl _) ?_; intro v129 w4 ho5 hb hg_ hnew_; clear hg_ hnew_; (first | rw [← Ny128.out] at ho5 | (simp only [Int.reduceToNat] at ho5; rw [← Ny128.out] at ho5)); have n0_ := aK (Kd.R_lower ho5 (below_size qDoor9_7)); have n1_ := aK (below_step qDoor9_7 hb); clear HB; have HO130 := n0_; have HB := n1_; clear n0_ n1_; clear hb ho5))
   go_loopg [13] k (fun kq v13 w' => ∃ (x3_1 : List Int) (x13_1 : Int), v13 = .int .i64 x13_1 ∧ Aside0 (script_begins.l0 kq x3_1 l0 (l0.length : Int) x13_1 = some r) ∧ Aside0 (kq ≤ k) ∧ Aside0 (Kd.R (Kd.int .i64) 3 w' w.heap.size (fun _ => True) v129 x3_1) ∧ Aside0 (Below w.heap.size w w'))
   case atStart => exact ⟨(y128), (0), qDoor9_6, H', ⟨Nat.le_refl _⟩, ⟨by (with_reducible repeat (first | apply Kd.R_alloc | apply Kd.R_drewN | apply Kd.R_drew)); exact HO130.out⟩, ⟨qDoor9_7⟩⟩
   case round =>
    clear H'; (try clear c2); (try clear c2b0); (try clear c2b1); (try clear p2); (try clear c3); (try clear c3b0); (try clear c3b1)
    obtain ⟨x3_1, x13_1, rfl, HA, HK1, HO_3, HB⟩ := hrel
    cases gk with
    | zero => exact absurd HA.out (by simp [script_begins.l0])
    | succ k1 =>
     have H := HA.out
     clear HA
     simp only [script_begins.l0] at H
     by_cases c6 : x13_1 < (l0.length : Int)
     ·rw [if_pos c6] at H
      have c6b0 : decide (x13_1 < (l0.length : Int)) = true := decide_eq_true c6
      clear c6
      by_cases c7 : 0 ≤ x13_1
      ·rw [if_pos c7] at H
       have c7b0 : decide (0 ≤ x13_1) = true := decide_eq_true c7
       clear c7
       by_cases c8 : x13_1 < (l0.length : Int)
       ·rw [if_pos c8] at H
        have c8b0 : decide (x13_1 < (l0.length : Int)) = true := decide_eq_true c8
        clear c8; have HC9 := aK H; clear H
        have p131 : 0 ≤ (x13_1 : Int) := of_decide_eq_true qDoor9_5
        have q131 : x13_1 < (l0.length : Int) := of_decide_eq_true qDoor9_5
        obtain ⟨ad131, e131, hx131_0, hx131_1, hx131_2, hx131_3, hx131_4, hx131_5, hx131_6, hx131_7, hx131_8, hx131_9⟩ := at_T51 HR0.out x13_1 p131 q131
        cases e131
        replace hx131_0 := (HB.out.cell (World.block_lt_of_cell? w _ hx131_0)).trans hx131_0
        replace hx131_1 := (HB.out.cell (World.block_lt_of_cell? w _ hx131_1)).trans hx131_1
        replace hx131_2 := (HB.out.cell (World.block_lt_of_cell? w _ hx131_2)).trans hx131_2
        replace hx131_3 := (HB.out.cell (World.block_lt_of_cell? w _ hx131_3)).trans hx131_3
        replace hx131_4 := (HB.out.cell (World.block_lt_of_cell? w _ hx131_4)).trans hx131_4
        replace hx131_5 := (HB.out.cell (World.block_lt_of_cell? w _ hx131_5)).trans hx131_5
        replace hx131_6 := (HB.out.cell (World.block_lt_of_cell? w _ hx131_6)).trans hx131_6
        replace hx131_7 := (HB.out.cell (World.block_lt_of_cell? w _ hx131_7)).trans hx131_7
        replace hx131_8 := (HB.out.cell (World.block_lt_of_cell? w _ hx131_8)).trans hx131_8
        replace hx131_9 := (HB.out.cell (World.block_lt_of_cell? w _ hx131_9)).trans hx131_9
        replace p131 := eq_true p131
        replace q131 := eq_true q131
        go_upto_region 6 with (first | ((with_reducible refine gate_dst (N := 5) rfl ?_); refine box_event ?hg (N := 5) ?hd (cs := #[.int .i64 0, .int .i64 0, .string (⟨#[]⟩ : ByteArray), .bool false, .int .u64 0, .int .u64 0, .int .u64 0, .int .u64 0, .int .i64 0, .int .i64 0]) (t := 51) ?hr ?_; (case hd => rfl); (case hg => rfl); (case hr => first | (go_simp; done) | (go_simp; rfl)); intro gb132 hg w10 hbox hb; have n0_ := aK (Kd.R_below qDoor9_3 hb); have z_ := bxk hb hg qDoor9_7; have n1_ := aK z_.1; have n2_ := aK (hbox); have n3_ := aK z_.2; have n4_ := aK z_.2; clear z_; clear HO_3; clear HB; have HO_3 := n0_; have HB := n1_; have BK132 := n2_; have GW132 := n3_; have GE132 := n4_; clear n0_ n1_ n2_ n3_ n4_; clear hb hbox hg; obtain ⟨hcz11_0, hcz11_1, hcz11_2, hcz11_3, hcz11_4, hcz11_5, hcz11_6, hcz11_7, hcz11_8, hcz11_9⟩ := ck10 BK132.out; obtain ⟨hfz11_0, hfz11_1, hfz11_2, hfz11_3, hfz11_4, hfz11_5, hfz11_6, hfz11_7, hfz11_8, hfz11_9⟩ := fk10 BK132.out))
        (try simp only [Act.put, List.setIfInBounds_toArray, List.set_cons_zero, List.set_cons_succ])
        go_cut [27] (fun v27 wc => ∃ (kq : Nat) (x27_8 : Bool), v27 = .bool x27_8 ∧ Aside0 (script_begins.j1 kq x3_1 x13_1 x13_1 l0 (l0.length : Int) x13_1 x27_8 ((rd_T51 l0 x13_1).f0) ((rd_T51 l0 x13_1).f1) ((rd_T51 l0 x13_1).f2) ((rd_T51 l0 x13_1).f3) ((rd_T51 l0 x13_1).f4.f0) ((rd_T51 l0 x13_1).f4.f1) ((rd_T51 l0 x13_1).f4.f2) ((rd_T51 l0 x13_1).f4.f3) ((rd_T51 l0 x13_1).f5) ((rd_T51 l0 x13_1).f6) = some r) ∧ Aside0 (kq ≤ k1) ∧ Aside0 (Kd.R (Kd.int .i64) 3 wc w.heap.size (fun _ => True) v129 x3_1) ∧ Aside0 (wc.heap[gb132]? = some (.cells #[.int .i64 ((rd_T51 l0 x13_1).f0), .int .i64 ((rd_T51 l0 x13_1).f1), .string ((rd_T51 l0 x13_1).f2), .bool ((rd_T51 l0 x13_1).f3), .int .u64 ((rd_T51 l0 x13_1).f4.f0), .int .u64 ((rd_T51 l0 x13_1).f4.f1), .int .u64 ((rd_T51 l0 x13_1).f4.f2), .int .u64 ((rd_T51 l0 x13_1).f4.f3), .int .i64 ((rd_T51 l0 x13_1).f5), .int .i64 ((rd_T51 l0 x13_1).f6)] 51 (0, 0))) ∧ Aside0 (Below w.heap.size w wc))
        case first =>
         have H := HC9.out
         clear HC9
         by_cases c12 : ((rd_T51 l0 x13_1).f1) < 0
         ·rw [if_pos c12] at H
          have c12b0 : decide (((rd_T51 l0 x13_1).f1) < 0) = true := decide_eq_true c12
          clear c12
          (first | rw [c12b0] | (simp only [i64_w, i32_w]; rw [c12b0]) | skip)
          have H' := aK H
          clear H
          obtain ⟨hcz13_0, hcz13_1, hcz13_2, hcz13_3, hcz13_4, hcz13_5, hcz13_6, hcz13_7, hcz13_8, hcz13_9⟩ := ck10 BK132.out
          obtain ⟨hfz13_0, hfz13_1, hfz13_2, hfz13_3, hfz13_4, hfz13_5, hfz13_6, hfz13_7, hfz13_8, hfz13_9⟩ := fk10 BK132.out
          go_wp2
          go_meet
          case rel => exact ⟨_, (true), qDoor9_6, H', ⟨by have := HK1.out; first | omega | exact Nat.le_refl _⟩, ⟨qDoor9_2⟩, ⟨qDoor9_0⟩, ⟨qDoor9_1⟩⟩
         ·rw [if_neg c12] at H
          have c12b0 : decide (((rd_T51 l0 x13_1).f1) < 0) = false := decide_eq_false c12
          clear c12
          (first | rw [c12b0] | (simp only [i64_w, i32_w]; rw [c12b0]) | skip)
          have H' := aK H
          clear H
          obtain ⟨hcz14_0, hcz14_1, hcz14_2, hcz14_3, hcz14_4, hcz14_5, hcz14_6, hcz14_7, hcz14_8, hcz14_9⟩ := ck10 BK132.out
          obtain ⟨hfz14_0, hfz14_1, hfz14_2, hfz14_3, hfz14_4, hfz14_5, hfz14_6, hfz14_7, hfz14_8, hfz14_9⟩ := fk10 BK132.out
          go_wp2
          go_meet
          case rel => exact ⟨_, (decide (((rd_T51 l0 x13_1).f1) > x13_1)), qDoor9_6, H', ⟨by have := HK1.out; first | omega | exact Nat.le_refl _⟩, ⟨qDoor9_2⟩, ⟨qDoor9_0⟩, ⟨qDoor9_1⟩⟩
        case rest =>
         clear HC9; (try clear c1); (try clear p1); (try clear q1); (try clear hx1); (try clear c2); (try clear c2b0); (try clear c2b1); (try clear p2); (try clear c3); (try clear c3b0); (try clear c3b1); (try clear c6); (try clear c6b0); (try clear c7); (try clear c7b0); (try clear c8); (try clear c8b0); (try clear c12); (try clear c12b0); (try clear p13); (try clear q13); (try clear hx13); (try clear hcz11_0); (try clear hcz11_1); (try clear hcz11_2); (try clear hcz11_3); (try clear hcz11_4); (try clear hcz11_5); (try clear hcz11_6); (try clear hcz11_7); (try clear hcz11_8); (try clear hcz11_9); (try clear hcz13_0); (try clear hcz13_1); (try clear hcz13_2); (try clear hcz13_3); (try clear hcz13_4); (try clear hcz13_5); (try clear hcz13_6); (try clear hcz13_7); (try clear hcz13_8); (try clear hcz13_9); (try clear hcz14_0); (try clear hcz14_1); (try clear hcz14_2); (try clear hcz14_3); (try clear hcz14_4); (try clear hcz14_5); (try clear hcz14_6); (try clear hcz14_7); (try clear hcz14_8); (try clear hcz14_9); (try clear hfz11_0); (try clear hfz11_1); (try clear hfz11_2); (try clear hfz11_3); (try clear hfz11_4); (try clear hfz11_5); (try clear hfz11_6); (try clear hfz11_7); (try clear hfz11_8); (try clear hfz11_9); (try clear hfz13_0); (try clear hfz13_1); (try clear hfz13_2); (try clear hfz13_3); (try clear hfz13_4); (try clear hfz13_5); (try clear hfz13_6); (try clear hfz13_7); (try clear hfz13_8); (try clear hfz13_9); (try clear hfz14_0); (try clear hfz14_1); (try clear hfz14_2); (try clear hfz14_3); (try clear hfz14_4); (try clear hfz14_5); (try clear hfz14_6); (try clear hfz14_7); (try clear hfz14_8); (try clear hfz14_9); (try clear hx131_0); (try clear hx131_1); (try clear hx131_2); (try clear hx131_3); (try clear hx131_4); (try clear hx131_5); (try clear hx131_6); (try clear hx131_7); (try clear hx131_8); (try clear hx131_9); (try clear p131); (try clear p2); (try clear q131)
         obtain ⟨kq, x27_8, rfl, HA, HJ8, HO_3, BK132, HB⟩ := hcut
         cases kq with
         | zero => exact absurd HA.out (by simp [script_begins.j1])
         | succ kj8 =>
          have H := HA.out
          clear HA
          simp only [script_begins.j1] at H
          have HC15 := aK H; clear H
          go_upto_if 27 with (fail)
          go_cut [6] (fun v6 wc => ∃ (kq : Nat) (x6_14 : Int), v6 = .int .i64 x6_14 ∧ Aside0 (script_begins.j2 kq x3_1 x13_1 x6_14 l0 (l0.length : Int) x13_1 ((rd_T51 l0 x13_1).f0) ((rd_T51 l0 x13_1).f1) ((rd_T51 l0 x13_1).f2) ((rd_T51 l0 x13_1).f3) ((rd_T51 l0 x13_1).f4.f0) ((rd_T51 l0 x13_1).f4.f1) ((rd_T51 l0 x13_1).f4.f2) ((rd_T51 l0 x13_1).f4.f3) ((rd_T51 l0 x13_1).f5) ((rd_T51 l0 x13_1).f6) = some r) ∧ Aside0 (kq ≤ kj8) ∧ Aside0 (Kd.R (Kd.int .i64) 3 wc w.heap.size (fun _ => True) v129 x3_1) ∧ Aside0 (wc.heap[gb132]? = some (.cells #[.int .i64 ((rd_T51 l0 x13_1).f0), .int .i64 ((rd_T51 l0 x13_1).f1), .string ((rd_T51 l0 x13_1).f2), .bool ((rd_T51 l0 x13_1).f3), .int .u64 ((rd_T51 l0 x13_1).f4.f0), .int .u64 ((rd_T51 l0 x13_1).f4.f1), .int .u64 ((rd_T51 l0 x13_1).f4.f2), .int .u64 ((rd_T51 l0 x13_1).f4.f3), .int .i64 ((rd_T51 l0 x13_1).f5), .int .i64 ((rd_T51 l0 x13_1).f6)] 51 (0, 0))) ∧ Aside0 (Below w.heap.size w wc))
          case first =>
           have H := HC15.out
           clear HC15
           by_cases c16 : x27_8 = true
           ·subst c16
            have H1 : (script_begins.j2 kj8 x3_1 x13_1 (-1) l0 (l0.length : Int) x13_1 ((rd_T51 l0 x13_1).f0) ((rd_T51 l0 x13_1).f1) ((rd_T51 l0 x13_1).f2) ((rd_T51 l0 x13_1).f3) ((rd_T51 l0 x13_1).f4.f0) ((rd_T51 l0 x13_1).f4.f1) ((rd_T51 l0 x13_1).f4.f2) ((rd_T51 l0 x13_1).f4.f3) ((rd_T51 l0 x13_1).f5) ((rd_T51 l0 x13_1).f6)) = some r := by rw [if_pos rfl] at H; exact H
            clear H
            have H := H1
            clear H1
            have H' := aK H
            clear H
            go_wp2
            go_meet
            case rel => exact ⟨_, ((-1)), qDoor9_6, H', ⟨qDoor9_11⟩, ⟨qDoor9_3⟩, ⟨qDoor9_4⟩, ⟨qDoor9_1⟩⟩
           ·replace c16 := Bool.eq_false_iff.mpr c16
            subst c16
            have H1 : (script_begins.j2 kj8 x3_1 x13_1 x13_1 l0 (l0.length : Int) x13_1 ((rd_T51 l0 x13_1).f0) ((rd_T51 l0 x13_1).f1) ((rd_T51 l0 x13_1).f2) ((rd_T51 l0 x13_1).f3) ((rd_T51 l0 x13_1).f4.f0) ((rd_T51 l0 x13_1).f4.f1) ((rd_T51 l0 x13_1).f4.f2) ((rd_T51 l0 x13_1).f4.f3) ((rd_T51 l0 x13_1).f5) ((rd_T51 l0 x13_1).f6)) = some r := by rw [if_neg (show ¬ (false = true) by decide)] at H; exact H
            clear H
            have H := H1
            clear H1
            have H' := aK H
            clear H
            go_wp2
            go_meet
            case rel => exact ⟨_, (x13_1), qDoor9_6, H', ⟨qDoor9_11⟩, ⟨qDoor9_3⟩, ⟨qDoor9_4⟩, ⟨qDoor9_1⟩⟩
          case rest =>
           clear HC15; (try clear c1); (try clear p1); (try clear q1); (try clear hx1); (try clear c2); (try clear c2b0); (try clear c2b1); (try clear p2); (try clear c3); (try clear c3b0); (try clear c3b1); (try clear c6); (try clear c6b0); (try clear c7); (try clear c7b0); (try clear c8); (try clear c8b0); (try clear c12); (try clear c12b0); (try clear p13); (try clear q13); (try clear hx13); (try clear c16); (try clear hcz11_0); (try clear hcz11_1); (try clear hcz11_2); (try clear hcz11_3); (try clear hcz11_4); (try clear hcz11_5); (try clear hcz11_6); (try clear hcz11_7); (try clear hcz11_8); (try clear hcz11_9); (try clear hcz13_0); (try clear hcz13_1); (try clear hcz13_2); (try clear hcz13_3); (try clear hcz13_4); (try clear hcz13_5); (try clear hcz13_6); (try clear hcz13_7); (try clear hcz13_8); (try clear hcz13_9); (try clear hcz14_0); (try clear hcz14_1); (try clear hcz14_2); (try clear hcz14_3); (try clear hcz14_4); (try clear hcz14_5); (try clear hcz14_6); (try clear hcz14_7); (try clear hcz14_8); (try clear hcz14_9); (try clear hfz11_0); (try clear hfz11_1); (try clear hfz11_2); (try clear hfz11_3); (try clear hfz11_4); (try clear hfz11_5); (try clear hfz11_6); (try clear hfz11_7); (try clear hfz11_8); (try clear hfz11_9); (try clear hfz13_0); (try clear hfz13_1); (try clear hfz13_2); (try clear hfz13_3); (try clear hfz13_4); (try clear hfz13_5); (try clear hfz13_6); (try clear hfz13_7); (try clear hfz13_8); (try clear hfz13_9); (try clear hfz14_0); (try clear hfz14_1); (try clear hfz14_2); (try clear hfz14_3); (try clear hfz14_4); (try clear hfz14_5); (try clear hfz14_6); (try clear hfz14_7); (try clear hfz14_8); (try clear hfz14_9); (try clear hx131_0); (try clear hx131_1); (try clear hx131_2); (try clear hx131_3); (try clear hx131_4); (try clear hx131_5); (try clear hx131_6); (try clear hx131_7); (try clear hx131_8); (try clear hx131_9); (try clear p1); (try clear p13); (try clear p131); (try clear p2); (try clear q1); (try clear q13); (try clear q131)
           obtain ⟨kq, x6_14, rfl, HA, HJ14, HO_3, BK132, HB⟩ := hcut
           cases kq with
           | zero => exact absurd HA.out (by simp [script_begins.j2])
           | succ kj14 =>
            have H := HA.out
            clear HA
            simp only [script_begins.j2] at H
            have H' := aK H
            clear H
            go_wp2
            go_loopg [6, 7] kj14 (fun kq v6 v7 w' => ∃ (x6_4 : Int) (x7_4 : Int), v6 = .int .i64 x6_4 ∧ v7 = .int .i64 x7_4 ∧ Aside0 (script_begins.l1 kq x3_1 x13_1 x6_4 x7_4 l0 (l0.length : Int) x13_1 ((rd_T51 l0 x13_1).f0) ((rd_T51 l0 x13_1).f1) ((rd_T51 l0 x13_1).f2) ((rd_T51 l0 x13_1).f3) ((rd_T51 l0 x13_1).f4.f0) ((rd_T51 l0 x13_1).f4.f1) ((rd_T51 l0 x13_1).f4.f2) ((rd_T51 l0 x13_1).f4.f3) ((rd_T51 l0 x13_1).f5) ((rd_T51 l0 x13_1).f6) = some r) ∧ Aside0 (kq ≤ kj14) ∧ Aside0 (Kd.R (Kd.int .i64) 3 w' w.heap.size (fun _ => True) v129 x3_1) ∧ Aside0 (w'.heap[gb132]? = some (.cells #[.int .i64 ((rd_T51 l0 x13_1).f0), .int .i64 ((rd_T51 l0 x13_1).f1), .string ((rd_T51 l0 x13_1).f2), .bool ((rd_T51 l0 x13_1).f3), .int .u64 ((rd_T51 l0 x13_1).f4.f0), .int .u64 ((rd_T51 l0 x13_1).f4.f1), .int .u64 ((rd_T51 l0 x13_1).f4.f2), .int .u64 ((rd_T51 l0 x13_1).f4.f3), .int .i64 ((rd_T51 l0 x13_1).f5), .int .i64 ((rd_T51 l0 x13_1).f6)] 51 (0, 0))) ∧ Aside0 (Below w.heap.size w w'))
            case atStart => exact ⟨(x6_14), (0), qDoor9_6, qDoor9_6, H', ⟨Nat.le_refl _⟩, ⟨qDoor9_3⟩, ⟨qDoor9_4⟩, ⟨qDoor9_1⟩⟩
            case round =>
             clear H'; (try clear c1); (try clear p1); (try clear q1); (try clear hx1); (try clear c2); (try clear c2b0); (try clear c2b1); (try clear p2); (try clear c3); (try clear c3b0); (try clear c3b1); (try clear c6); (try clear c6b0); (try clear c7); (try clear c7b0); (try clear c8); (try clear c8b0); (try clear c12); (try clear c12b0); (try clear p13); (try clear q13); (try clear hx13); (try clear c16); (try clear hcz11_0); (try clear hcz11_1); (try clear hcz11_2); (try clear hcz11_3); (try clear hcz11_4); (try clear hcz11_5); (try clear hcz11_6); (try clear hcz11_7); (try clear hcz11_8); (try clear hcz11_9); (try clear hcz13_0); (try clear hcz13_1); (try clear hcz13_2); (try clear hcz13_3); (try clear hcz13_4); (try clear hcz13_5); (try clear hcz13_6); (try clear hcz13_7); (try clear hcz13_8); (try clear hcz13_9); (try clear hcz14_0); (try clear hcz14_1); (try clear hcz14_2); (try clear hcz14_3); (try clear hcz14_4); (try clear hcz14_5); (try clear hcz14_6); (try clear hcz14_7); (try clear hcz14_8); (try clear hcz14_9); (try clear hfz11_0); (try clear hfz11_1); (try clear hfz11_2); (try clear hfz11_3); (try clear hfz11_4); (try clear hfz11_5); (try clear hfz11_6); (try clear hfz11_7); (try clear hfz11_8); (try clear hfz11_9); (try clear hfz13_0); (try clear hfz13_1); (try clear hfz13_2); (try clear hfz13_3); (try clear hfz13_4); (try clear hfz13_5); (try clear hfz13_6); (try clear hfz13_7); (try clear hfz13_8); (try clear hfz13_9); (try clear hfz14_0); (try clear hfz14_1); (try clear hfz14_2); (try clear hfz14_3); (try clear hfz14_4); (try clear hfz14_5); (try clear hfz14_6); (try clear hfz14_7); (try clear hfz14_8); (try clear hfz14_9); (try clear hx131_0); (try clear hx131_1); (try clear hx131_2); (try clear hx131_3); (try clear hx131_4); (try clear hx131_5); (try clear hx131_6); (try clear hx131_7); (try clear hx131_8); (try clear hx131_9); (try clear p1); (try clear p13); (try clear p131); (try clear p2); (try clear q1); (try clear q13); (try clear q131)
             obtain ⟨x6_4, x7_4, rfl, rfl, HA, HK4, HO_3, BK132, HB⟩ := hrel
             cases gk with
             | zero => exact absurd HA.out (by simp [script_begins.l1])
             | succ k4 =>
              have H := HA.out
              clear HA
              simp only [script_begins.l1] at H
              have HC17 := aK H; clear H
              go_upto_region 9 with (fail)
              go_cut [35] (fun v35 wc => ∃ (kq : Nat) (x35_16 : Bool), v35 = .bool x35_16 ∧ Aside0 (script_begins.j4 kq x3_1 x13_1 x6_4 x7_4 l0 (l0.length : Int) x13_1 x35_16 ((rd_T51 l0 x13_1).f0) ((rd_T51 l0 x13_1).f1) ((rd_T51 l0 x13_1).f2) ((rd_T51 l0 x13_1).f3) ((rd_T51 l0 x13_1).f4.f0) ((rd_T51 l0 x13_1).f4.f1) ((rd_T51 l0 x13_1).f4.f2) ((rd_T51 l0 x13_1).f4.f3) ((rd_T51 l0 x13_1).f5) ((rd_T51 l0 x13_1).f6) = some r) ∧ Aside0 (kq ≤ k4) ∧ Aside0 (Kd.R (Kd.int .i64) 3 wc w.heap.size (fun _ => True) v129 x3_1) ∧ Aside0 (wc.heap[gb132]? = some (.cells #[.int .i64 ((rd_T51 l0 x13_1).f0), .int .i64 ((rd_T51 l0 x13_1).f1), .string ((rd_T51 l0 x13_1).f2), .bool ((rd_T51 l0 x13_1).f3), .int .u64 ((rd_T51 l0 x13_1).f4.f0), .int .u64 ((rd_T51 l0 x13_1).f4.f1), .int .u64 ((rd_T51 l0 x13_1).f4.f2), .int .u64 ((rd_T51 l0 x13_1).f4.f3), .int .i64 ((rd_T51 l0 x13_1).f5), .int .i64 ((rd_T51 l0 x13_1).f6)] 51 (0, 0))) ∧ Aside0 (Below w.heap.size w wc))
              case first =>
               have H := HC17.out
               clear HC17
               by_cases c18 : x7_4 < ((rd_T51 l0 x13_1).f1)
               ·rw [if_pos c18] at H
                have c18b0 : decide (x7_4 < ((rd_T51 l0 x13_1).f1)) = true := decide_eq_true c18
                clear c18
                (first | rw [c18b0] | (simp only [i64_w, i32_w]; rw [c18b0]) | skip)
                have H' := aK H
                clear H
                obtain ⟨hcz19_0, hcz19_1, hcz19_2, hcz19_3, hcz19_4, hcz19_5, hcz19_6, hcz19_7, hcz19_8, hcz19_9⟩ := ck10 BK132.out
                obtain ⟨hfz19_0, hfz19_1, hfz19_2, hfz19_3, hfz19_4, hfz19_5, hfz19_6, hfz19_7, hfz19_8, hfz19_9⟩ := fk10 BK132.out
                go_wp2
                go_meet
                case rel => exact ⟨_, (decide (x6_4 > 0)), qDoor9_6, H', ⟨qDoor9_9⟩, ⟨qDoor9_3⟩, ⟨qDoor9_4⟩, ⟨qDoor9_1⟩⟩
               ·rw [if_neg c18] at H
                have c18b0 : decide (x7_4 < ((rd_T51 l0 x13_1).f1)) = false := decide_eq_false c18
                clear c18
                (first | rw [c18b0] | (simp only [i64_w, i32_w]; rw [c18b0]) | skip)
                have H' := aK H
                clear H
                obtain ⟨hcz20_0, hcz20_1, hcz20_2, hcz20_3, hcz20_4, hcz20_5, hcz20_6, hcz20_7, hcz20_8, hcz20_9⟩ := ck10 BK132.out
                obtain ⟨hfz20_0, hfz20_1, hfz20_2, hfz20_3, hfz20_4, hfz20_5, hfz20_6, hfz20_7, hfz20_8, hfz20_9⟩ := fk10 BK132.out
                go_wp2
                go_meet
                case rel => exact ⟨_, (false), qDoor9_6, H', ⟨qDoor9_9⟩, ⟨qDoor9_3⟩, ⟨qDoor9_4⟩, ⟨qDoor9_1⟩⟩
              case rest =>
               clear HC17; (try clear c1); (try clear p1); (try clear q1); (try clear hx1); (try clear c2); (try clear c2b0); (try clear c2b1); (try clear p2); (try clear c3); (try clear c3b0); (try clear c3b1); (try clear c6); (try clear c6b0); (try clear c7); (try clear c7b0); (try clear c8); (try clear c8b0); (try clear c12); (try clear c12b0); (try clear p13); (try clear q13); (try clear hx13); (try clear c16); (try clear c18); (try clear c18b0); (try clear hcz11_0); (try clear hcz11_1); (try clear hcz11_2); (try clear hcz11_3); (try clear hcz11_4); (try clear hcz11_5); (try clear hcz11_6); (try clear hcz11_7); (try clear hcz11_8); (try clear hcz11_9); (try clear hcz13_0); (try clear hcz13_1); (try clear hcz13_2); (try clear hcz13_3); (try clear hcz13_4); (try clear hcz13_5); (try clear hcz13_6); (try clear hcz13_7); (try clear hcz13_8); (try clear hcz13_9); (try clear hcz14_0); (try clear hcz14_1); (try clear hcz14_2); (try clear hcz14_3); (try clear hcz14_4); (try clear hcz14_5); (try clear hcz14_6); (try clear hcz14_7); (try clear hcz14_8); (try clear hcz14_9); (try clear hcz19_0); (try clear hcz19_1); (try clear hcz19_2); (try clear hcz19_3); (try clear hcz19_4); (try clear hcz19_5); (try clear hcz19_6); (try clear hcz19_7); (try clear hcz19_8); (try clear hcz19_9); (try clear hcz20_0); (try clear hcz20_1); (try clear hcz20_2); (try clear hcz20_3); (try clear hcz20_4); (try clear hcz20_5); (try clear hcz20_6); (try clear hcz20_7); (try clear hcz20_8); (try clear hcz20_9); (try clear hfz11_0); (try clear hfz11_1); (try clear hfz11_2); (try clear hfz11_3); (try clear hfz11_4); (try clear hfz11_5); (try clear hfz11_6); (try clear hfz11_7); (try clear hfz11_8); (try clear hfz11_9); (try clear hfz13_0); (try clear hfz13_1); (try clear hfz13_2); (try clear hfz13_3); (try clear hfz13_4); (try clear hfz13_5); (try clear hfz13_6); (try clear hfz13_7); (try clear hfz13_8); (try clear hfz13_9); (try clear hfz14_0); (try clear hfz14_1); (try clear hfz14_2); (try clear hfz14_3); (try clear hfz14_4); (try clear hfz14_5); (try clear hfz14_6); (try clear hfz14_7); (try clear hfz14_8); (try clear hfz14_9); (try clear hfz19_0); (try clear hfz19_1); (try clear hfz19_2); (try clear hfz19_3); (try clear hfz19_4); (try clear hfz19_5); (try clear hfz19_6); (try clear hfz19_7); (try clear hfz19_8); (try clear hfz19_9); (try clear hfz20_0); (try clear hfz20_1); (try clear hfz20_2); (try clear hfz20_3); (try clear hfz20_4); (try clear hfz20_5); (try clear hfz20_6); (try clear hfz20_7); (try clear hfz20_8); (try clear hfz20_9); (try clear hx131_0); (try clear hx131_1); (try clear hx131_2); (try clear hx131_3); (try clear hx131_4); (try clear hx131_5); (try clear hx131_6); (try clear hx131_7); (try clear hx131_8); (try clear hx131_9); (try clear p1); (try clear p13); (try clear p131); (try clear p2); (try clear q1); (try clear q13); (try clear q131)
               obtain ⟨kq, x35_16, rfl, HA, HJ16, HO_3, BK132, HB⟩ := hcut
               cases kq with
               | zero => exact absurd HA.out (by simp [script_begins.j4])
               | succ kj16 =>
                have H := HA.out
                clear HA
                simp only [script_begins.j4] at H
                by_cases c21 : x35_16 = true
                ·subst c21
                 have H1 : (if 0 ≤ (wrap64 (x6_4 - 1)) then (if (wrap64 (x6_4 - 1)) < (x3_1.length : Int) then (if (rd x3_1 (wrap64 (x6_4 - 1))) = 0 then (if x7_4 < (wrap64 (((rd_T51 l0 x13_1).f1) - 1)) then (script_begins.l1 kj16 x3_1 x13_1 (-1) (wrap64 (x7_4 + 1)) l0 (l0.length : Int) x13_1 ((rd_T51 l0 x13_1).f0) ((rd_T51 l0 x13_1).f1) ((rd_T51 l0 x13_1).f2) ((rd_T51 l0 x13_1).f3) ((rd_T51 l0 x13_1).f4.f0) ((rd_T51 l0 x13_1).f4.f1) ((rd_T51 l0 x13_1).f4.f2) ((rd_T51 l0 x13_1).f4.f3) ((rd_T51 l0 x13_1).f5) ((rd_T51 l0 x13_1).f6)) else (script_begins.l1 kj16 x3_1 x13_1 (rd x3_1 (wrap64 (x6_4 - 1))) (wrap64 (x7_4 + 1)) l0 (l0.length : Int) x13_1 ((rd_T51 l0 x13_1).f0) ((rd_T51 l0 x13_1).f1) ((rd_T51 l0 x13_1).f2) ((rd_T51 l0 x13_1).f3) ((rd_T51 l0 x13_1).f4.f0) ((rd_T51 l0 x13_1).f4.f1) ((rd_T51 l0 x13_1).f4.f2) ((rd_T51 l0 x13_1).f4.f3) ((rd_T51 l0 x13_1).f5) ((rd_T51 l0 x13_1).f6))) else (script_begins.l1 kj16 x3_1 x13_1 (rd x3_1 (wrap64 (x6_4 - 1))) (wrap64 (x7_4 + 1)) l0 (l0.length : Int) x13_1 ((rd_T51 l0 x13_1).f0) ((rd_T51 l0 x13_1).f1) ((rd_T51 l0 x13_1).f2) ((rd_T51 l0 x13_1).f3) ((rd_T51 l0 x13_1).f4.f0) ((rd_T51 l0 x13_1).f4.f1) ((rd_T51 l0 x13_1).f4.f2) ((rd_T51 l0 x13_1).f4.f3) ((rd_T51 l0 x13_1).f5) ((rd_T51 l0 x13_1).f6))) else (none)) else (none)) = some r := by rw [if_pos rfl] at H; exact H
                 clear H
                 have H := H1
                 clear H1
                 obtain ⟨ji22, hji22⟩ : ∃ j_ : Int, (wrap64 (x6_4 - 1)) = j_ := ⟨_, rfl⟩
                 replace H : (if 0 ≤ (ji22) then (if (ji22) < (x3_1.length : Int) then (if (rd x3_1 (ji22)) = 0 then (if x7_4 < (wrap64 (((rd_T51 l0 x13_1).f1) - 1)) then (script_begins.l1 kj16 x3_1 x13_1 (-1) (wrap64 (x7_4 + 1)) l0 (l0.length : Int) x13_1 ((rd_T51 l0 x13_1).f0) ((rd_T51 l0 x13_1).f1) ((rd_T51 l0 x13_1).f2) ((rd_T51 l0 x13_1).f3) ((rd_T51 l0 x13_1).f4.f0) ((rd_T51 l0 x13_1).f4.f1) ((rd_T51 l0 x13_1).f4.f2) ((rd_T51 l0 x13_1).f4.f3) ((rd_T51 l0 x13_1).f5) ((rd_T51 l0 x13_1).f6)) else (script_begins.l1 kj16 x3_1 x13_1 (rd x3_1 (ji22)) (wrap64 (x7_4 + 1)) l0 (l0.length : Int) x13_1 ((rd_T51 l0 x13_1).f0) ((rd_T51 l0 x13_1).f1) ((rd_T51 l0 x13_1).f2) ((rd_T51 l0 x13_1).f3) ((rd_T51 l0 x13_1).f4.f0) ((rd_T51 l0 x13_1).f4.f1) ((rd_T51 l0 x13_1).f4.f2) ((rd_T51 l0 x13_1).f4.f3) ((rd_T51 l0 x13_1).f5) ((rd_T51 l0 x13_1).f6))) else (script_begins.l1 kj16 x3_1 x13_1 (rd x3_1 (ji22)) (wrap64 (x7_4 + 1)) l0 (l0.length : Int) x13_1 ((rd_T51 l0 x13_1).f0) ((rd_T51 l0 x13_1).f1) ((rd_T51 l0 x13_1).f2) ((rd_T51 l0 x13_1).f3) ((rd_T51 l0 x13_1).f4.f0) ((rd_T51 l0 x13_1).f4.f1) ((rd_T51 l0 x13_1).f4.f2) ((rd_T51 l0 x13_1).f4.f3) ((rd_T51 l0 x13_1).f5) ((rd_T51 l0 x13_1).f6))) else (none)) else (none)) = some r := by first | (rw [hji22] at H; exact H) | (simp only [hji22] at H ⊢; exact H)
                 have hji22w : (IntKind.i64.wrap (x6_4 - 1)) = ji22 := (i64_w _).trans hji22
                 by_cases c23 : 0 ≤ (ji22)
                 ·rw [if_pos c23] at H
                  have c23b0 : decide (0 ≤ (ji22)) = true := decide_eq_true c23
                  clear c23
                  by_cases c24 : (ji22) < (x3_1.length : Int)
                  ·rw [if_pos c24] at H
                   have c24b0 : decide ((ji22) < (x3_1.length : Int)) = true := decide_eq_true c24
                   clear c24
                   by_cases c25 : (rd x3_1 (ji22)) = 0
                   ·rw [if_pos c25] at H
                    have c25b0 : ((rd x3_1 (ji22)) == 0) = true := beq_iff_eq.mpr c25
                    have c25b1 : ((rd x3_1 (ji22)) != 0) = false := bne_eq_false_iff_eq.mpr c25
                    clear c25
                    by_cases c26 : x7_4 < (wrap64 (((rd_T51 l0 x13_1).f1) - 1))
                    ·rw [if_pos c26] at H
                     have c26b0 : decide (x7_4 < (wrap64 (((rd_T51 l0 x13_1).f1) - 1))) = true := decide_eq_true c26
                     clear c26
                     have H' := aK H
                     clear H
                     obtain ⟨Ao27, co27, eo27⟩ := Kd.R_slice HO_3.out
                     subst eo27
                     have p133 : 0 ≤ ((ji22) : Int) := of_decide_eq_true qDoor9_5
                     have q133 : (ji22) < (x3_1.length : Int) := of_decide_eq_true qDoor9_5
                     obtain ⟨ad133, e133, hx133_0⟩ := Kd.at_int (Kd.R_reads' HO_3.out).2.2 (ji22) p133 q133
                     cases e133
                     replace p133 := eq_true p133
                     replace q133 := eq_true q133
                     obtain ⟨hcz28_0, hcz28_1, hcz28_2, hcz28_3, hcz28_4, hcz28_5, hcz28_6, hcz28_7, hcz28_8, hcz28_9⟩ := ck10 BK132.out
                     obtain ⟨hfz28_0, hfz28_1, hfz28_2, hfz28_3, hfz28_4, hfz28_5, hfz28_6, hfz28_7, hfz28_8, hfz28_9⟩ := fk10 BK132.out
                     go_wp2
                     go_roundg kj16
                     case measure => have := HK1.out; have := HJ8.out; have := HJ14.out; have := HK4.out; have := HJ16.out; omega
                     case rel => exact ⟨((-1)), (wrap64 (x7_4 + 1)), qDoor9_6, qDoor9_6, H', ⟨qDoor9_8⟩, ⟨qDoor9_3⟩, ⟨qDoor9_4⟩, ⟨qDoor9_1⟩⟩
                    ·rw [if_neg c26] at H
                     have c26b0 : decide (x7_4 < (wrap64 (((rd_T51 l0 x13_1).f1) - 1))) = false := decide_eq_false c26
                     clear c26
                     have H' := aK H
                     clear H
                     obtain ⟨Ao29, co29, eo29⟩ := Kd.R_slice HO_3.out
                     subst eo29
                     have p133 : 0 ≤ ((ji22) : Int) := of_decide_eq_true qDoor9_5
                     have q133 : (ji22) < (x3_1.length : Int) := of_decide_eq_true qDoor9_5
                     obtain ⟨ad133, e133, hx133_0⟩ := Kd.at_int (Kd.R_reads' HO_3.out).2.2 (ji22) p133 q133
                     cases e133
                     replace p133 := eq_true p133
                     replace q133 := eq_true q133
                     obtain ⟨hcz30_0, hcz30_1, hcz30_2, hcz30_3, hcz30_4, hcz30_5, hcz30_6, hcz30_7, hcz30_8, hcz30_9⟩ := ck10 BK132.out
                     obtain ⟨hfz30_0, hfz30_1, hfz30_2, hfz30_3, hfz30_4, hfz30_5, hfz30_6, hfz30_7, hfz30_8, hfz30_9⟩ := fk10 BK132.out
                     go_wp2
                     go_roundg kj16
                     case measure => have := HK1.out; have := HJ8.out; have := HJ14.out; have := HK4.out; have := HJ16.out; omega
                     case rel => exact ⟨(rd x3_1 (ji22)), (wrap64 (x7_4 + 1)), qDoor9_10, qDoor9_6, H', ⟨qDoor9_8⟩, ⟨qDoor9_3⟩, ⟨qDoor9_4⟩, ⟨qDoor9_1⟩⟩
                   ·rw [if_neg c25] at H
                    have c25b0 : ((rd x3_1 (ji22)) == 0) = false := beq_eq_false_iff_ne.mpr c25
                    have c25b1 : ((rd x3_1 (ji22)) != 0) = true := bne_iff_ne.mpr c25
                    have H' := aK H
                    clear H
                    obtain ⟨Ao31, co31, eo31⟩ := Kd.R_slice HO_3.out
                    subst eo31
                    have p133 : 0 ≤ ((ji22) : Int) := of_decide_eq_true qDoor9_5
                    have q133 : (ji22) < (x3_1.length : Int) := of_decide_eq_true qDoor9_5
                    obtain ⟨ad133, e133, hx133_0⟩ := Kd.at_int (Kd.R_reads' HO_3.out).2.2 (ji22) p133 q133
                    cases e133
                    replace p133 := eq_true p133
                    replace q133 := eq_true q133
                    go_wp2
                    go_roundg kj16
                    case measure => have := HK1.out; have := HJ8.out; have := HJ14.out; have := HK4.out; have := HJ16.out; omega
                    case rel => exact ⟨(rd x3_1 (ji22)), (wrap64 (x7_4 + 1)), qDoor9_10, qDoor9_6, H', ⟨qDoor9_8⟩, ⟨qDoor9_3⟩, ⟨qDoor9_4⟩, ⟨qDoor9_1⟩⟩
                  ·rw [if_neg c24] at H
                   exact absurd H (by simp)
                 ·rw [if_neg c23] at H
                  exact absurd H (by simp)
                ·replace c21 := Bool.eq_false_iff.mpr c21
                 subst c21
                 have H1 : (if x6_4 = 0 then (if ((rd_T51 l0 x13_1).f1) > 0 then (if x13_1 = 0 then (if 0 ≤ x13_1 then (if x13_1 < (x3_1.length : Int) then (script_begins.l0 kj16 (x3_1.set (x13_1 : Int).toNat (-1)) l0 (l0.length : Int) (wrap64 (x13_1 + 1))) else (none)) else (none)) else (if 0 ≤ x13_1 then (if x13_1 < (x3_1.length : Int) then (script_begins.l0 kj16 (x3_1.set (x13_1 : Int).toNat x6_4) l0 (l0.length : Int) (wrap64 (x13_1 + 1))) else (none)) else (none))) else (if 0 ≤ x13_1 then (if x13_1 < (x3_1.length : Int) then (script_begins.l0 kj16 (x3_1.set (x13_1 : Int).toNat x6_4) l0 (l0.length : Int) (wrap64 (x13_1 + 1))) else (none)) else (none))) else (if 0 ≤ x13_1 then (if x13_1 < (x3_1.length : Int) then (script_begins.l0 kj16 (x3_1.set (x13_1 : Int).toNat x6_4) l0 (l0.length : Int) (wrap64 (x13_1 + 1))) else (none)) else (none))) = some r := by rw [if_neg (show ¬ (false = true) by decide)] at H; exact H
                 clear H
                 have H := H1
                 clear H1
                 by_cases c32 : x6_4 = 0
                 ·rw [if_pos c32] at H
                  have c32b0 : (x6_4 == 0) = true := beq_iff_eq.mpr c32
                  have c32b1 : (x6_4 != 0) = false := bne_eq_false_iff_eq.mpr c32
                  clear c32
                  by_cases c33 : ((rd_T51 l0 x13_1).f1) > 0
                  ·rw [if_pos c33] at H
                   have c33b0 : decide (0 < ((rd_T51 l0 x13_1).f1)) = true := decide_eq_true c33
                   clear c33
                   by_cases c34 : x13_1 = 0
                   ·rw [if_pos c34] at H
                    have c34b0 : (x13_1 == 0) = true := beq_iff_eq.mpr c34
                    have c34b1 : (x13_1 != 0) = false := bne_eq_false_iff_eq.mpr c34
                    clear c34
                    by_cases c35 : 0 ≤ x13_1
                    ·rw [if_pos c35] at H
                     have c35b0 : decide (0 ≤ x13_1) = true := decide_eq_true c35
                     clear c35
                     by_cases c36 : x13_1 < (x3_1.length : Int)
                     ·rw [if_pos c36] at H
                      have c36b0 : decide (x13_1 < (x3_1.length : Int)) = true := decide_eq_true c36
                      clear c36
                      obtain ⟨y134, hy134⟩ : ∃ y_ : List Int, y_ = (x3_1.set (x13_1 : Int).toNat (-1)) := ⟨_, rfl⟩
                      replace H : (script_begins.l0 kj16 y134 l0 (l0.length : Int) (wrap64 (x13_1 + 1))) = some r := by first | (rw [hy134]; with_reducible exact H) | (have H2_ := (Option.bind_some _ _).symm.trans H; rw [hy134]; with_reducible exact H2_) | (have H2_ := (Option.bind_some _ _).symm.trans H; with_reducible exact H2_) | with_reducible exact H | (rw [hy134]; exact H) | exact H
                      have Ny134 := aK hy134; clear hy134
                      have H' := aK H
                      clear H
                      obtain ⟨hcz38_0, hcz38_1, hcz38_2, hcz38_3, hcz38_4, hcz38_5, hcz38_6, hcz38_7, hcz38_8, hcz38_9⟩ := ck10 BK132.out
                      obtain ⟨hfz38_0, hfz38_1, hfz38_2, hfz38_3, hfz38_4, hfz38_5, hfz38_6, hfz38_7, hfz38_8, hfz38_9⟩ := fk10 BK132.out
                      have p37 : 0 ≤ (x13_1 : Int) := of_decide_eq_true qDoor9_5
                      have q37 : (x13_1 : Int) < ((x3_1.length : Int) : Int) := of_decide_eq_true qDoor9_5
                      obtain ⟨go37, co37, eo37, gb37, gl37, cl37, HG37⟩ := Kd.R_form HO_3.out (by omega)
                      (first | cases eo37 | (injection eo37 with ea_ en_ ec_; (first | subst ea_ | (injection ea_ with ea_; subst ea_)); subst ec_; clear en_))
                      have GB37 := aK gb37; have GG37 := aK HG37; clear gb37 gl37 HG37
                      obtain ⟨hx37_0, hf37_0⟩ := Kd.R_celln 0 HO_3.out (x13_1 : Int) p37 q37
                      replace p37 := eq_true p37
                      replace q37 := eq_true q37
                      have HP39 := Kd.R_putg HO_3.out (x13_1 : Int) (-1)
                      go_wp2_with (first | ((with_reducible refine gate_store (t := 3) (p := 66) rfl ?_); refine store_event (t := 3) (p := 66) (v := ?vo_w40) (w1 := (wc.setCell ⟨go37, (x13_1 : Int).toNat, none⟩ (.int .i64 (-1)))) ?hg ?ho ?hn ?hr ?_; (case ho => rfl); (case hg => rfl); (case hn => rfl); (case hr => first | (go_simp; done) | (go_simp; rfl)); intro w40 hw; have hg : wc.grownBy w40 (some go37) := (by rw [hw]; exact HP39.2); have hp_ : Kd.R (Kd.int .i64) 3 w40 w.heap.size (fun _ => True) (.slice (some ⟨go37, 0, none⟩) x3_1.length co37) y134 := (by rw [hw, Ny134.out]; exact HP39.1); clear HP39; have n0_ := aK (hp_); have n1_ := aK (blk_grown (g := gb132) (o := .cells #[.int .i64 ((rd_T51 l0 x13_1).f0), .int .i64 ((rd_T51 l0 x13_1).f1), .string ((rd_T51 l0 x13_1).f2), .bool ((rd_T51 l0 x13_1).f3), .int .u64 ((rd_T51 l0 x13_1).f4.f0), .int .u64 ((rd_T51 l0 x13_1).f4.f1), .int .u64 ((rd_T51 l0 x13_1).f4.f2), .int .u64 ((rd_T51 l0 x13_1).f4.f3), .int .i64 ((rd_T51 l0 x13_1).f5), .int .i64 ((rd_T51 l0 x13_1).f6)] 51 (0, 0)) qDoor9_4 hg (Kd.R_ne HO_3.out BK132.out (by decide))); have n2_ := aK ((by rw [hw]; exact below_set (HB.out) GB37.out : Below w.heap.size w w40)); clear HO_3; clear BK132; clear HB; have HO_3 := n0_; have BK132 := n1_; have HB := n2_; clear n0_ n1_ n2_; clear hg hw hp_))
                      go_roundg kj16
                      case measure => have := HK1.out; have := HJ8.out; have := HJ14.out; have := HK4.out; have := HJ16.out; omega
                      case rel => exact ⟨(y134), (wrap64 (x13_1 + 1)), qDoor9_6, H', ⟨qDoor9_8⟩, ⟨qDoor9_3⟩, ⟨qDoor9_1⟩⟩
                     ·rw [if_neg c36] at H
                      exact absurd H (by simp)
                    ·rw [if_neg c35] at H
                     exact absurd H (by simp)
                   ·rw [if_neg c34] at H
                    have c34b0 : (x13_1 == 0) = false := beq_eq_false_iff_ne.mpr c34
                    have c34b1 : (x13_1 != 0) = true := bne_iff_ne.mpr c34
                    by_cases c41 : 0 ≤ x13_1
                    ·rw [if_pos c41] at H
                     have c41b0 : decide (0 ≤ x13_1) = true := decide_eq_true c41
                     clear c41
                     by_cases c42 : x13_1 < (x3_1.length : Int)
                     ·rw [if_pos c42] at H
                      have c42b0 : decide (x13_1 < (x3_1.length : Int)) = true := decide_eq_true c42
                      clear c42
                      obtain ⟨y135, hy135⟩ : ∃ y_ : List Int, y_ = (x3_1.set (x13_1 : Int).toNat x6_4) := ⟨_, rfl⟩
                      replace H : (script_begins.l0 kj16 y135 l0 (l0.length : Int) (wrap64 (x13_1 + 1))) = some r := by first | (rw [hy135]; with_reducible exact H) | (have H2_ := (Option.bind_some _ _).symm.trans H; rw [hy135]; with_reducible exact H2_) | (have H2_ := (Option.bind_some _ _).symm.trans H; with_reducible exact H2_) | with_reducible exact H | (rw [hy135]; exact H) | exact H
                      have Ny135 := aK hy135; clear hy135
                      have H' := aK H
                      clear H
                      obtain ⟨hcz44_0, hcz44_1, hcz44_2, hcz44_3, hcz44_4, hcz44_5, hcz44_6, hcz44_7, hcz44_8, hcz44_9⟩ := ck10 BK132.out
                      obtain ⟨hfz44_0, hfz44_1, hfz44_2, hfz44_3, hfz44_4, hfz44_5, hfz44_6, hfz44_7, hfz44_8, hfz44_9⟩ := fk10 BK132.out
                      have p43 : 0 ≤ (x13_1 : Int) := of_decide_eq_true qDoor9_5
                      have q43 : (x13_1 : Int) < ((x3_1.length : Int) : Int) := of_decide_eq_true qDoor9_5
                      obtain ⟨go43, co43, eo43, gb43, gl43, cl43, HG43⟩ := Kd.R_form HO_3.out (by omega)
                      (first | cases eo43 | (injection eo43 with ea_ en_ ec_; (first | subst ea_ | (injection ea_ with ea_; subst ea_)); subst ec_; clear en_))
                      have GB43 := aK gb43; have GG43 := aK HG43; clear gb43 gl43 HG43
                      obtain ⟨hx43_0, hf43_0⟩ := Kd.R_celln 0 HO_3.out (x13_1 : Int) p43 q43
                      replace p43 := eq_true p43
                      replace q43 := eq_true q43
                      have HP45 := Kd.R_putg HO_3.out (x13_1 : Int) x6_4
                      go_wp2_with (first | ((with_reducible refine gate_store (t := 3) (p := 66) rfl ?_); refine store_event (t := 3) (p := 66) (v := ?vo_w46) (w1 := (wc.setCell ⟨go43, (x13_1 : Int).toNat, none⟩ (.int .i64 x6_4))) ?hg ?ho ?hn ?hr ?_; (case ho => rfl); (case hg => rfl); (case hn => rfl); (case hr => first | (go_simp; done) | (go_simp; rfl)); intro w46 hw; have hg : wc.grownBy w46 (some go43) := (by rw [hw]; exact HP45.2); have hp_ : Kd.R (Kd.int .i64) 3 w46 w.heap.size (fun _ => True) (.slice (some ⟨go43, 0, none⟩) x3_1.length co43) y135 := (by rw [hw, Ny135.out]; exact HP45.1); clear HP45; have n0_ := aK (hp_); have n1_ := aK (blk_grown (g := gb132) (o := .cells #[.int .i64 ((rd_T51 l0 x13_1).f0), .int .i64 ((rd_T51 l0 x13_1).f1), .string ((rd_T51 l0 x13_1).f2), .bool ((rd_T51 l0 x13_1).f3), .int .u64 ((rd_T51 l0 x13_1).f4.f0), .int .u64 ((rd_T51 l0 x13_1).f4.f1), .int .u64 ((rd_T51 l0 x13_1).f4.f2), .int .u64 ((rd_T51 l0 x13_1).f4.f3), .int .i64 ((rd_T51 l0 x13_1).f5), .int .i64 ((rd_T51 l0 x13_1).f6)] 51 (0, 0)) qDoor9_4 hg (Kd.R_ne HO_3.out BK132.out (by decide))); have n2_ := aK ((by rw [hw]; exact below_set (HB.out) GB43.out : Below w.heap.size w w46)); clear HO_3; clear BK132; clear HB; have HO_3 := n0_; have BK132 := n1_; have HB := n2_; clear n0_ n1_ n2_; clear hg hw hp_))
                      go_roundg kj16
                      case measure => have := HK1.out; have := HJ8.out; have := HJ14.out; have := HK4.out; have := HJ16.out; omega
                      case rel => exact ⟨(y135), (wrap64 (x13_1 + 1)), qDoor9_6, H', ⟨qDoor9_8⟩, ⟨qDoor9_3⟩, ⟨qDoor9_1⟩⟩
                     ·rw [if_neg c42] at H
                      exact absurd H (by simp)
                    ·rw [if_neg c41] at H
                     exact absurd H (by simp)
                  ·rw [if_neg c33] at H
                   have c33b0 : decide (0 < ((rd_T51 l0 x13_1).f1)) = false := decide_eq_false c33
                   clear c33
                   by_cases c47 : 0 ≤ x13_1
                   ·rw [if_pos c47] at H
                    have c47b0 : decide (0 ≤ x13_1) = true := decide_eq_true c47
                    clear c47
                    by_cases c48 : x13_1 < (x3_1.length : Int)
                    ·rw [if_pos c48] at H
                     have c48b0 : decide (x13_1 < (x3_1.length : Int)) = true := decide_eq_true c48
                     clear c48
                     obtain ⟨y136, hy136⟩ : ∃ y_ : List Int, y_ = (x3_1.set (x13_1 : Int).toNat x6_4) := ⟨_, rfl⟩
                     replace H : (script_begins.l0 kj16 y136 l0 (l0.length : Int) (wrap64 (x13_1 + 1))) = some r := by first | (rw [hy136]; with_reducible exact H) | (have H2_ := (Option.bind_some _ _).symm.trans H; rw [hy136]; with_reducible exact H2_) | (have H2_ := (Option.bind_some _ _).symm.trans H; with_reducible exact H2_) | with_reducible exact H | (rw [hy136]; exact H) | exact H
                     have Ny136 := aK hy136; clear hy136
                     have H' := aK H
                     clear H
                     obtain ⟨hcz50_0, hcz50_1, hcz50_2, hcz50_3, hcz50_4, hcz50_5, hcz50_6, hcz50_7, hcz50_8, hcz50_9⟩ := ck10 BK132.out
                     obtain ⟨hfz50_0, hfz50_1, hfz50_2, hfz50_3, hfz50_4, hfz50_5, hfz50_6, hfz50_7, hfz50_8, hfz50_9⟩ := fk10 BK132.out
                     have p49 : 0 ≤ (x13_1 : Int) := of_decide_eq_true qDoor9_5
                     have q49 : (x13_1 : Int) < ((x3_1.length : Int) : Int) := of_decide_eq_true qDoor9_5
                     obtain ⟨go49, co49, eo49, gb49, gl49, cl49, HG49⟩ := Kd.R_form HO_3.out (by omega)
                     (first | cases eo49 | (injection eo49 with ea_ en_ ec_; (first | subst ea_ | (injection ea_ with ea_; subst ea_)); subst ec_; clear en_))
                     have GB49 := aK gb49; have GG49 := aK HG49; clear gb49 gl49 HG49
                     obtain ⟨hx49_0, hf49_0⟩ := Kd.R_celln 0 HO_3.out (x13_1 : Int) p49 q49
                     replace p49 := eq_true p49
                     replace q49 := eq_true q49
                     have HP51 := Kd.R_putg HO_3.out (x13_1 : Int) x6_4
                     go_wp2_with (first | ((with_reducible refine gate_store (t := 3) (p := 66) rfl ?_); refine store_event (t := 3) (p := 66) (v := ?vo_w52) (w1 := (wc.setCell ⟨go49, (x13_1 : Int).toNat, none⟩ (.int .i64 x6_4))) ?hg ?ho ?hn ?hr ?_; (case ho => rfl); (case hg => rfl); (case hn => rfl); (case hr => first | (go_simp; done) | (go_simp; rfl)); intro w52 hw; have hg : wc.grownBy w52 (some go49) := (by rw [hw]; exact HP51.2); have hp_ : Kd.R (Kd.int .i64) 3 w52 w.heap.size (fun _ => True) (.slice (some ⟨go49, 0, none⟩) x3_1.length co49) y136 := (by rw [hw, Ny136.out]; exact HP51.1); clear HP51; have n0_ := aK (hp_); have n1_ := aK (blk_grown (g := gb132) (o := .cells #[.int .i64 ((rd_T51 l0 x13_1).f0), .int .i64 ((rd_T51 l0 x13_1).f1), .string ((rd_T51 l0 x13_1).f2), .bool ((rd_T51 l0 x13_1).f3), .int .u64 ((rd_T51 l0 x13_1).f4.f0), .int .u64 ((rd_T51 l0 x13_1).f4.f1), .int .u64 ((rd_T51 l0 x13_1).f4.f2), .int .u64 ((rd_T51 l0 x13_1).f4.f3), .int .i64 ((rd_T51 l0 x13_1).f5), .int .i64 ((rd_T51 l0 x13_1).f6)] 51 (0, 0)) qDoor9_4 hg (Kd.R_ne HO_3.out BK132.out (by decide))); have n2_ := aK ((by rw [hw]; exact below_set (HB.out) GB49.out : Below w.heap.size w w52)); clear HO_3; clear BK132; clear HB; have HO_3 := n0_; have BK132 := n1_; have HB := n2_; clear n0_ n1_ n2_; clear hg hw hp_))
                     go_roundg kj16
                     case measure => have := HK1.out; have := HJ8.out; have := HJ14.out; have := HK4.out; have := HJ16.out; omega
                     case rel => exact ⟨(y136), (wrap64 (x13_1 + 1)), qDoor9_6, H', ⟨qDoor9_8⟩, ⟨qDoor9_3⟩, ⟨qDoor9_1⟩⟩
                    ·rw [if_neg c48] at H
                     exact absurd H (by simp)
                   ·rw [if_neg c47] at H
                    exact absurd H (by simp)
                 ·rw [if_neg c32] at H
                  have c32b0 : (x6_4 == 0) = false := beq_eq_false_iff_ne.mpr c32
                  have c32b1 : (x6_4 != 0) = true := bne_iff_ne.mpr c32
                  by_cases c53 : 0 ≤ x13_1
                  ·rw [if_pos c53] at H
                   have c53b0 : decide (0 ≤ x13_1) = true := decide_eq_true c53
                   clear c53
                   by_cases c54 : x13_1 < (x3_1.length : Int)
                   ·rw [if_pos c54] at H
                    have c54b0 : decide (x13_1 < (x3_1.length : Int)) = true := decide_eq_true c54
                    clear c54
                    obtain ⟨y137, hy137⟩ : ∃ y_ : List Int, y_ = (x3_1.set (x13_1 : Int).toNat x6_4) := ⟨_, rfl⟩
                    replace H : (script_begins.l0 kj16 y137 l0 (l0.length : Int) (wrap64 (x13_1 + 1))) = some r := by first | (rw [hy137]; with_reducible exact H) | (have H2_ := (Option.bind_some _ _).symm.trans H; rw [hy137]; with_reducible exact H2_) | (have H2_ := (Option.bind_some _ _).symm.trans H; with_reducible exact H2_) | with_reducible exact H | (rw [hy137]; exact H) | exact H
                    have Ny137 := aK hy137; clear hy137
                    have H' := aK H
                    clear H
                    have p55 : 0 ≤ (x13_1 : Int) := of_decide_eq_true qDoor9_5
                    have q55 : (x13_1 : Int) < ((x3_1.length : Int) : Int) := of_decide_eq_true qDoor9_5
                    obtain ⟨go55, co55, eo55, gb55, gl55, cl55, HG55⟩ := Kd.R_form HO_3.out (by omega)
                    (first | cases eo55 | (injection eo55 with ea_ en_ ec_; (first | subst ea_ | (injection ea_ with ea_; subst ea_)); subst ec_; clear en_))
                    have GB55 := aK gb55; have GG55 := aK HG55; clear gb55 gl55 HG55
                    obtain ⟨hx55_0, hf55_0⟩ := Kd.R_celln 0 HO_3.out (x13_1 : Int) p55 q55
                    replace p55 := eq_true p55
                    replace q55 := eq_true q55
                    have HP56 := Kd.R_putg HO_3.out (x13_1 : Int) x6_4
                    go_wp2_with (first | ((with_reducible refine gate_store (t := 3) (p := 66) rfl ?_); refine store_event (t := 3) (p := 66) (v := ?vo_w57) (w1 := (wc.setCell ⟨go55, (x13_1 : Int).toNat, none⟩ (.int .i64 x6_4))) ?hg ?ho ?hn ?hr ?_; (case ho => rfl); (case hg => rfl); (case hn => rfl); (case hr => first | (go_simp; done) | (go_simp; rfl)); intro w57 hw; have hg : wc.grownBy w57 (some go55) := (by rw [hw]; exact HP56.2); have hp_ : Kd.R (Kd.int .i64) 3 w57 w.heap.size (fun _ => True) (.slice (some ⟨go55, 0, none⟩) x3_1.length co55) y137 := (by rw [hw, Ny137.out]; exact HP56.1); clear HP56; have n0_ := aK (hp_); have n1_ := aK (blk_grown (g := gb132) (o := .cells #[.int .i64 ((rd_T51 l0 x13_1).f0), .int .i64 ((rd_T51 l0 x13_1).f1), .string ((rd_T51 l0 x13_1).f2), .bool ((rd_T51 l0 x13_1).f3), .int .u64 ((rd_T51 l0 x13_1).f4.f0), .int .u64 ((rd_T51 l0 x13_1).f4.f1), .int .u64 ((rd_T51 l0 x13_1).f4.f2), .int .u64 ((rd_T51 l0 x13_1).f4.f3), .int .i64 ((rd_T51 l0 x13_1).f5), .int .i64 ((rd_T51 l0 x13_1).f6)] 51 (0, 0)) qDoor9_4 hg (Kd.R_ne HO_3.out BK132.out (by decide))); have n2_ := aK ((by rw [hw]; exact below_set (HB.out) GB55.out : Below w.heap.size w w57)); clear HO_3; clear BK132; clear HB; have HO_3 := n0_; have BK132 := n1_; have HB := n2_; clear n0_ n1_ n2_; clear hg hw hp_))
                    go_roundg kj16
                    case measure => have := HK1.out; have := HJ8.out; have := HJ14.out; have := HK4.out; have := HJ16.out; omega
                    case rel => exact ⟨(y137), (wrap64 (x13_1 + 1)), qDoor9_6, H', ⟨qDoor9_8⟩, ⟨qDoor9_3⟩, ⟨qDoor9_1⟩⟩
                   ·rw [if_neg c54] at H
                    exact absurd H (by simp)
                  ·rw [if_neg c53] at H
                   exact absurd H (by simp)
       ·rw [if_neg c8] at H
        exact absurd H (by simp)
      ·rw [if_neg c7] at H
       exact absurd H (by simp)
     ·rw [if_neg c6] at H
      have c6b0 : decide (x13_1 < (l0.length : Int)) = false := decide_eq_false c6
      clear c6
      obtain rfl := Option.some.inj H
      go_wp2
      go_ret
      exact ⟨_, by first | rfl | (simp [errW_none, errW_some] <;> rfl) | (simp [*, errW_none, errW_some] <;> rfl), qDoor9_3, qDoor9_7⟩
  ·rw [if_neg c3] at H
   exact absurd H (by simp)
 ·rw [if_neg c2] at H
  exact absurd H (by simp)
end Go.Proofs.YtihiicjnjhideaaDoor.PAll
end
