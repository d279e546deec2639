/- Parts of the proof of coreOrder: PAllx7. No condition beyond each lemma's own. -/
import Derived.Test.YtihiicjnjhideaaDoorTO5
import Derived.Test.YtihiicjnjhideaaDoorTO6
import Derived.Test.YtihiicjnjhideaaDoorTO9
section
namespace Go.Proofs.YtihiicjnjhideaaDoor.PAll
open Go.RowKit Go.Proofs.YtihiicjnjhideaaDoorW.PrintWords Go.Proofs.YtihiicjnjhideaaDoorW.PrintLast Go.Proofs.YtihiicjnjhideaaDoorW.PrintMore
attribute [local go_sem] max2_int max_two
set_option linter.unusedVariables false
set_option linter.unusedSimpArgs false
theorem qDoor7_10 {p : Prop} (h : p := by have := HJ1.out; have := HJ54.out; first | omega | exact Nat.le_refl _) : p := h
theorem qDoor7_9 {p : Prop} (h : p := by first | rfl | (simp; done) | (simp [*]; done)) : p := h
theorem qDoor7_8 {p : Prop} (h : p := by rw [← hq_]; exact (by (with_reducible repeat (first | refine blk_drewN ?_ _ | refine blk_drew ?_ | refine blk_alloc ?_ _)); exact BK123.out)) : p := h
theorem qDoor7_7 {p : Prop} (h : p := by rw [← hq_]; exact (by (with_reducible repeat (first | refine blk_drewN ?_ _ | refine blk_drew ?_ | refine blk_alloc ?_ _)); exact BK122.out)) : p := h
theorem qDoor7_6 {p : Prop} (h : p := by rw [← hq_]; exact (by repeat (first | (with_reducible first | exact HB.out | apply below_alloc | apply pw_below_drewN | apply below_drew1 | refine below_set ?_ GE122.out | refine below_set ?_ GE123.out) | exact HB.out))) : p := h
theorem qDoor7_5 {p : Prop} (h : p := by (with_reducible repeat (first | refine blk_drewN ?_ _ | refine blk_drew ?_ | refine blk_alloc ?_ _)); exact BK123.out) : p := h
theorem qDoor7_4 {p : Prop} (h : p := by (with_reducible repeat (first | refine blk_drewN ?_ _ | refine blk_drew ?_ | refine blk_alloc ?_ _)); exact BK122.out) : p := h
theorem qDoor7_3 {p : Prop} (h : p := by first | rfl | (simp [errW_none, errW_some] <;> rfl) | (simp [*, errW_none, errW_some] <;> rfl)) : p := h
theorem qDoor7_2 {p : Prop} (h : p := by (with_reducible repeat (first | refine blk_drewN ?_ _ | refine blk_drew ?_ | refine blk_alloc ?_ _)); refine blk_far ?_ NB122_123.out _; (with_reducible repeat (first | refine blk_drewN ?_ _ | refine blk_drew ?_ | refine blk_alloc ?_ _)); refine blk_far ?_ NB122_123.out _; (with_reducible repeat (first | refine blk_drewN ?_ _ | refine blk_drew ?_ | refine blk_alloc ?_ _)); refine blk_far ?_ NB122_123.out _; (with_reducible repeat (first | refine blk_drewN ?_ _ | refine blk_drew ?_ | refine blk_alloc ?_ _)); refine blk_far ?_ NB122_123.out _; (with_reducible repeat (first | refine blk_drewN ?_ _ | refine blk_drew ?_ | refine blk_alloc ?_ _)); refine blk_far ?_ NB122_123.out _; (with_reducible repeat (first | refine blk_drewN ?_ _ | refine blk_drew ?_ | refine blk_alloc ?_ _)); refine blk_far ?_ NB122_123.out _; (with_reducible repeat (first | refine blk_drewN ?_ _ | refine blk_drew ?_ | refine blk_alloc ?_ _)); refine blk_far ?_ NB122_123.out _; (with_reducible repeat (first | refine blk_drewN ?_ _ | refine blk_drew ?_ | refine blk_alloc ?_ _)); refine blk_far ?_ NB122_123.out _; (with_reducible repeat (first | refine blk_drewN ?_ _ | refine blk_drew ?_ | refine blk_alloc ?_ _)); refine blk_far ?_ NB122_123.out _; (with_reducible repeat (first | refine blk_drewN ?_ _ | refine blk_drew ?_ | refine blk_alloc ?_ _)); refine blk_far ?_ NB122_123.out _; (with_reducible repeat (first | refine blk_drewN ?_ _ | refine blk_drew ?_ | refine blk_alloc ?_ _)); refine blk_far ?_ NB122_123.out _; (with_reducible repeat (first | refine blk_drewN ?_ _ | refine blk_drew ?_ | refine blk_alloc ?_ _)); refine blk_far ?_ NB122_123.out _; (with_reducible repeat (first | refine blk_drewN ?_ _ | refine blk_drew ?_ | refine blk_alloc ?_ _)); exact BK122.out) : p := h
theorem qDoor7_1 {p : Prop} (h : p := by (with_reducible repeat (first | refine blk_drewN ?_ _ | refine blk_drew ?_ | refine blk_alloc ?_ _)); refine blk_put (cs := #[.int .i64 0, .int .i64 a0_1, .string a0_2, .bool a0_3, .int .u64 a0_4, .int .u64 a0_5, .int .u64 a0_6, .int .u64 a0_7, .int .i64 a0_8, .int .i64 a0_9]) ?_ 1 _ rfl; (with_reducible repeat (first | refine blk_drewN ?_ _ | refine blk_drew ?_ | refine blk_alloc ?_ _)); refine blk_put (cs := #[.int .i64 a0_0, .int .i64 a0_1, .string a0_2, .bool a0_3, .int .u64 a0_4, .int .u64 a0_5, .int .u64 a0_6, .int .u64 a0_7, .int .i64 a0_8, .int .i64 a0_9]) ?_ 0 _ rfl; (with_reducible repeat (first | refine blk_drewN ?_ _ | refine blk_drew ?_ | refine blk_alloc ?_ _)); refine blk_put (cs := #[.int .i64 a0_0, .int .i64 a0_1, .string a0_2, .bool a0_3, .int .u64 a0_4, .int .u64 a0_5, .int .u64 a0_6, .int .u64 a0_7, .int .i64 a0_8, .int .i64 0]) ?_ 9 _ rfl; (with_reducible repeat (first | refine blk_drewN ?_ _ | refine blk_drew ?_ | refine blk_alloc ?_ _)); refine blk_put (cs := #[.int .i64 a0_0, .int .i64 a0_1, .string a0_2, .bool a0_3, .int .u64 a0_4, .int .u64 a0_5, .int .u64 a0_6, .int .u64 a0_7, .int .i64 0, .int .i64 0]) ?_ 8 _ rfl; (with_reducible repeat (first | refine blk_drewN ?_ _ | refine blk_drew ?_ | refine blk_alloc ?_ _)); refine blk_put (cs := #[.int .i64 a0_0, .int .i64 a0_1, .string a0_2, .bool a0_3, .int .u64 a0_4, .int .u64 a0_5, .int .u64 a0_6, .int .u64 0, .int .i64 0, .int .i64 0]) ?_ 7 _ rfl; (with_reducible repeat (first | refine blk_drewN ?_ _ | refine blk_drew ?_ | refine blk_alloc ?_ _)); refine blk_put (cs := #[.int .i64 a0_0, .int .i64 a0_1, .string a0_2, .bool a0_3, .int .u64 a0_4, .int .u64 a0_5, .int .u64 0, .int .u64 0, .int .i64 0, .int .i64 0]) ?_ 6 _ rfl; (with_reducible repeat (first | refine blk_drewN ?_ _ | refine blk_drew ?_ | refine blk_alloc ?_ _)); refine blk_put (cs := #[.int .i64 a0_0, .int .i64 a0_1, .string a0_2, .bool a0_3, .int .u64 a0_4, .int .u64 0, .int .u64 0, .int .u64 0, .int .i64 0, .int .i64 0]) ?_ 5 _ rfl; (with_reducible repeat (first | refine blk_drewN ?_ _ | refine blk_drew ?_ | refine blk_alloc ?_ _)); refine blk_put (cs := #[.int .i64 a0_0, .int .i64 a0_1, .string a0_2, .bool a0_3, .int .u64 0, .int .u64 0, .int .u64 0, .int .u64 0, .int .i64 0, .int .i64 0]) ?_ 4 _ rfl; (with_reducible repeat (first | refine blk_drewN ?_ _ | refine blk_drew ?_ | refine blk_alloc ?_ _)); refine blk_put (cs := #[.int .i64 a0_0, .int .i64 a0_1, .string a0_2, .bool false, .int .u64 0, .int .u64 0, .int .u64 0, .int .u64 0, .int .i64 0, .int .i64 0]) ?_ 3 _ rfl; (with_reducible repeat (first | refine blk_drewN ?_ _ | refine blk_drew ?_ | refine blk_alloc ?_ _)); refine blk_put (cs := #[.int .i64 a0_0, .int .i64 a0_1, .string (⟨#[]⟩ : ByteArray), .bool false, .int .u64 0, .int .u64 0, .int .u64 0, .int .u64 0, .int .i64 0, .int .i64 0]) ?_ 2 _ rfl; (with_reducible repeat (first | refine blk_drewN ?_ _ | refine blk_drew ?_ | refine blk_alloc ?_ _)); refine blk_put (cs := #[.int .i64 a0_0, .int .i64 0, .string (⟨#[]⟩ : ByteArray), .bool false, .int .u64 0, .int .u64 0, .int .u64 0, .int .u64 0, .int .i64 0, .int .i64 0]) ?_ 1 _ rfl; (with_reducible repeat (first | refine blk_drewN ?_ _ | refine blk_drew ?_ | refine blk_alloc ?_ _)); refine blk_put (cs := #[.int .i64 0, .int .i64 0, .string (⟨#[]⟩ : ByteArray), .bool false, .int .u64 0, .int .u64 0, .int .u64 0, .int .u64 0, .int .i64 0, .int .i64 0]) ?_ 0 _ rfl; (with_reducible repeat (first | refine blk_drewN ?_ _ | refine blk_drew ?_ | refine blk_alloc ?_ _)); exact BK123.out) : p := h
theorem qDoor7_0 {p : Prop} (h : p := by repeat (first | (with_reducible first | exact HB.out | apply below_alloc | apply pw_below_drewN | apply below_drew1 | refine below_set ?_ GE122.out | refine below_set ?_ GE123.out) | exact HB.out)) : p := h
attribute [local go_sem high] eqA51
mutual
def script_may.j0 : Nat → Bool → Int → Bool → Int → Int → ByteArray → Bool → Int → Int → Int → Int → Int → Int → Int → Int → ByteArray → Bool → Int → Int → Int → Int → Int → Int → Option (Bool)
 | 0, _, _, _, _, _, _, _, _, _, _, _, _, _, _, _, _, _, _, _, _, _, _, _ => none
 | k + 1, x3, x12, x13, x123000, x123001, x123002, x123003, x123004, x123005, x123006, x123007, x123008, x123009, x124000, x124001, x124002, x124003, x124004, x124005, x124006, x124007, x124008, x124009 => if x13 = true then (if x3 = true then (some (x124000 == 0 && (x124001 == 0 && (x124002.toList == ([] : List UInt8) && (!x124003 && ((x124004 == 0 && (x124005 == 0 && (x124006 == 0 && (x124007 == 0)))) && (x124008 == 0 && (x124009 == 0)))))))) else (some false)) else (if x12 = 1 then (if x3 = true then (some (x124000 == 0 && (x124001 == 0 && ((x124004 == 0 && (x124005 == 0 && (x124006 == 0 && (x124007 == 0)))) && (x124008 == 0 && (x124009 == 0)))))) else (some false)) else (if x12 = 2 then (if x3 = true then (some (x124000 == 0 && (x124001 == 0 && (x124002.toList == ([] : List UInt8) && (!x124003 && (x124008 == 0 && (x124009 == 0))))))) else (some false)) else (if x12 = 4 then (if x123001 ≥ 0 then (if x123001 ≤ 8 then ((lexis_Name.f k x123002).bind fun t124 => (if t124 = true then (some (x124000 == 0 && (x124001 == 0 && (!x124003 && ((x124004 == 0 && (x124005 == 0 && (x124006 == 0 && (x124007 == 0)))) && (x124008 == 0 && (x124009 == 0))))))) else (some false))) else (some false)) else (some false)) else (if x12 = 5 then (if x3 = true then ((script_own.f k x123002).bind fun t125 => (if t125 = true then (some (x124000 == 0 && (x124001 == 0 && (!x124003 && ((x124004 == 0 && (x124005 == 0 && (x124006 == 0 && (x124007 == 0)))) && (x124008 == 0 && (x124009 == 0))))))) else (some false))) else (some false)) else (if x12 = 6 then (script_may.j1 k x12 (x12 == 6) x123000 x123001 x123002 x123003 x123004 x123005 x123006 x123007 x123008 x123009 x124000 x124001 x124002 x124003 x124004 x124005 x124006 x124007 x124008 x124009) else (script_may.j1 k x12 (x12 == 7) x123000 x123001 x123002 x123003 x123004 x123005 x123006 x123007 x123008 x123009 x124000 x124001 x124002 x124003 x124004 x124005 x124006 x124007 x124008 x124009))))))
def script_may.j1 : Nat → Int → Bool → Int → Int → ByteArray → Bool → Int → Int → Int → Int → Int → Int → Int → Int → ByteArray → Bool → Int → Int → Int → Int → Int → Int → Option (Bool)
 | 0, _, _, _, _, _, _, _, _, _, _, _, _, _, _, _, _, _, _, _, _, _, _ => none
 | k + 1, x12, x49, x123000, x123001, x123002, x123003, x123004, x123005, x123006, x123007, x123008, x123009, x124000, x124001, x124002, x124003, x124004, x124005, x124006, x124007, x124008, x124009 => if x49 = true then (if x123001 ≥ 2 then (some (x124000 == 0 && (x124001 == 0 && (x124002.toList == ([] : List UInt8) && (!x124003 && ((x124004 == 0 && (x124005 == 0 && (x124006 == 0 && (x124007 == 0)))) && (x124008 == 0 && (x124009 == 0)))))))) else (some false)) else (if x12 = 8 then (script_may.j2 k x12 (x12 == 8) x123000 x123001 x123002 x123003 x123004 x123005 x123006 x123007 x123008 x123009 x124000 x124001 x124002 x124003 x124004 x124005 x124006 x124007 x124008 x124009) else (if x12 = 9 then (script_may.j2 k x12 (x12 == 9) x123000 x123001 x123002 x123003 x123004 x123005 x123006 x123007 x123008 x123009 x124000 x124001 x124002 x124003 x124004 x124005 x124006 x124007 x124008 x124009) else (if x12 = 10 then (script_may.j2 k x12 (x12 == 10) x123000 x123001 x123002 x123003 x123004 x123005 x123006 x123007 x123008 x123009 x124000 x124001 x124002 x124003 x124004 x124005 x124006 x124007 x124008 x124009) else (if x12 = 12 then (script_may.j2 k x12 (x12 == 12) x123000 x123001 x123002 x123003 x123004 x123005 x123006 x123007 x123008 x123009 x124000 x124001 x124002 x124003 x124004 x124005 x124006 x124007 x124008 x124009) else (script_may.j2 k x12 (x12 == 13) x123000 x123001 x123002 x123003 x123004 x123005 x123006 x123007 x123008 x123009 x124000 x124001 x124002 x124003 x124004 x124005 x124006 x124007 x124008 x124009)))))
def script_may.j2 : Nat → Int → Bool → Int → Int → ByteArray → Bool → Int → Int → Int → Int → Int → Int → Int → Int → ByteArray → Bool → Int → Int → Int → Int → Int → Int → Option (Bool)
 | 0, _, _, _, _, _, _, _, _, _, _, _, _, _, _, _, _, _, _, _, _, _, _ => none
 | k + 1, x12, x55, x123000, x123001, x123002, x123003, x123004, x123005, x123006, x123007, x123008, x123009, x124000, x124001, x124002, x124003, x124004, x124005, x124006, x124007, x124008, x124009 => if x55 = true then (if x123001 = 1 then (some (x124000 == 0 && (x124001 == 0 && (x124002.toList == ([] : List UInt8) && (!x124003 && ((x124004 == 0 && (x124005 == 0 && (x124006 == 0 && (x124007 == 0)))) && (x124008 == 0 && (x124009 == 0)))))))) else (some false)) else (if x12 = 11 then (if x123001 = 1 then (if x123008 ≥ 0 then (if x123008 ≤ 255 then (if x123009 = (-1) then (some (x124000 == 0 && (x124001 == 0 && (x124002.toList == ([] : List UInt8) && (!x124003 && ((x124004 == 0 && (x124005 == 0 && (x124006 == 0 && (x124007 == 0)))))))))) else (if x123009 ≥ x123008 then (if x123009 ≤ 255 then (some (x124000 == 0 && (x124001 == 0 && (x124002.toList == ([] : List UInt8) && (!x124003 && ((x124004 == 0 && (x124005 == 0 && (x124006 == 0 && (x124007 == 0)))))))))) else (some false)) else (some false))) else (some false)) else (some false)) else (some false)) else (if x12 = 14 then (if x123001 = 1 then ((script_own.f k x123002).bind fun t126 => (if t126 = true then (some (x124000 == 0 && (x124001 == 0 && (!x124003 && ((x124004 == 0 && (x124005 == 0 && (x124006 == 0 && (x124007 == 0)))) && (x124008 == 0 && (x124009 == 0))))))) else (some false))) else (some false)) else (some false)))
end
def script_may.f (k : Nat) (a0_0 : Int) (a0_1 : Int) (a0_2 : ByteArray) (a0_3 : Bool) (a0_4 : Int) (a0_5 : Int) (a0_6 : Int) (a0_7 : Int) (a0_8 : Int) (a0_9 : Int) : Option (Bool) := if a0_0 = 0 then (script_may.j0 k (a0_1 == 0) a0_0 (a0_0 == 0) a0_0 a0_1 a0_2 a0_3 a0_4 a0_5 a0_6 a0_7 a0_8 a0_9 0 0 a0_2 a0_3 a0_4 a0_5 a0_6 a0_7 a0_8 a0_9) else (script_may.j0 k (a0_1 == 0) a0_0 (a0_0 == 3) a0_0 a0_1 a0_2 a0_3 a0_4 a0_5 a0_6 a0_7 a0_8 a0_9 0 0 a0_2 a0_3 a0_4 a0_5 a0_6 a0_7 a0_8 a0_9)
theorem script_may.mono_l : ∀ k, (∀ y0 y1 y2 y3 y4 y5 y6 y7 y8 y9 y10 y11 y12 y13 y14 y15 y16 y17 y18 y19 y20 y21 y22, LeO (script_may.j0 k y0 y1 y2 y3 y4 y5 y6 y7 y8 y9 y10 y11 y12 y13 y14 y15 y16 y17 y18 y19 y20 y21 y22) (script_may.j0 (k + 1) y0 y1 y2 y3 y4 y5 y6 y7 y8 y9 y10 y11 y12 y13 y14 y15 y16 y17 y18 y19 y20 y21 y22)) ∧ (∀ y0 y1 y2 y3 y4 y5 y6 y7 y8 y9 y10 y11 y12 y13 y14 y15 y16 y17 y18 y19 y20 y21, LeO (script_may.j1 k y0 y1 y2 y3 y4 y5 y6 y7 y8 y9 y10 y11 y12 y13 y14 y15 y16 y17 y18 y19 y20 y21) (script_may.j1 (k + 1) y0 y1 y2 y3 y4 y5 y6 y7 y8 y9 y10 y11 y12 y13 y14 y15 y16 y17 y18 y19 y20 y21)) ∧ (∀ y0 y1 y2 y3 y4 y5 y6 y7 y8 y9 y10 y11 y12 y13 y14 y15 y16 y17 y18 y19 y20 y21, LeO (script_may.j2 k y0 y1 y2 y3 y4 y5 y6 y7 y8 y9 y10 y11 y12 y13 y14 y15 y16 y17 y18 y19 y20 y21) (script_may.j2 (k + 1) y0 y1 y2 y3 y4 y5 y6 y7 y8 y9 y10 y11 y12 y13 y14 y15 y16 y17 y18 y19 y20 y21))
 | 0 => ⟨fun _ _ _ _ _ _ _ _ _ _ _ _ _ _ _ _ _ _ _ _ _ _ _ r h => by simp [script_may.j0] at h, fun _ _ _ _ _ _ _ _ _ _ _ _ _ _ _ _ _ _ _ _ _ _ r h => by simp [script_may.j1] at h, fun _ _ _ _ _ _ _ _ _ _ _ _ _ _ _ _ _ _ _ _ _ _ r h => by simp [script_may.j2] at h⟩
 | k + 1 => by
  obtain ⟨ih0, ih1, ih2⟩ := script_may.mono_l k
  refine ⟨?_, ?_, ?_⟩
  ·intro y0 y1 y2 y3 y4 y5 y6 y7 y8 y9 y10 y11 y12 y13 y14 y15 y16 y17 y18 y19 y20 y21 y22
   unfold script_may.j0
   repeat' first
   | (with_reducible exact ih0 _ _ _ _ _ _ _ _ _ _ _ _ _ _ _ _ _ _ _ _ _ _ _)
   | (with_reducible exact ih1 _ _ _ _ _ _ _ _ _ _ _ _ _ _ _ _ _ _ _ _ _ _)
   | (with_reducible exact ih2 _ _ _ _ _ _ _ _ _ _ _ _ _ _ _ _ _ _ _ _ _ _)
   | (with_reducible exact lexis_Name.mono _ _)
   | (with_reducible exact script_own.mono _ _)
   | (with_reducible exact LeO.refl _)
   | (with_reducible exact LeO.none _)
   | (with_reducible refine LeO.ite ?_ ?_)
   | (with_reducible refine LeO.bind ?_ (fun _ => ?_))
   | exact ih0 _ _ _ _ _ _ _ _ _ _ _ _ _ _ _ _ _ _ _ _ _ _ _
   | exact ih1 _ _ _ _ _ _ _ _ _ _ _ _ _ _ _ _ _ _ _ _ _ _
   | exact ih2 _ _ _ _ _ _ _ _ _ _ _ _ _ _ _ _ _ _ _ _ _ _
   | exact lexis_Name.mono _ _
   | exact script_own.mono _ _
   | exact LeO.none _
   | refine LeO.ite ?_ ?_
   | refine LeO.bind ?_ (fun _ => ?_)
  ·intro y0 y1 y2 y3 y4 y5 y6 y7 y8 y9 y10 y11 y12 y13 y14 y15 y16 y17 y18 y19 y20 y21
   unfold script_may.j1
   repeat' first
   | (with_reducible exact ih0 _ _ _ _ _ _ _ _ _ _ _ _ _ _ _ _ _ _ _ _ _ _ _)
   | (with_reducible exact ih1 _ _ _ _ _ _ _ _ _ _ _ _ _ _ _ _ _ _ _ _ _ _)
   | (with_reducible exact ih2 _ _ _ _ _ _ _ _ _ _ _ _ _ _ _ _ _ _ _ _ _ _)
   | (with_reducible exact lexis_Name.mono _ _)
   | (with_reducible exact script_own.mono _ _)
   | (with_reducible exact LeO.refl _)
   | (with_reducible exact LeO.none _)
   | (with_reducible refine LeO.ite ?_ ?_)
   | (with_reducible refine LeO.bind ?_ (fun _ => ?_))
   | exact ih0 _ _ _ _ _ _ _ _ _ _ _ _ _ _ _ _ _ _ _ _ _ _ _
   | exact ih1 _ _ _ _ _ _ _ _ _ _ _ _ _ _ _ _ _ _ _ _ _ _
   | exact ih2 _ _ _ _ _ _ _ _ _ _ _ _ _ _ _ _ _ _ _ _ _ _
   | exact lexis_Name.mono _ _
   | exact script_own.mono _ _
   | exact LeO.none _
   | refine LeO.ite ?_ ?_
   | refine LeO.bind ?_ (fun _ => ?_)
  ·intro y0 y1 y2 y3 y4 y5 y6 y7 y8 y9 y10 y11 y12 y13 y14 y15 y16 y17 y18 y19 y20 y21
   unfold script_may.j2
   repeat' first
   | (with_reducible exact ih0 _ _ _ _ _ _ _ _ _ _ _ _ _ _ _ _ _ _ _ _ _ _ _)
   | (with_reducible exact ih1 _ _ _ _ _ _ _ _ _ _ _ _ _ _ _ _ _ _ _ _ _ _)
   | (with_reducible exact ih2 _ _ _ _ _ _ _ _ _ _ _ _ _ _ _ _ _ _ _ _ _ _)
   | (with_reducible exact lexis_Name.mono _ _)
   | (with_reducible exact script_own.mono _ _)
   | (with_reducible exact LeO.refl _)
   | (with_reducible exact LeO.none _)
   | (with_reducible refine LeO.ite ?_ ?_)
   | (with_reducible refine LeO.bind ?_ (fun _ => ?_))
   | exact ih0 _ _ _ _ _ _ _ _ _ _ _ _ _ _ _ _ _ _ _ _ _ _ _
   | exact ih1 _ _ _ _ _ _ _ _ _ _ _ _ _ _ _ _ _ _ _ _ _ _
   | exact ih2 _ _ _ _ _ _ _ _ _ _ _ _ _ _ _ _ _ _ _ _ _ _
   | exact lexis_Name.mono _ _
   | exact script_own.mono _ _
   | exact LeO.none _
   | refine LeO.ite ?_ ?_
   | refine LeO.bind ?_ (fun _ => ?_)
theorem script_may.mono : ∀ a0 a1 a2 a3 a4 a5 a6 a7 a8 a9 k, LeO (script_may.f k a0 a1 a2 a3 a4 a5 a6 a7 a8 a9) (script_may.f (k + 1) a0 a1 a2 a3 a4 a5 a6 a7 a8 a9) := by
 intro a0 a1 a2 a3 a4 a5 a6 a7 a8 a9 k
 obtain ⟨ih0, ih1, ih2⟩ := script_may.mono_l k
 unfold script_may.f
 repeat' first
   | (with_reducible exact ih0 _ _ _ _ _ _ _ _ _ _ _ _ _ _ _ _ _ _ _ _ _ _ _)
   | (with_reducible exact ih1 _ _ _ _ _ _ _ _ _ _ _ _ _ _ _ _ _ _ _ _ _ _)
   | (with_reducible exact ih2 _ _ _ _ _ _ _ _ _ _ _ _ _ _ _ _ _ _ _ _ _ _)
   | (with_reducible exact lexis_Name.mono _ _)
   | (with_reducible exact script_own.mono _ _)
   | (with_reducible exact LeO.refl _)
   | (with_reducible exact LeO.none _)
   | (with_reducible refine LeO.ite ?_ ?_)
   | (with_reducible refine LeO.bind ?_ (fun _ => ?_))
   | exact ih0 _ _ _ _ _ _ _ _ _ _ _ _ _ _ _ _ _ _ _ _ _ _ _
   | exact ih1 _ _ _ _ _ _ _ _ _ _ _ _ _ _ _ _ _ _ _ _ _ _
   | exact ih2 _ _ _ _ _ _ _ _ _ _ _ _ _ _ _ _ _ _ _ _ _ _
   | exact lexis_Name.mono _ _
   | exact script_own.mono _ _
   | exact LeO.none _
   | refine LeO.ite ?_ ?_
   | refine LeO.bind ?_ (fun _ => ?_)
set_option maxHeartbeats 8000000 in
set_option maxRecDepth 100000 in
theorem script_may.calls (k : Nat) (a0_0 : Int) (a0_1 : Int) (a0_2 : ByteArray) (a0_3 : Bool) (a0_4 : Int) (a0_5 : Int) (a0_6 : Int) (a0_7 : Int) (a0_8 : Int) (a0_9 : Int) (r : Bool) (w : World) (h : script_may.f k a0_0 a0_1 a0_2 a0_3 a0_4 a0_5 a0_6 a0_7 a0_8 a0_9 = some r) :
  Calls Tryd.prog 37 #[.agg #[.int .i64 a0_0, .int .i64 a0_1, .string a0_2, .bool a0_3, .int .u64 a0_4, .int .u64 a0_5, .int .u64 a0_6, .int .u64 a0_7, .int .i64 a0_8, .int .i64 a0_9]] w fun e w' => e = .returned (.bool r) ∧ Below w.heap.size w w' := by
 have hu51 := Tryd.underlying51
 have hu49 := Tryd.underlying49
 have HB := aK (Below.refl w.heap.size w)
 have H : (if a0_0 = 0 then (script_may.j0 k (a0_1 == 0) a0_0 (a0_0 == 0) a0_0 a0_1 a0_2 a0_3 a0_4 a0_5 a0_6 a0_7 a0_8 a0_9 0 0 a0_2 a0_3 a0_4 a0_5 a0_6 a0_7 a0_8 a0_9) else (script_may.j0 k (a0_1 == 0) a0_0 (a0_0 == 3) a0_0 a0_1 a0_2 a0_3 a0_4 a0_5 a0_6 a0_7 a0_8 a0_9 0 0 a0_2 a0_3 a0_4 a0_5 a0_6 a0_7 a0_8 a0_9)) = some r := h
 clear h; have HC2 := aK H; clear H
 go_enter Tryd.func37, Tryd.ntmps37
 go_upto_if 13 with (first | ((with_reducible refine gate_dst (N := 1) rfl ?_); refine box_event ?hg (N := 1) ?hd (cs := #[.int .i64 a0_0, .int .i64 a0_1, .string a0_2, .bool a0_3, .int .u64 a0_4, .int .u64 a0_5, .int .u64 a0_6, .int .u64 a0_7, .int .i64 a0_8, .int .i64 a0_9]) (t := 51) ?hr ?_; (case hd => rfl); (case hg => rfl); (case hr => first | (go_simp; done) | (go_simp; rfl)); intro gb122 hg w3 hbox hb; have z_ := bxk hb hg (by repeat (first | (with_reducible first | exact HB.out | apply below_alloc | apply pw_below_drewN | apply below_drew1) | exact HB.out)); have n0_ := aK z_.1; have n1_ := aK (hbox); have n2_ := aK z_.2; have n3_ := aK z_.2; clear z_; clear HB; have HB := n0_; have BK122 := n1_; have GW122 := n2_; have GE122 := n3_; clear n0_ n1_ n2_ n3_; clear hb hbox hg; obtain ⟨hcz4_0, hcz4_1, hcz4_2, hcz4_3, hcz4_4, hcz4_5, hcz4_6, hcz4_7, hcz4_8, hcz4_9⟩ := ck10 BK122.out; obtain ⟨hfz4_0, hfz4_1, hfz4_2, hfz4_3, hfz4_4, hfz4_5, hfz4_6, hfz4_7, hfz4_8, hfz4_9⟩ := fk10 BK122.out) | ((with_reducible refine gate_dst (N := 4) rfl ?_); refine box_event ?hg (N := 4) ?hd (cs := #[.int .i64 0, .int .i64 0, .string (⟨#[]⟩ : ByteArray), .bool false, .int .u64 0, .int .u64 0, .int .u64 0, .int .u64 0, .int .i64 0, .int .i64 0]) (t := 51) ?hr ?_; (case hd => rfl); (case hg => rfl); (case hr => first | (go_simp; done) | (go_simp; rfl)); intro gb123 hg w5 hbox hb; have y_gb122 := blkk (g0 := gb122) hb hg qDoor7_4; have n0_ := aK y_gb122.1; have z_ := bxk hb hg (by repeat (first | (with_reducible first | exact HB.out | apply below_alloc | apply pw_below_drewN | apply below_drew1 | refine below_set ?_ GE122.out) | exact HB.out)); have n1_ := aK z_.1; have n2_ := aK (hbox); have n3_ := aK z_.2; have n4_ := aK z_.2; clear z_; have n5_ := aK y_gb122.2.1; have n6_ := aK y_gb122.2.2; clear BK122; clear HB; have BK122 := n0_; have HB := n1_; have BK123 := n2_; have GW123 := n3_; have GE123 := n4_; have NB122_123 := n5_; have NB123_122 := n6_; clear n0_ n1_ n2_ n3_ n4_ n5_ n6_; clear hb hbox hg y_gb122; have hnb6 := NB123_122.out; have hnc6 := NB122_123.out; obtain ⟨hcz7_0, hcz7_1, hcz7_2, hcz7_3, hcz7_4, hcz7_5, hcz7_6, hcz7_7, hcz7_8, hcz7_9⟩ := ck10 BK123.out; obtain ⟨hfz7_0, hfz7_1, hfz7_2, hfz7_3, hfz7_4, hfz7_5, hfz7_6, hfz7_7, hfz7_8, hfz7_9⟩ := fk10 BK123.out; obtain ⟨hcz8_0, hcz8_1, hcz8_2, hcz8_3, hcz8_4, hcz8_5, hcz8_6, hcz8_7, hcz8_8, hcz8_9⟩ := ck10 BK122.out; obtain ⟨hfz8_0, hfz8_1, hfz8_2, hfz8_3, hfz8_4, hfz8_5, hfz8_6, hfz8_7, hfz8_8, hfz8_9⟩ := fk10 BK122.out))
 (try simp only [Act.put, List.setIfInBounds_toArray, List.set_cons_zero, List.set_cons_succ])
 go_cut [13] (fun v13 wc => ∃ (kq : Nat) (x13_1 : Bool), v13 = .bool x13_1 ∧ Aside0 (script_may.j0 kq (a0_1 == 0) a0_0 x13_1 a0_0 a0_1 a0_2 a0_3 a0_4 a0_5 a0_6 a0_7 a0_8 a0_9 0 0 a0_2 a0_3 a0_4 a0_5 a0_6 a0_7 a0_8 a0_9 = some r) ∧ Aside0 (kq ≤ k) ∧ Aside0 (wc.heap[gb122]? = some (.cells #[.int .i64 a0_0, .int .i64 a0_1, .string a0_2, .bool a0_3, .int .u64 a0_4, .int .u64 a0_5, .int .u64 a0_6, .int .u64 a0_7, .int .i64 a0_8, .int .i64 a0_9] 51 (0, 0))) ∧ Aside0 (wc.heap[gb123]? = some (.cells #[.int .i64 0, .int .i64 0, .string a0_2, .bool a0_3, .int .u64 a0_4, .int .u64 a0_5, .int .u64 a0_6, .int .u64 a0_7, .int .i64 a0_8, .int .i64 a0_9] 51 (0, 0))) ∧ Aside0 (Below w.heap.size w wc))
 case first =>
  have H := HC2.out
  clear HC2
  by_cases c9 : a0_0 = 0
  ·rw [if_pos c9] at H
   have c9b0 : (a0_0 == 0) = true := beq_iff_eq.mpr c9
   have c9b1 : (a0_0 != 0) = false := bne_eq_false_iff_eq.mpr c9
   clear c9
   (first | rw [c9b0] | (simp only [i64_w, i32_w]; rw [c9b0]) | skip)
   have H' := aK H
   clear H
   go_wp2
   go_meet
   case rel => exact ⟨_, ((a0_0 == 0)), qDoor7_9, H', ⟨by first | omega | exact Nat.le_refl _⟩, ⟨qDoor7_2⟩, ⟨qDoor7_1⟩, ⟨qDoor7_0⟩⟩
  ·rw [if_neg c9] at H
   have c9b0 : (a0_0 == 0) = false := beq_eq_false_iff_ne.mpr c9
   have c9b1 : (a0_0 != 0) = true := bne_iff_ne.mpr c9
   (first | rw [c9b0] | (simp only [i64_w, i32_w]; rw [c9b0]) | skip)
   have H' := aK H
   clear H
   go_wp2
   go_meet
   case rel => exact ⟨_, ((a0_0 == 3)), qDoor7_9, H', ⟨by first | omega | exact Nat.le_refl _⟩, ⟨qDoor7_2⟩, ⟨qDoor7_1⟩, ⟨qDoor7_0⟩⟩
 case rest =>
  clear HC2; (try clear p2); (try clear c3); (try clear c6); (try clear c9); (try clear c9b0); (try clear c9b1); (try clear hcz4_0); (try clear hcz4_1); (try clear hcz4_2); (try clear hcz4_3); (try clear hcz4_4); (try clear hcz4_5); (try clear hcz4_6); (try clear hcz4_7); (try clear hcz4_8); (try clear hcz4_9); (try clear hcz7_0); (try clear hcz7_1); (try clear hcz7_2); (try clear hcz7_3); (try clear hcz7_4); (try clear hcz7_5); (try clear hcz7_6); (try clear hcz7_7); (try clear hcz7_8); (try clear hcz7_9); (try clear hcz8_0); (try clear hcz8_1); (try clear hcz8_2); (try clear hcz8_3); (try clear hcz8_4); (try clear hcz8_5); (try clear hcz8_6); (try clear hcz8_7); (try clear hcz8_8); (try clear hcz8_9); (try clear hfz4_0); (try clear hfz4_1); (try clear hfz4_2); (try clear hfz4_3); (try clear hfz4_4); (try clear hfz4_5); (try clear hfz4_6); (try clear hfz4_7); (try clear hfz4_8); (try clear hfz4_9); (try clear hfz7_0); (try clear hfz7_1); (try clear hfz7_2); (try clear hfz7_3); (try clear hfz7_4); (try clear hfz7_5); (try clear hfz7_6); (try clear hfz7_7); (try clear hfz7_8); (try clear hfz7_9); (try clear hfz8_0); (try clear hfz8_1); (try clear hfz8_2); (try clear hfz8_3); (try clear hfz8_4); (try clear hfz8_5); (try clear hfz8_6); (try clear hfz8_7); (try clear hfz8_8); (try clear hfz8_9)
  obtain ⟨kq, x13_1, rfl, HA, HJ1, BK122, BK123, HB⟩ := hcut
  cases kq with
  | zero => exact absurd HA.out (by simp [script_may.j0])
  | succ kj1 =>
   have H := HA.out
   clear HA
   simp only [script_may.j0] at H
   by_cases c10 : x13_1 = true
   ·subst c10
    have H1 : (if (a0_1 == 0) = true then (some (0 == 0 && (0 == 0 && (a0_2.toList == ([] : List UInt8) && (!a0_3 && ((a0_4 == 0 && (a0_5 == 0 && (a0_6 == 0 && (a0_7 == 0)))) && (a0_8 == 0 && (a0_9 == 0)))))))) else (some false)) = some r := by rw [if_pos rfl] at H; exact H
    clear H
    have H := H1
    clear H1
    by_cases c11 : (a0_1 == 0) = true
    ·rw [if_pos c11] at H
     have c11b0 : (a0_1 == 0) = true := c11
     (try (have c11b1 : decide (a0_1 = 0) = true := by simpa using c11))
     (try (have c11b2 : (a0_1 == 0) = true := by simpa using c11))
     clear c11
     obtain rfl := Option.some.inj H
     have hnb12 := NB123_122.out
     have hnc12 := NB122_123.out
     obtain ⟨hcz13_0, hcz13_1, hcz13_2, hcz13_3, hcz13_4, hcz13_5, hcz13_6, hcz13_7, hcz13_8, hcz13_9⟩ := ck10 BK123.out
     obtain ⟨hfz13_0, hfz13_1, hfz13_2, hfz13_3, hfz13_4, hfz13_5, hfz13_6, hfz13_7, hfz13_8, hfz13_9⟩ := fk10 BK123.out
     go_wp2
     go_ret
     exact ⟨qDoor7_3, qDoor7_0⟩
    ·rw [if_neg c11] at H
     have c11b0 : (a0_1 == 0) = false := by simpa using c11
     (try (have c11b1 : decide (a0_1 = 0) = false := by simpa using c11))
     (try (have c11b2 : (a0_1 == 0) = false := by simpa using c11))
     (try (have c11b3 : ¬ (a0_1 = 0) := by simpa using c11))
     clear c11
     obtain rfl := Option.some.inj H
     go_wp2
     go_ret
     exact ⟨qDoor7_3, qDoor7_0⟩
   ·replace c10 := Bool.eq_false_iff.mpr c10
    subst c10
    have H1 : (if a0_0 = 1 then (if (a0_1 == 0) = true then (some (0 == 0 && (0 == 0 && ((a0_4 == 0 && (a0_5 == 0 && (a0_6 == 0 && (a0_7 == 0)))) && (a0_8 == 0 && (a0_9 == 0)))))) else (some false)) else (if a0_0 = 2 then (if (a0_1 == 0) = true then (some (0 == 0 && (0 == 0 && (a0_2.toList == ([] : List UInt8) && (!a0_3 && (a0_8 == 0 && (a0_9 == 0))))))) else (some false)) else (if a0_0 = 4 then (if a0_1 ≥ 0 then (if a0_1 ≤ 8 then ((lexis_Name.f kj1 a0_2).bind fun t124 => (if t124 = true then (some (0 == 0 && (0 == 0 && (!a0_3 && ((a0_4 == 0 && (a0_5 == 0 && (a0_6 == 0 && (a0_7 == 0)))) && (a0_8 == 0 && (a0_9 == 0))))))) else (some false))) else (some false)) else (some false)) else (if a0_0 = 5 then (if (a0_1 == 0) = true then ((script_own.f kj1 a0_2).bind fun t125 => (if t125 = true then (some (0 == 0 && (0 == 0 && (!a0_3 && ((a0_4 == 0 && (a0_5 == 0 && (a0_6 == 0 && (a0_7 == 0)))) && (a0_8 == 0 && (a0_9 == 0))))))) else (some false))) else (some false)) else (if a0_0 = 6 then (script_may.j1 kj1 a0_0 (a0_0 == 6) a0_0 a0_1 a0_2 a0_3 a0_4 a0_5 a0_6 a0_7 a0_8 a0_9 0 0 a0_2 a0_3 a0_4 a0_5 a0_6 a0_7 a0_8 a0_9) else (script_may.j1 kj1 a0_0 (a0_0 == 7) a0_0 a0_1 a0_2 a0_3 a0_4 a0_5 a0_6 a0_7 a0_8 a0_9 0 0 a0_2 a0_3 a0_4 a0_5 a0_6 a0_7 a0_8 a0_9)))))) = some r := by rw [if_neg (show ¬ (false = true) by decide)] at H; exact H
    clear H
    have H := H1
    clear H1
    by_cases c14 : a0_0 = 1
    ·rw [if_pos c14] at H
     have c14b0 : (a0_0 == 1) = true := beq_iff_eq.mpr c14
     have c14b1 : (a0_0 != 1) = false := bne_eq_false_iff_eq.mpr c14
     clear c14
     by_cases c15 : (a0_1 == 0) = true
     ·rw [if_pos c15] at H
      have c15b0 : (a0_1 == 0) = true := c15
      (try (have c15b1 : decide (a0_1 = 0) = true := by simpa using c15))
      (try (have c15b2 : (a0_1 == 0) = true := by simpa using c15))
      clear c15
      obtain rfl := Option.some.inj H
      have hnb16 := NB123_122.out
      have hnc16 := NB122_123.out
      obtain ⟨hcz17_0, hcz17_1, hcz17_2, hcz17_3, hcz17_4, hcz17_5, hcz17_6, hcz17_7, hcz17_8, hcz17_9⟩ := ck10 BK123.out
      obtain ⟨hfz17_0, hfz17_1, hfz17_2, hfz17_3, hfz17_4, hfz17_5, hfz17_6, hfz17_7, hfz17_8, hfz17_9⟩ := fk10 BK123.out
      go_wp2
      go_ret
      exact ⟨qDoor7_3, qDoor7_0⟩
     ·rw [if_neg c15] at H
      have c15b0 : (a0_1 == 0) = false := by simpa using c15
      (try (have c15b1 : decide (a0_1 = 0) = false := by simpa using c15))
      (try (have c15b2 : (a0_1 == 0) = false := by simpa using c15))
      (try (have c15b3 : ¬ (a0_1 = 0) := by simpa using c15))
      clear c15
      obtain rfl := Option.some.inj H
      have hnb18 := NB123_122.out
      have hnc18 := NB122_123.out
      obtain ⟨hcz19_0, hcz19_1, hcz19_2, hcz19_3, hcz19_4, hcz19_5, hcz19_6, hcz19_7, hcz19_8, hcz19_9⟩ := ck10 BK123.out
      obtain ⟨hfz19_0, hfz19_1, hfz19_2, hfz19_3, hfz19_4, hfz19_5, hfz19_6, hfz19_7, hfz19_8, hfz19_9⟩ := fk10 BK123.out
      go_wp2
      go_ret
      exact ⟨qDoor7_3, qDoor7_0⟩
    ·rw [if_neg c14] at H
     have c14b0 : (a0_0 == 1) = false := beq_eq_false_iff_ne.mpr c14
     have c14b1 : (a0_0 != 1) = true := bne_iff_ne.mpr c14
     by_cases c20 : a0_0 = 2
     ·rw [if_pos c20] at H
      have c20b0 : (a0_0 == 2) = true := beq_iff_eq.mpr c20
      have c20b1 : (a0_0 != 2) = false := bne_eq_false_iff_eq.mpr c20
      clear c20
      by_cases c21 : (a0_1 == 0) = true
      ·rw [if_pos c21] at H
       have c21b0 : (a0_1 == 0) = true := c21
       (try (have c21b1 : decide (a0_1 = 0) = true := by simpa using c21))
       (try (have c21b2 : (a0_1 == 0) = true := by simpa using c21))
       clear c21
       obtain rfl := Option.some.inj H
       have hnb22 := NB123_122.out
       have hnc22 := NB122_123.out
       obtain ⟨hcz23_0, hcz23_1, hcz23_2, hcz23_3, hcz23_4, hcz23_5, hcz23_6, hcz23_7, hcz23_8, hcz23_9⟩ := ck10 BK123.out
       obtain ⟨hfz23_0, hfz23_1, hfz23_2, hfz23_3, hfz23_4, hfz23_5, hfz23_6, hfz23_7, hfz23_8, hfz23_9⟩ := fk10 BK123.out
       go_wp2
       go_ret
       exact ⟨qDoor7_3, qDoor7_0⟩
      ·rw [if_neg c21] at H
       have c21b0 : (a0_1 == 0) = false := by simpa using c21
       (try (have c21b1 : decide (a0_1 = 0) = false := by simpa using c21))
       (try (have c21b2 : (a0_1 == 0) = false := by simpa using c21))
       (try (have c21b3 : ¬ (a0_1 = 0) := by simpa using c21))
       clear c21
       obtain rfl := Option.some.inj H
       have hnb24 := NB123_122.out
       have hnc24 := NB122_123.out
       obtain ⟨hcz25_0, hcz25_1, hcz25_2, hcz25_3, hcz25_4, hcz25_5, hcz25_6, hcz25_7, hcz25_8, hcz25_9⟩ := ck10 BK123.out
       obtain ⟨hfz25_0, hfz25_1, hfz25_2, hfz25_3, hfz25_4, hfz25_5, hfz25_6, hfz25_7, hfz25_8, hfz25_9⟩ := fk10 BK123.out
       go_wp2
       go_ret
       exact ⟨qDoor7_3, qDoor7_0⟩
     ·rw [if_neg c20] at H
      have c20b0 : (a0_0 == 2) = false := beq_eq_false_iff_ne.mpr c20
      have c20b1 : (a0_0 != 2) = true := bne_iff_ne.mpr c20
      by_cases c26 : a0_0 = 4
      ·rw [if_pos c26] at H
       have c26b0 : (a0_0 == 4) = true := beq_iff_eq.mpr c26
       have c26b1 : (a0_0 != 4) = false := bne_eq_false_iff_eq.mpr c26
       clear c26
       by_cases c27 : a0_1 ≥ 0
       ·rw [if_pos c27] at H
        have c27b0 : decide (0 ≤ a0_1) = true := decide_eq_true c27
        clear c27
        by_cases c28 : a0_1 ≤ 8
        ·rw [if_pos c28] at H
         have c28b0 : decide (a0_1 ≤ 8) = true := decide_eq_true c28
         clear c28
         replace H := Option.bind_eq_some_iff.mp H
         obtain ⟨t124, A290, H⟩ := H
         replace H : (if t124 = true then (some (0 == 0 && (0 == 0 && (!a0_3 && ((a0_4 == 0 && (a0_5 == 0 && (a0_6 == 0 && (a0_7 == 0)))) && (a0_8 == 0 && (a0_9 == 0))))))) else (some false)) = some r := H
         have A29 := aK A290; clear A290
         by_cases c30 : t124 = true
         ·subst c30
          have H1 : (some (0 == 0 && (0 == 0 && (!a0_3 && ((a0_4 == 0 && (a0_5 == 0 && (a0_6 == 0 && (a0_7 == 0)))) && (a0_8 == 0 && (a0_9 == 0))))))) = some r := by rw [if_pos rfl] at H; exact H
          clear H
          have H := H1
          clear H1
          obtain rfl := Option.some.inj H
          have hnb31 := NB122_123.out
          have hnc31 := NB123_122.out
          obtain ⟨hcz32_0, hcz32_1, hcz32_2, hcz32_3, hcz32_4, hcz32_5, hcz32_6, hcz32_7, hcz32_8, hcz32_9⟩ := ck10 BK122.out
          obtain ⟨hfz32_0, hfz32_1, hfz32_2, hfz32_3, hfz32_4, hfz32_5, hfz32_6, hfz32_7, hfz32_8, hfz32_9⟩ := fk10 BK122.out
          go_wp2_with (first | (go_at_call 19; (with_reducible refine (lexis_Name.calls kj1 a0_2 true _ A29.out).mono ?_); rintro e w' ⟨rfl, ⟨nd, rfl⟩⟩; (try (rw [drewN_self wc]; generalize hq_ : World.drewN wc _ = wc; have n0_ : Aside0 (wc.heap[gb122]? = some (.cells #[.int .i64 a0_0, .int .i64 a0_1, .string a0_2, .bool a0_3, .int .u64 a0_4, .int .u64 a0_5, .int .u64 a0_6, .int .u64 a0_7, .int .i64 a0_8, .int .i64 a0_9] 51 (0, 0))) := ⟨qDoor7_7⟩; have n1_ : Aside0 (wc.heap[gb123]? = some (.cells #[.int .i64 0, .int .i64 0, .string a0_2, .bool a0_3, .int .u64 a0_4, .int .u64 a0_5, .int .u64 a0_6, .int .u64 a0_7, .int .i64 a0_8, .int .i64 a0_9] 51 (0, 0))) := ⟨qDoor7_8⟩; have n2_ : Aside0 (Below w.heap.size w wc) := ⟨qDoor7_6⟩; clear BK122 BK123 HB hq_; have BK122 := n0_; have BK123 := n1_; have HB := n2_; clear n0_ n1_ n2_)); obtain ⟨hcz33_0, hcz33_1, hcz33_2, hcz33_3, hcz33_4, hcz33_5, hcz33_6, hcz33_7, hcz33_8, hcz33_9⟩ := ck10 BK123.out; obtain ⟨hfz33_0, hfz33_1, hfz33_2, hfz33_3, hfz33_4, hfz33_5, hfz33_6, hfz33_7, hfz33_8, hfz33_9⟩ := fk10 BK123.out))
          go_ret
          exact ⟨qDoor7_3, qDoor7_0⟩
         ·replace c30 := Bool.eq_false_iff.mpr c30
          subst c30
          have H1 : (some false) = some r := by rw [if_neg (show ¬ (false = true) by decide)] at H; exact H
          clear H
          have H := H1
          clear H1
          obtain rfl := Option.some.inj H
          have hnb34 := NB122_123.out
          have hnc34 := NB123_122.out
          obtain ⟨hcz35_0, hcz35_1, hcz35_2, hcz35_3, hcz35_4, hcz35_5, hcz35_6, hcz35_7, hcz35_8, hcz35_9⟩ := ck10 BK122.out
          obtain ⟨hfz35_0, hfz35_1, hfz35_2, hfz35_3, hfz35_4, hfz35_5, hfz35_6, hfz35_7, hfz35_8, hfz35_9⟩ := fk10 BK122.out
          go_wp2_with (first | (go_at_call 19; (with_reducible refine (lexis_Name.calls kj1 a0_2 false _ A29.out).mono ?_); rintro e w' ⟨rfl, ⟨nd, rfl⟩⟩; (try (rw [drewN_self wc]; generalize hq_ : World.drewN wc _ = wc; have n0_ : Aside0 (wc.heap[gb122]? = some (.cells #[.int .i64 a0_0, .int .i64 a0_1, .string a0_2, .bool a0_3, .int .u64 a0_4, .int .u64 a0_5, .int .u64 a0_6, .int .u64 a0_7, .int .i64 a0_8, .int .i64 a0_9] 51 (0, 0))) := ⟨qDoor7_7⟩; have n1_ : Aside0 (wc.heap[gb123]? = some (.cells #[.int .i64 0, .int .i64 0, .string a0_2, .bool a0_3, .int .u64 a0_4, .int .u64 a0_5, .int .u64 a0_6, .int .u64 a0_7, .int .i64 a0_8, .int .i64 a0_9] 51 (0, 0))) := ⟨qDoor7_8⟩; have n2_ : Aside0 (Below w.heap.size w wc) := ⟨qDoor7_6⟩; clear BK122 BK123 HB hq_; have BK122 := n0_; have BK123 := n1_; have HB := n2_; clear n0_ n1_ n2_)); obtain ⟨hcz36_0, hcz36_1, hcz36_2, hcz36_3, hcz36_4, hcz36_5, hcz36_6, hcz36_7, hcz36_8, hcz36_9⟩ := ck10 BK123.out; obtain ⟨hfz36_0, hfz36_1, hfz36_2, hfz36_3, hfz36_4, hfz36_5, hfz36_6, hfz36_7, hfz36_8, hfz36_9⟩ := fk10 BK123.out))
          go_ret
          exact ⟨qDoor7_3, qDoor7_0⟩
        ·rw [if_neg c28] at H
         have c28b0 : decide (a0_1 ≤ 8) = false := decide_eq_false c28
         clear c28
         obtain rfl := Option.some.inj H
         have hnb37 := NB122_123.out
         have hnc37 := NB123_122.out
         obtain ⟨hcz38_0, hcz38_1, hcz38_2, hcz38_3, hcz38_4, hcz38_5, hcz38_6, hcz38_7, hcz38_8, hcz38_9⟩ := ck10 BK122.out
         obtain ⟨hfz38_0, hfz38_1, hfz38_2, hfz38_3, hfz38_4, hfz38_5, hfz38_6, hfz38_7, hfz38_8, hfz38_9⟩ := fk10 BK122.out
         obtain ⟨hcz39_0, hcz39_1, hcz39_2, hcz39_3, hcz39_4, hcz39_5, hcz39_6, hcz39_7, hcz39_8, hcz39_9⟩ := ck10 BK123.out
         obtain ⟨hfz39_0, hfz39_1, hfz39_2, hfz39_3, hfz39_4, hfz39_5, hfz39_6, hfz39_7, hfz39_8, hfz39_9⟩ := fk10 BK123.out
         go_wp2
         go_ret
         exact ⟨qDoor7_3, qDoor7_0⟩
       ·rw [if_neg c27] at H
        have c27b0 : decide (0 ≤ a0_1) = false := decide_eq_false c27
        clear c27
        obtain rfl := Option.some.inj H
        have hnb40 := NB122_123.out
        have hnc40 := NB123_122.out
        obtain ⟨hcz41_0, hcz41_1, hcz41_2, hcz41_3, hcz41_4, hcz41_5, hcz41_6, hcz41_7, hcz41_8, hcz41_9⟩ := ck10 BK122.out
        obtain ⟨hfz41_0, hfz41_1, hfz41_2, hfz41_3, hfz41_4, hfz41_5, hfz41_6, hfz41_7, hfz41_8, hfz41_9⟩ := fk10 BK122.out
        obtain ⟨hcz42_0, hcz42_1, hcz42_2, hcz42_3, hcz42_4, hcz42_5, hcz42_6, hcz42_7, hcz42_8, hcz42_9⟩ := ck10 BK123.out
        obtain ⟨hfz42_0, hfz42_1, hfz42_2, hfz42_3, hfz42_4, hfz42_5, hfz42_6, hfz42_7, hfz42_8, hfz42_9⟩ := fk10 BK123.out
        go_wp2
        go_ret
        exact ⟨qDoor7_3, qDoor7_0⟩
      ·rw [if_neg c26] at H
       have c26b0 : (a0_0 == 4) = false := beq_eq_false_iff_ne.mpr c26
       have c26b1 : (a0_0 != 4) = true := bne_iff_ne.mpr c26
       by_cases c43 : a0_0 = 5
       ·rw [if_pos c43] at H
        have c43b0 : (a0_0 == 5) = true := beq_iff_eq.mpr c43
        have c43b1 : (a0_0 != 5) = false := bne_eq_false_iff_eq.mpr c43
        clear c43
        by_cases c44 : (a0_1 == 0) = true
        ·rw [if_pos c44] at H
         have c44b0 : (a0_1 == 0) = true := c44
         (try (have c44b1 : decide (a0_1 = 0) = true := by simpa using c44))
         (try (have c44b2 : (a0_1 == 0) = true := by simpa using c44))
         clear c44
         replace H := Option.bind_eq_some_iff.mp H
         obtain ⟨t125, A450, H⟩ := H
         replace H : (if t125 = true then (some (0 == 0 && (0 == 0 && (!a0_3 && ((a0_4 == 0 && (a0_5 == 0 && (a0_6 == 0 && (a0_7 == 0)))) && (a0_8 == 0 && (a0_9 == 0))))))) else (some false)) = some r := H
         have A45 := aK A450; clear A450
         by_cases c46 : t125 = true
         ·subst c46
          have H1 : (some (0 == 0 && (0 == 0 && (!a0_3 && ((a0_4 == 0 && (a0_5 == 0 && (a0_6 == 0 && (a0_7 == 0)))) && (a0_8 == 0 && (a0_9 == 0))))))) = some r := by rw [if_pos rfl] at H; exact H
          clear H
          have H := H1
          clear H1
          obtain rfl := Option.some.inj H
          have hnb47 := NB122_123.out
          have hnc47 := NB123_122.out
          obtain ⟨hcz48_0, hcz48_1, hcz48_2, hcz48_3, hcz48_4, hcz48_5, hcz48_6, hcz48_7, hcz48_8, hcz48_9⟩ := ck10 BK122.out
          obtain ⟨hfz48_0, hfz48_1, hfz48_2, hfz48_3, hfz48_4, hfz48_5, hfz48_6, hfz48_7, hfz48_8, hfz48_9⟩ := fk10 BK122.out
          go_wp2_with (first | (go_at_call 26; (with_reducible refine (script_own.calls kj1 a0_2 true _ A45.out).mono ?_); rintro e w' ⟨rfl, ⟨nd, rfl⟩⟩; (try (rw [drewN_self wc]; generalize hq_ : World.drewN wc _ = wc; have n0_ : Aside0 (wc.heap[gb122]? = some (.cells #[.int .i64 a0_0, .int .i64 a0_1, .string a0_2, .bool a0_3, .int .u64 a0_4, .int .u64 a0_5, .int .u64 a0_6, .int .u64 a0_7, .int .i64 a0_8, .int .i64 a0_9] 51 (0, 0))) := ⟨qDoor7_7⟩; have n1_ : Aside0 (wc.heap[gb123]? = some (.cells #[.int .i64 0, .int .i64 0, .string a0_2, .bool a0_3, .int .u64 a0_4, .int .u64 a0_5, .int .u64 a0_6, .int .u64 a0_7, .int .i64 a0_8, .int .i64 a0_9] 51 (0, 0))) := ⟨qDoor7_8⟩; have n2_ : Aside0 (Below w.heap.size w wc) := ⟨qDoor7_6⟩; clear BK122 BK123 HB hq_; have BK122 := n0_; have BK123 := n1_; have HB := n2_; clear n0_ n1_ n2_)); obtain ⟨hcz49_0, hcz49_1, hcz49_2, hcz49_3, hcz49_4, hcz49_5, hcz49_6, hcz49_7, hcz49_8, hcz49_9⟩ := ck10 BK123.out; obtain ⟨hfz49_0, hfz49_1, hfz49_2, hfz49_3, hfz49_4, hfz49_5, hfz49_6, hfz49_7, hfz49_8, hfz49_9⟩ := fk10 BK123.out))
          go_ret
          exact ⟨qDoor7_3, qDoor7_0⟩
         ·replace c46 := Bool.eq_false_iff.mpr c46
          subst c46
          have H1 : (some false) = some r := by rw [if_neg (show ¬ (false = true) by decide)] at H; exact H
          clear H
          have H := H1
          clear H1
          obtain rfl := Option.some.inj H
          have hnb50 := NB122_123.out
          have hnc50 := NB123_122.out
          obtain ⟨hcz51_0, hcz51_1, hcz51_2, hcz51_3, hcz51_4, hcz51_5, hcz51_6, hcz51_7, hcz51_8, hcz51_9⟩ := ck10 BK122.out
          obtain ⟨hfz51_0, hfz51_1, hfz51_2, hfz51_3, hfz51_4, hfz51_5, hfz51_6, hfz51_7, hfz51_8, hfz51_9⟩ := fk10 BK122.out
          go_wp2_with (first | (go_at_call 26; (with_reducible refine (script_own.calls kj1 a0_2 false _ A45.out).mono ?_); rintro e w' ⟨rfl, ⟨nd, rfl⟩⟩; (try (rw [drewN_self wc]; generalize hq_ : World.drewN wc _ = wc; have n0_ : Aside0 (wc.heap[gb122]? = some (.cells #[.int .i64 a0_0, .int .i64 a0_1, .string a0_2, .bool a0_3, .int .u64 a0_4, .int .u64 a0_5, .int .u64 a0_6, .int .u64 a0_7, .int .i64 a0_8, .int .i64 a0_9] 51 (0, 0))) := ⟨qDoor7_7⟩; have n1_ : Aside0 (wc.heap[gb123]? = some (.cells #[.int .i64 0, .int .i64 0, .string a0_2, .bool a0_3, .int .u64 a0_4, .int .u64 a0_5, .int .u64 a0_6, .int .u64 a0_7, .int .i64 a0_8, .int .i64 a0_9] 51 (0, 0))) := ⟨qDoor7_8⟩; have n2_ : Aside0 (Below w.heap.size w wc) := ⟨qDoor7_6⟩; clear BK122 BK123 HB hq_; have BK122 := n0_; have BK123 := n1_; have HB := n2_; clear n0_ n1_ n2_)); obtain ⟨hcz52_0, hcz52_1, hcz52_2, hcz52_3, hcz52_4, hcz52_5, hcz52_6, hcz52_7, hcz52_8, hcz52_9⟩ := ck10 BK123.out; obtain ⟨hfz52_0, hfz52_1, hfz52_2, hfz52_3, hfz52_4, hfz52_5, hfz52_6, hfz52_7, hfz52_8, hfz52_9⟩ := fk10 BK123.out))
          go_ret
          exact ⟨qDoor7_3, qDoor7_0⟩
        ·rw [if_neg c44] at H
         have c44b0 : (a0_1 == 0) = false := by simpa using c44
         (try (have c44b1 : decide (a0_1 = 0) = false := by simpa using c44))
         (try (have c44b2 : (a0_1 == 0) = false := by simpa using c44))
         (try (have c44b3 : ¬ (a0_1 = 0) := by simpa using c44))
         clear c44
         obtain rfl := Option.some.inj H
         have hnb53 := NB123_122.out
         have hnc53 := NB122_123.out
         obtain ⟨hcz54_0, hcz54_1, hcz54_2, hcz54_3, hcz54_4, hcz54_5, hcz54_6, hcz54_7, hcz54_8, hcz54_9⟩ := ck10 BK123.out
         obtain ⟨hfz54_0, hfz54_1, hfz54_2, hfz54_3, hfz54_4, hfz54_5, hfz54_6, hfz54_7, hfz54_8, hfz54_9⟩ := fk10 BK123.out
         go_wp2
         go_ret
         exact ⟨qDoor7_3, qDoor7_0⟩
       ·rw [if_neg c43] at H
        have c43b0 : (a0_0 == 5) = false := beq_eq_false_iff_ne.mpr c43
        have c43b1 : (a0_0 != 5) = true := bne_iff_ne.mpr c43
        have HC55 := aK H; clear H
        go_upto_if 49 with (fail)
        go_cut [49] (fun v49 wc => ∃ (kq : Nat) (x49_54 : Bool), v49 = .bool x49_54 ∧ Aside0 (script_may.j1 kq a0_0 x49_54 a0_0 a0_1 a0_2 a0_3 a0_4 a0_5 a0_6 a0_7 a0_8 a0_9 0 0 a0_2 a0_3 a0_4 a0_5 a0_6 a0_7 a0_8 a0_9 = some r) ∧ Aside0 (kq ≤ kj1) ∧ Aside0 (wc.heap[gb122]? = some (.cells #[.int .i64 a0_0, .int .i64 a0_1, .string a0_2, .bool a0_3, .int .u64 a0_4, .int .u64 a0_5, .int .u64 a0_6, .int .u64 a0_7, .int .i64 a0_8, .int .i64 a0_9] 51 (0, 0))) ∧ Aside0 (wc.heap[gb123]? = some (.cells #[.int .i64 0, .int .i64 0, .string a0_2, .bool a0_3, .int .u64 a0_4, .int .u64 a0_5, .int .u64 a0_6, .int .u64 a0_7, .int .i64 a0_8, .int .i64 a0_9] 51 (0, 0))) ∧ Aside0 (Below w.heap.size w wc))
        case first =>
         have H := HC55.out
         clear HC55
         by_cases c56 : a0_0 = 6
         ·rw [if_pos c56] at H
          have c56b0 : (a0_0 == 6) = true := beq_iff_eq.mpr c56
          have c56b1 : (a0_0 != 6) = false := bne_eq_false_iff_eq.mpr c56
          clear c56
          (first | rw [c56b0] | (simp only [i64_w, i32_w]; rw [c56b0]) | skip)
          have H' := aK H
          clear H
          go_wp2
          go_meet
          case rel => exact ⟨_, ((a0_0 == 6)), qDoor7_9, H', ⟨by have := HJ1.out; first | omega | exact Nat.le_refl _⟩, ⟨qDoor7_4⟩, ⟨qDoor7_5⟩, ⟨qDoor7_0⟩⟩
         ·rw [if_neg c56] at H
          have c56b0 : (a0_0 == 6) = false := beq_eq_false_iff_ne.mpr c56
          have c56b1 : (a0_0 != 6) = true := bne_iff_ne.mpr c56
          (first | rw [c56b0] | (simp only [i64_w, i32_w]; rw [c56b0]) | skip)
          have H' := aK H
          clear H
          go_wp2
          go_meet
          case rel => exact ⟨_, ((a0_0 == 7)), qDoor7_9, H', ⟨by have := HJ1.out; first | omega | exact Nat.le_refl _⟩, ⟨qDoor7_4⟩, ⟨qDoor7_5⟩, ⟨qDoor7_0⟩⟩
        case rest =>
         clear HC55; (try clear c1); (try clear c2); (try clear p2); (try clear c3); (try clear c4); (try clear c5); (try clear c6); (try clear c9); (try clear c9b0); (try clear c9b1); (try clear c10); (try clear c11); (try clear c11b0); (try clear c11b1); (try clear c11b2); (try clear c12); (try clear c14); (try clear c14b0); (try clear c14b1); (try clear c15); (try clear c15b0); (try clear c15b1); (try clear c15b2); (try clear c16); (try clear c18); (try clear c20); (try clear c20b0); (try clear c20b1); (try clear c21); (try clear c21b0); (try clear c21b1); (try clear c21b2); (try clear c22); (try clear c24); (try clear c26); (try clear c26b0); (try clear c26b1); (try clear c27); (try clear c27b0); (try clear c28); (try clear c28b0); (try clear c30); (try clear c31); (try clear c34); (try clear c37); (try clear c40); (try clear c43); (try clear c43b0); (try clear c43b1); (try clear c44); (try clear c44b0); (try clear c44b1); (try clear c44b2); (try clear c46); (try clear c47); (try clear c50); (try clear c53); (try clear c56); (try clear c56b0); (try clear c56b1); (try clear hcz13_0); (try clear hcz13_1); (try clear hcz13_2); (try clear hcz13_3); (try clear hcz13_4); (try clear hcz13_5); (try clear hcz13_6); (try clear hcz13_7); (try clear hcz13_8); (try clear hcz13_9); (try clear hcz17_0); (try clear hcz17_1); (try clear hcz17_2); (try clear hcz17_3); (try clear hcz17_4); (try clear hcz17_5); (try clear hcz17_6); (try clear hcz17_7); (try clear hcz17_8); (try clear hcz17_9); (try clear hcz19_0); (try clear hcz19_1); (try clear hcz19_2); (try clear hcz19_3); (try clear hcz19_4); (try clear hcz19_5); (try clear hcz19_6); (try clear hcz19_7); (try clear hcz19_8); (try clear hcz19_9); (try clear hcz23_0); (try clear hcz23_1); (try clear hcz23_2); (try clear hcz23_3); (try clear hcz23_4); (try clear hcz23_5); (try clear hcz23_6); (try clear hcz23_7); (try clear hcz23_8); (try clear hcz23_9); (try clear hcz25_0); (try clear hcz25_1); (try clear hcz25_2); (try clear hcz25_3); (try clear hcz25_4); (try clear hcz25_5); (try clear hcz25_6); (try clear hcz25_7); (try clear hcz25_8); (try clear hcz25_9); (try clear hcz32_0); (try clear hcz32_1); (try clear hcz32_2); (try clear hcz32_3); (try clear hcz32_4); (try clear hcz32_5); (try clear hcz32_6); (try clear hcz32_7); (try clear hcz32_8); (try clear hcz32_9); (try clear hcz33_0); (try clear hcz33_1); (try clear hcz33_2); (try clear hcz33_3); (try clear hcz33_4); (try clear hcz33_5); (try clear hcz33_6); (try clear hcz33_7); (try clear hcz33_8); (try clear hcz33_9); (try clear hcz35_0); (try clear hcz35_1); (try clear hcz35_2); (try clear hcz35_3); (try clear hcz35_4); (try clear hcz35_5); (try clear hcz35_6); (try clear hcz35_7); (try clear hcz35_8); (try clear hcz35_9); (try clear hcz36_0); (try clear hcz36_1); (try clear hcz36_2); (try clear hcz36_3); (try clear hcz36_4); (try clear hcz36_5); (try clear hcz36_6); (try clear hcz36_7); (try clear hcz36_8); (try clear hcz36_9); (try clear hcz38_0); (try clear hcz38_1); (try clear hcz38_2); (try clear hcz38_3); (try clear hcz38_4); (try clear hcz38_5); (try clear hcz38_6); (try clear hcz38_7); (try clear hcz38_8); (try clear hcz38_9); (try clear hcz39_0); (try clear hcz39_1); (try clear hcz39_2); (try clear hcz39_3); (try clear hcz39_4); (try clear hcz39_5); (try clear hcz39_6); (try clear hcz39_7); (try clear hcz39_8); (try clear hcz39_9); (try clear hcz41_0); (try clear hcz41_1); (try clear hcz41_2); (try clear hcz41_3); (try clear hcz41_4); (try clear hcz41_5); (try clear hcz41_6); (try clear hcz41_7); (try clear hcz41_8); (try clear hcz41_9); (try clear hcz42_0); (try clear hcz42_1); (try clear hcz42_2); (try clear hcz42_3); (try clear hcz42_4); (try clear hcz42_5); (try clear hcz42_6); (try clear hcz42_7); (try clear hcz42_8); (try clear hcz42_9); (try clear hcz48_0); (try clear hcz48_1); (try clear hcz48_2); (try clear hcz48_3); (try clear hcz48_4); (try clear hcz48_5); (try clear hcz48_6); (try clear hcz48_7); (try clear hcz48_8); (try clear hcz48_9); (try clear hcz49_0); (try clear hcz49_1); (try clear hcz49_2); (try clear hcz49_3); (try clear hcz49_4); (try clear hcz49_5); (try clear hcz49_6); (try clear hcz49_7); (try clear hcz49_8); (try clear hcz49_9); (try clear hcz4_0); (try clear hcz4_1); (try clear hcz4_2); (try clear hcz4_3); (try clear hcz4_4); (try clear hcz4_5); (try clear hcz4_6); (try clear hcz4_7); (try clear hcz4_8); (try clear hcz4_9); (try clear hcz51_0); (try clear hcz51_1); (try clear hcz51_2); (try clear hcz51_3); (try clear hcz51_4); (try clear hcz51_5); (try clear hcz51_6); (try clear hcz51_7); (try clear hcz51_8); (try clear hcz51_9); (try clear hcz52_0); (try clear hcz52_1); (try clear hcz52_2); (try clear hcz52_3); (try clear hcz52_4); (try clear hcz52_5); (try clear hcz52_6); (try clear hcz52_7); (try clear hcz52_8); (try clear hcz52_9); (try clear hcz54_0); (try clear hcz54_1); (try clear hcz54_2); (try clear hcz54_3); (try clear hcz54_4); (try clear hcz54_5); (try clear hcz54_6); (try clear hcz54_7); (try clear hcz54_8); (try clear hcz54_9); (try clear hcz7_0); (try clear hcz7_1); (try clear hcz7_2); (try clear hcz7_3); (try clear hcz7_4); (try clear hcz7_5); (try clear hcz7_6); (try clear hcz7_7); (try clear hcz7_8); (try clear hcz7_9); (try clear hcz8_0); (try clear hcz8_1); (try clear hcz8_2); (try clear hcz8_3); (try clear hcz8_4); (try clear hcz8_5); (try clear hcz8_6); (try clear hcz8_7); (try clear hcz8_8); (try clear hcz8_9); (try clear hfz13_0); (try clear hfz13_1); (try clear hfz13_2); (try clear hfz13_3); (try clear hfz13_4); (try clear hfz13_5); (try clear hfz13_6); (try clear hfz13_7); (try clear hfz13_8); (try clear hfz13_9); (try clear hfz17_0); (try clear hfz17_1); (try clear hfz17_2); (try clear hfz17_3); (try clear hfz17_4); (try clear hfz17_5); (try clear hfz17_6); (try clear hfz17_7); (try clear hfz17_8); (try clear hfz17_9); (try clear hfz19_0); (try clear hfz19_1); (try clear hfz19_2); (try clear hfz19_3); (try clear hfz19_4); (try clear hfz19_5); (try clear hfz19_6); (try clear hfz19_7); (try clear hfz19_8); (try clear hfz19_9); (try clear hfz23_0); (try clear hfz23_1); (try clear hfz23_2); (try clear hfz23_3); (try clear hfz23_4); (try clear hfz23_5); (try clear hfz23_6); (try clear hfz23_7); (try clear hfz23_8); (try clear hfz23_9); (try clear hfz25_0); (try clear hfz25_1); (try clear hfz25_2); (try clear hfz25_3); (try clear hfz25_4); (try clear hfz25_5); (try clear hfz25_6); (try clear hfz25_7); (try clear hfz25_8); (try clear hfz25_9); (try clear hfz32_0); (try clear hfz32_1); (try clear hfz32_2); (try clear hfz32_3); (try clear hfz32_4); (try clear hfz32_5); (try clear hfz32_6); (try clear hfz32_7); (try clear hfz32_8); (try clear hfz32_9); (try clear hfz33_0); (try clear hfz33_1); (try clear hfz33_2); (try clear hfz33_3); (try clear hfz33_4); (try clear hfz33_5); (try clear hfz33_6); (try clear hfz33_7); (try clear hfz33_8); (try clear hfz33_9); (try clear hfz35_0); (try clear hfz35_1); (try clear hfz35_2); (try clear hfz35_3); (try clear hfz35_4); (try clear hfz35_5); (try clear hfz35_6); (try clear hfz35_7); (try clear hfz35_8); (try clear hfz35_9); (try clear hfz36_0); (try clear hfz36_1); (try clear hfz36_2); (try clear hfz36_3); (try clear hfz36_4); (try clear hfz36_5); (try clear hfz36_6); (try clear hfz36_7); (try clear hfz36_8); (try clear hfz36_9); (try clear hfz38_0); (try clear hfz38_1); (try clear hfz38_2); (try clear hfz38_3); (try clear hfz38_4); (try clear hfz38_5); (try clear hfz38_6); (try clear hfz38_7); (try clear hfz38_8); (try clear hfz38_9); (try clear hfz39_0); (try clear hfz39_1); (try clear hfz39_2); (try clear hfz39_3); (try clear hfz39_4); (try clear hfz39_5); (try clear hfz39_6); (try clear hfz39_7); (try clear hfz39_8); (try clear hfz39_9); (try clear hfz41_0); (try clear hfz41_1); (try clear hfz41_2); (try clear hfz41_3); (try clear hfz41_4); (try clear hfz41_5); (try clear hfz41_6); (try clear hfz41_7); (try clear hfz41_8); (try clear hfz41_9); (try clear hfz42_0); (try clear hfz42_1); (try clear hfz42_2); (try clear hfz42_3); (try clear hfz42_4); (try clear hfz42_5); (try clear hfz42_6); (try clear hfz42_7); (try clear hfz42_8); (try clear hfz42_9); (try clear hfz48_0); (try clear hfz48_1); (try clear hfz48_2); (try clear hfz48_3); (try clear hfz48_4); (try clear hfz48_5); (try clear hfz48_6); (try clear hfz48_7); (try clear hfz48_8); (try clear hfz48_9); (try clear hfz49_0); (try clear hfz49_1); (try clear hfz49_2); (try clear hfz49_3); (try clear hfz49_4); (try clear hfz49_5); (try clear hfz49_6); (try clear hfz49_7); (try clear hfz49_8); (try clear hfz49_9); (try clear hfz4_0); (try clear hfz4_1); (try clear hfz4_2); (try clear hfz4_3); (try clear hfz4_4); (try clear hfz4_5); (try clear hfz4_6); (try clear hfz4_7); (try clear hfz4_8); (try clear hfz4_9); (try clear hfz51_0); (try clear hfz51_1); (try clear hfz51_2); (try clear hfz51_3); (try clear hfz51_4); (try clear hfz51_5); (try clear hfz51_6); (try clear hfz51_7); (try clear hfz51_8); (try clear hfz51_9); (try clear hfz52_0); (try clear hfz52_1); (try clear hfz52_2); (try clear hfz52_3); (try clear hfz52_4); (try clear hfz52_5); (try clear hfz52_6); (try clear hfz52_7); (try clear hfz52_8); (try clear hfz52_9); (try clear hfz54_0); (try clear hfz54_1); (try clear hfz54_2); (try clear hfz54_3); (try clear hfz54_4); (try clear hfz54_5); (try clear hfz54_6); (try clear hfz54_7); (try clear hfz54_8); (try clear hfz54_9); (try clear hfz7_0); (try clear hfz7_1); (try clear hfz7_2); (try clear hfz7_3); (try clear hfz7_4); (try clear hfz7_5); (try clear hfz7_6); (try clear hfz7_7); (try clear hfz7_8); (try clear hfz7_9); (try clear hfz8_0); (try clear hfz8_1); (try clear hfz8_2); (try clear hfz8_3); (try clear hfz8_4); (try clear hfz8_5); (try clear hfz8_6); (try clear hfz8_7); (try clear hfz8_8); (try clear hfz8_9); (try clear p2)
         obtain ⟨kq, x49_54, rfl, HA, HJ54, BK122, BK123, HB⟩ := hcut
         cases kq with
         | zero => exact absurd HA.out (by simp [script_may.j1])
         | succ kj54 =>
          have H := HA.out
          clear HA
          simp only [script_may.j1] at H
          by_cases c57 : x49_54 = true
          ·subst c57
           have H1 : (if a0_1 ≥ 2 then (some (0 == 0 && (0 == 0 && (a0_2.toList == ([] : List UInt8) && (!a0_3 && ((a0_4 == 0 && (a0_5 == 0 && (a0_6 == 0 && (a0_7 == 0)))) && (a0_8 == 0 && (a0_9 == 0)))))))) else (some false)) = some r := by rw [if_pos rfl] at H; exact H
           clear H
           have H := H1
           clear H1
           by_cases c58 : a0_1 ≥ 2
           ·rw [if_pos c58] at H
            have c58b0 : decide (2 ≤ a0_1) = true := decide_eq_true c58
            clear c58
            obtain rfl := Option.some.inj H
            have hnb59 := NB122_123.out
            have hnc59 := NB123_122.out
            obtain ⟨hcz60_0, hcz60_1, hcz60_2, hcz60_3, hcz60_4, hcz60_5, hcz60_6, hcz60_7, hcz60_8, hcz60_9⟩ := ck10 BK122.out
            obtain ⟨hfz60_0, hfz60_1, hfz60_2, hfz60_3, hfz60_4, hfz60_5, hfz60_6, hfz60_7, hfz60_8, hfz60_9⟩ := fk10 BK122.out
            obtain ⟨hcz61_0, hcz61_1, hcz61_2, hcz61_3, hcz61_4, hcz61_5, hcz61_6, hcz61_7, hcz61_8, hcz61_9⟩ := ck10 BK123.out
            obtain ⟨hfz61_0, hfz61_1, hfz61_2, hfz61_3, hfz61_4, hfz61_5, hfz61_6, hfz61_7, hfz61_8, hfz61_9⟩ := fk10 BK123.out
            go_wp2
            go_ret
            exact ⟨qDoor7_3, qDoor7_0⟩
           ·rw [if_neg c58] at H
            have c58b0 : decide (2 ≤ a0_1) = false := decide_eq_false c58
            clear c58
            obtain rfl := Option.some.inj H
            have hnb62 := NB122_123.out
            have hnc62 := NB123_122.out
            obtain ⟨hcz63_0, hcz63_1, hcz63_2, hcz63_3, hcz63_4, hcz63_5, hcz63_6, hcz63_7, hcz63_8, hcz63_9⟩ := ck10 BK122.out
            obtain ⟨hfz63_0, hfz63_1, hfz63_2, hfz63_3, hfz63_4, hfz63_5, hfz63_6, hfz63_7, hfz63_8, hfz63_9⟩ := fk10 BK122.out
            go_wp2
            go_ret
            exact ⟨qDoor7_3, qDoor7_0⟩
          ·replace c57 := Bool.eq_false_iff.mpr c57
           subst c57
           have H1 : (if a0_0 = 8 then (script_may.j2 kj54 a0_0 (a0_0 == 8) a0_0 a0_1 a0_2 a0_3 a0_4 a0_5 a0_6 a0_7 a0_8 a0_9 0 0 a0_2 a0_3 a0_4 a0_5 a0_6 a0_7 a0_8 a0_9) else (if a0_0 = 9 then (script_may.j2 kj54 a0_0 (a0_0 == 9) a0_0 a0_1 a0_2 a0_3 a0_4 a0_5 a0_6 a0_7 a0_8 a0_9 0 0 a0_2 a0_3 a0_4 a0_5 a0_6 a0_7 a0_8 a0_9) else (if a0_0 = 10 then (script_may.j2 kj54 a0_0 (a0_0 == 10) a0_0 a0_1 a0_2 a0_3 a0_4 a0_5 a0_6 a0_7 a0_8 a0_9 0 0 a0_2 a0_3 a0_4 a0_5 a0_6 a0_7 a0_8 a0_9) else (if a0_0 = 12 then (script_may.j2 kj54 a0_0 (a0_0 == 12) a0_0 a0_1 a0_2 a0_3 a0_4 a0_5 a0_6 a0_7 a0_8 a0_9 0 0 a0_2 a0_3 a0_4 a0_5 a0_6 a0_7 a0_8 a0_9) else (script_may.j2 kj54 a0_0 (a0_0 == 13) a0_0 a0_1 a0_2 a0_3 a0_4 a0_5 a0_6 a0_7 a0_8 a0_9 0 0 a0_2 a0_3 a0_4 a0_5 a0_6 a0_7 a0_8 a0_9))))) = some r := by rw [if_neg (show ¬ (false = true) by decide)] at H; exact H
           clear H
           have H := H1
           clear H1; have HC64 := aK H; clear H
           go_upto_if 55 with (fail)
           go_cut [55] (fun v55 wc => ∃ (kq : Nat) (x55_63 : Bool), v55 = .bool x55_63 ∧ Aside0 (script_may.j2 kq a0_0 x55_63 a0_0 a0_1 a0_2 a0_3 a0_4 a0_5 a0_6 a0_7 a0_8 a0_9 0 0 a0_2 a0_3 a0_4 a0_5 a0_6 a0_7 a0_8 a0_9 = some r) ∧ Aside0 (kq ≤ kj54) ∧ Aside0 (wc.heap[gb122]? = some (.cells #[.int .i64 a0_0, .int .i64 a0_1, .string a0_2, .bool a0_3, .int .u64 a0_4, .int .u64 a0_5, .int .u64 a0_6, .int .u64 a0_7, .int .i64 a0_8, .int .i64 a0_9] 51 (0, 0))) ∧ Aside0 (wc.heap[gb123]? = some (.cells #[.int .i64 0, .int .i64 0, .string a0_2, .bool a0_3, .int .u64 a0_4, .int .u64 a0_5, .int .u64 a0_6, .int .u64 a0_7, .int .i64 a0_8, .int .i64 a0_9] 51 (0, 0))) ∧ Aside0 (Below w.heap.size w wc))
           case first =>
            have H := HC64.out
            clear HC64
            by_cases c65 : a0_0 = 8
            ·rw [if_pos c65] at H
             have c65b0 : (a0_0 == 8) = true := beq_iff_eq.mpr c65
             have c65b1 : (a0_0 != 8) = false := bne_eq_false_iff_eq.mpr c65
             clear c65
             (first | rw [c65b0] | (simp only [i64_w, i32_w]; rw [c65b0]) | skip)
             have H' := aK H
             clear H
             go_wp2
             go_meet
             case rel => exact ⟨_, ((a0_0 == 8)), qDoor7_9, H', ⟨qDoor7_10⟩, ⟨qDoor7_4⟩, ⟨qDoor7_5⟩, ⟨qDoor7_0⟩⟩
            ·rw [if_neg c65] at H
             have c65b0 : (a0_0 == 8) = false := beq_eq_false_iff_ne.mpr c65
             have c65b1 : (a0_0 != 8) = true := bne_iff_ne.mpr c65
             (first | rw [c65b0] | (simp only [i64_w, i32_w]; rw [c65b0]) | skip)
             by_cases c66 : a0_0 = 9
             ·rw [if_pos c66] at H
              have c66b0 : (a0_0 == 9) = true := beq_iff_eq.mpr c66
              have c66b1 : (a0_0 != 9) = false := bne_eq_false_iff_eq.mpr c66
              clear c66
              have H' := aK H
              clear H
              go_wp2
              go_meet
              case rel => exact ⟨_, ((a0_0 == 9)), qDoor7_9, H', ⟨qDoor7_10⟩, ⟨qDoor7_4⟩, ⟨qDoor7_5⟩, ⟨qDoor7_0⟩⟩
             ·rw [if_neg c66] at H
              have c66b0 : (a0_0 == 9) = false := beq_eq_false_iff_ne.mpr c66
              have c66b1 : (a0_0 != 9) = true := bne_iff_ne.mpr c66
              by_cases c67 : a0_0 = 10
              ·rw [if_pos c67] at H
               have c67b0 : (a0_0 == 10) = true := beq_iff_eq.mpr c67
               have c67b1 : (a0_0 != 10) = false := bne_eq_false_iff_eq.mpr c67
               clear c67
               have H' := aK H
               clear H
               go_wp2
               go_meet
               case rel => exact ⟨_, ((a0_0 == 10)), qDoor7_9, H', ⟨qDoor7_10⟩, ⟨qDoor7_4⟩, ⟨qDoor7_5⟩, ⟨qDoor7_0⟩⟩
              ·rw [if_neg c67] at H
               have c67b0 : (a0_0 == 10) = false := beq_eq_false_iff_ne.mpr c67
               have c67b1 : (a0_0 != 10) = true := bne_iff_ne.mpr c67
               by_cases c68 : a0_0 = 12
               ·rw [if_pos c68] at H
                have c68b0 : (a0_0 == 12) = true := beq_iff_eq.mpr c68
                have c68b1 : (a0_0 != 12) = false := bne_eq_false_iff_eq.mpr c68
                clear c68
                have H' := aK H
                clear H
                go_wp2
                go_meet
                case rel => exact ⟨_, ((a0_0 == 12)), qDoor7_9, H', ⟨qDoor7_10⟩, ⟨qDoor7_4⟩, ⟨qDoor7_5⟩, ⟨qDoor7_0⟩⟩
               ·rw [if_neg c68] at H
                have c68b0 : (a0_0 == 12) = false := beq_eq_false_iff_ne.mpr c68
                have c68b1 : (a0_0 != 12) = true := bne_iff_ne.mpr c68
                have H' := aK H
                clear H
                go_wp2
                go_meet
                case rel => exact ⟨_, ((a0_0 == 13)), qDoor7_9, H', ⟨qDoor7_10⟩, ⟨qDoor7_4⟩, ⟨qDoor7_5⟩, ⟨qDoor7_0⟩⟩
           case rest =>
            clear HC64; (try clear p2); (try clear c4); (try clear c5); (try clear c6); (try clear c43); (try clear c43b0); (try clear c43b1); (try clear c44); (try clear c44b0); (try clear c44b1); (try clear c44b2); (try clear c46); (try clear c47); (try clear c50); (try clear c53); (try clear c56); (try clear c56b0); (try clear c56b1); (try clear c57); (try clear c58); (try clear c58b0); (try clear c59); (try clear c62); (try clear c65); (try clear c65b0); (try clear c65b1); (try clear c66); (try clear c66b0); (try clear c66b1); (try clear c67); (try clear c67b0); (try clear c67b1); (try clear c68); (try clear c68b0); (try clear c68b1); (try clear hcz13_0); (try clear hcz13_1); (try clear hcz13_2); (try clear hcz13_3); (try clear hcz13_4); (try clear hcz13_5); (try clear hcz13_6); (try clear hcz13_7); (try clear hcz13_8); (try clear hcz13_9); (try clear hcz17_0); (try clear hcz17_1); (try clear hcz17_2); (try clear hcz17_3); (try clear hcz17_4); (try clear hcz17_5); (try clear hcz17_6); (try clear hcz17_7); (try clear hcz17_8); (try clear hcz17_9); (try clear hcz19_0); (try clear hcz19_1); (try clear hcz19_2); (try clear hcz19_3); (try clear hcz19_4); (try clear hcz19_5); (try clear hcz19_6); (try clear hcz19_7); (try clear hcz19_8); (try clear hcz19_9); (try clear hcz23_0); (try clear hcz23_1); (try clear hcz23_2); (try clear hcz23_3); (try clear hcz23_4); (try clear hcz23_5); (try clear hcz23_6); (try clear hcz23_7); (try clear hcz23_8); (try clear hcz23_9); (try clear hcz25_0); (try clear hcz25_1); (try clear hcz25_2); (try clear hcz25_3); (try clear hcz25_4); (try clear hcz25_5); (try clear hcz25_6); (try clear hcz25_7); (try clear hcz25_8); (try clear hcz25_9); (try clear hcz32_0); (try clear hcz32_1); (try clear hcz32_2); (try clear hcz32_3); (try clear hcz32_4); (try clear hcz32_5); (try clear hcz32_6); (try clear hcz32_7); (try clear hcz32_8); (try clear hcz32_9); (try clear hcz33_0); (try clear hcz33_1); (try clear hcz33_2); (try clear hcz33_3); (try clear hcz33_4); (try clear hcz33_5); (try clear hcz33_6); (try clear hcz33_7); (try clear hcz33_8); (try clear hcz33_9); (try clear hcz35_0); (try clear hcz35_1); (try clear hcz35_2); (try clear hcz35_3); (try clear hcz35_4); (try clear hcz35_5); (try clear hcz35_6); (try clear hcz35_7); (try clear hcz35_8); (try clear hcz35_9); (try clear hcz36_0); (try clear hcz36_1); (try clear hcz36_2); (try clear hcz36_3); (try clear hcz36_4); (try clear hcz36_5); (try clear hcz36_6); (try clear hcz36_7); (try clear hcz36_8); (try clear hcz36_9); (try clear hcz38_0); (try clear hcz38_1); (try clear hcz38_2); (try clear hcz38_3); (try clear hcz38_4); (try clear hcz38_5); (try clear hcz38_6); (try clear hcz38_7); (try clear hcz38_8); (try clear hcz38_9); (try clear hcz39_0); (try clear hcz39_1); (try clear hcz39_2); (try clear hcz39_3); (try clear hcz39_4); (try clear hcz39_5); (try clear hcz39_6); (try clear hcz39_7); (try clear hcz39_8); (try clear hcz39_9); (try clear hcz41_0); (try clear hcz41_1); (try clear hcz41_2); (try clear hcz41_3); (try clear hcz41_4); (try clear hcz41_5); (try clear hcz41_6); (try clear hcz41_7); (try clear hcz41_8); (try clear hcz41_9); (try clear hcz42_0); (try clear hcz42_1); (try clear hcz42_2); (try clear hcz42_3); (try clear hcz42_4); (try clear hcz42_5); (try clear hcz42_6); (try clear hcz42_7); (try clear hcz42_8); (try clear hcz42_9); (try clear hcz48_0); (try clear hcz48_1); (try clear hcz48_2); (try clear hcz48_3); (try clear hcz48_4); (try clear hcz48_5); (try clear hcz48_6); (try clear hcz48_7); (try clear hcz48_8); (try clear hcz48_9); (try clear hcz49_0); (try clear hcz49_1); (try clear hcz49_2); (try clear hcz49_3); (try clear hcz49_4); (try clear hcz49_5); (try clear hcz49_6); (try clear hcz49_7); (try clear hcz49_8); (try clear hcz49_9); (try clear hcz4_0); (try clear hcz4_1); (try clear hcz4_2); (try clear hcz4_3); (try clear hcz4_4); (try clear hcz4_5); (try clear hcz4_6); (try clear hcz4_7); (try clear hcz4_8); (try clear hcz4_9); (try clear hcz51_0); (try clear hcz51_1); (try clear hcz51_2); (try clear hcz51_3); (try clear hcz51_4); (try clear hcz51_5); (try clear hcz51_6); (try clear hcz51_7); (try clear hcz51_8); (try clear hcz51_9); (try clear hcz52_0); (try clear hcz52_1); (try clear hcz52_2); (try clear hcz52_3); (try clear hcz52_4); (try clear hcz52_5); (try clear hcz52_6); (try clear hcz52_7); (try clear hcz52_8); (try clear hcz52_9); (try clear hcz54_0); (try clear hcz54_1); (try clear hcz54_2); (try clear hcz54_3); (try clear hcz54_4); (try clear hcz54_5); (try clear hcz54_6); (try clear hcz54_7); (try clear hcz54_8); (try clear hcz54_9); (try clear hcz60_0); (try clear hcz60_1); (try clear hcz60_2); (try clear hcz60_3); (try clear hcz60_4); (try clear hcz60_5); (try clear hcz60_6); (try clear hcz60_7); (try clear hcz60_8); (try clear hcz60_9); (try clear hcz61_0); (try clear hcz61_1); (try clear hcz61_2); (try clear hcz61_3); (try clear hcz61_4); (try clear hcz61_5); (try clear hcz61_6); (try clear hcz61_7); (try clear hcz61_8); (try clear hcz61_9); (try clear hcz63_0); (try clear hcz63_1); (try clear hcz63_2); (try clear hcz63_3); (try clear hcz63_4); (try clear hcz63_5); (try clear hcz63_6); (try clear hcz63_7); (try clear hcz63_8); (try clear hcz63_9); (try clear hcz7_0); (try clear hcz7_1); (try clear hcz7_2); (try clear hcz7_3); (try clear hcz7_4); (try clear hcz7_5); (try clear hcz7_6); (try clear hcz7_7); (try clear hcz7_8); (try clear hcz7_9); (try clear hcz8_0); (try clear hcz8_1); (try clear hcz8_2); (try clear hcz8_3); (try clear hcz8_4); (try clear hcz8_5); (try clear hcz8_6); (try clear hcz8_7); (try clear hcz8_8); (try clear hcz8_9); (try clear hfz13_0); (try clear hfz13_1); (try clear hfz13_2); (try clear hfz13_3); (try clear hfz13_4); (try clear hfz13_5); (try clear hfz13_6); (try clear hfz13_7); (try clear hfz13_8); (try clear hfz13_9); (try clear hfz17_0); (try clear hfz17_1); (try clear hfz17_2); (try clear hfz17_3); (try clear hfz17_4); (try clear hfz17_5); (try clear hfz17_6); (try clear hfz17_7); (try clear hfz17_8); (try clear hfz17_9); (try clear hfz19_0); (try clear hfz19_1); (try clear hfz19_2); (try clear hfz19_3); (try clear hfz19_4); (try clear hfz19_5); (try clear hfz19_6); (try clear hfz19_7); (try clear hfz19_8); (try clear hfz19_9); (try clear hfz23_0); (try clear hfz23_1); (try clear hfz23_2); (try clear hfz23_3); (try clear hfz23_4); (try clear hfz23_5); (try clear hfz23_6); (try clear hfz23_7); (try clear hfz23_8); (try clear hfz23_9); (try clear hfz25_0); (try clear hfz25_1); (try clear hfz25_2); (try clear hfz25_3); (try clear hfz25_4); (try clear hfz25_5); (try clear hfz25_6); (try clear hfz25_7); (try clear hfz25_8); (try clear hfz25_9); (try clear hfz32_0); (try clear hfz32_1); (try clear hfz32_2); (try clear hfz32_3); (try clear hfz32_4); (try clear hfz32_5); (try clear hfz32_6); (try clear hfz32_7); (try clear hfz32_8); (try clear hfz32_9); (try clear hfz33_0); (try clear hfz33_1); (try clear hfz33_2); (try clear hfz33_3); (try clear hfz33_4); (try clear hfz33_5); (try clear hfz33_6); (try clear hfz33_7); (try clear hfz33_8); (try clear hfz33_9); (try clear hfz35_0); (try clear hfz35_1); (try clear hfz35_2); (try clear hfz35_3); (try clear hfz35_4); (try clear hfz35_5); (try clear hfz35_6); (try clear hfz35_7); (try clear hfz35_8); (try clear hfz35_9); (try clear hfz36_0); (try clear hfz36_1); (try clear hfz36_2); (try clear hfz36_3); (try clear hfz36_4); (try clear hfz36_5); (try clear hfz36_6); (try clear hfz36_7); (try clear hfz36_8); (try clear hfz36_9); (try clear hfz38_0); (try clear hfz38_1); (try clear hfz38_2); (try clear hfz38_3); (try clear hfz38_4); (try clear hfz38_5); (try clear hfz38_6); (try clear hfz38_7); (try clear hfz38_8); (try clear hfz38_9); (try clear hfz39_0); (try clear hfz39_1); (try clear hfz39_2); (try clear hfz39_3); (try clear hfz39_4); (try clear hfz39_5); (try clear hfz39_6); (try clear hfz39_7); (try clear hfz39_8); (try clear hfz39_9); (try clear hfz41_0); (try clear hfz41_1); (try clear hfz41_2); (try clear hfz41_3); (try clear hfz41_4); (try clear hfz41_5); (try clear hfz41_6); (try clear hfz41_7); (try clear hfz41_8); (try clear hfz41_9); (try clear hfz42_0); (try clear hfz42_1); (try clear hfz42_2); (try clear hfz42_3); (try clear hfz42_4); (try clear hfz42_5); (try clear hfz42_6); (try clear hfz42_7); (try clear hfz42_8); (try clear hfz42_9); (try clear hfz48_0); (try clear hfz48_1); (try clear hfz48_2); (try clear hfz48_3); (try clear hfz48_4); (try clear hfz48_5); (try clear hfz48_6); (try clear hfz48_7); (try clear hfz48_8); (try clear hfz48_9); (try clear hfz49_0); (try clear hfz49_1); (try clear hfz49_2); (try clear hfz49_3); (try clear hfz49_4); (try clear hfz49_5); (try clear hfz49_6); (try clear hfz49_7); (try clear hfz49_8); (try clear hfz49_9); (try clear hfz4_0); (try clear hfz4_1); (try clear hfz4_2); (try clear hfz4_3); (try clear hfz4_4); (try clear hfz4_5); (try clear hfz4_6); (try clear hfz4_7); (try clear hfz4_8); (try clear hfz4_9); (try clear hfz51_0); (try clear hfz51_1); (try clear hfz51_2); (try clear hfz51_3); (try clear hfz51_4); (try clear hfz51_5); (try clear hfz51_6); (try clear hfz51_7); (try clear hfz51_8); (try clear hfz51_9); (try clear hfz52_0); (try clear hfz52_1); (try clear hfz52_2); (try clear hfz52_3); (try clear hfz52_4); (try clear hfz52_5); (try clear hfz52_6); (try clear hfz52_7); (try clear hfz52_8); (try clear hfz52_9); (try clear hfz54_0); (try clear hfz54_1); (try clear hfz54_2); (try clear hfz54_3); (try clear hfz54_4); (try clear hfz54_5); (try clear hfz54_6); (try clear hfz54_7); (try clear hfz54_8); (try clear hfz54_9); (try clear hfz60_0); (try clear hfz60_1); (try clear hfz60_2); (try clear hfz60_3); (try clear hfz60_4); (try clear hfz60_5); (try clear hfz60_6); (try clear hfz60_7); (try clear hfz60_8); (try clear hfz60_9); (try clear hfz61_0); (try clear hfz61_1); (try clear hfz61_2); (try clear hfz61_3); (try clear hfz61_4); (try clear hfz61_5); (try clear hfz61_6); (try clear hfz61_7); (try clear hfz61_8); (try clear hfz61_9); (try clear hfz63_0); (try clear hfz63_1); (try clear hfz63_2); (try clear hfz63_3); (try clear hfz63_4); (try clear hfz63_5); (try clear hfz63_6); (try clear hfz63_7); (try clear hfz63_8); (try clear hfz63_9); (try clear hfz7_0); (try clear hfz7_1); (try clear hfz7_2); (try clear hfz7_3); (try clear hfz7_4); (try clear hfz7_5); (try clear hfz7_6); (try clear hfz7_7); (try clear hfz7_8); (try clear hfz7_9); (try clear hfz8_0); (try clear hfz8_1); (try clear hfz8_2); (try clear hfz8_3); (try clear hfz8_4); (try clear hfz8_5); (try clear hfz8_6); (try clear hfz8_7); (try clear hfz8_8); (try clear hfz8_9); (try clear p2)
            obtain ⟨kq, x55_63, rfl, HA, HJ63, BK122, BK123, HB⟩ := hcut
            cases kq with
            | zero => exact absurd HA.out (by simp [script_may.j2])
            | succ kj63 =>
             have H := HA.out
             clear HA
             simp only [script_may.j2] at H
             by_cases c69 : x55_63 = true
             ·subst c69
              have H1 : (if a0_1 = 1 then (some (0 == 0 && (0 == 0 && (a0_2.toList == ([] : List UInt8) && (!a0_3 && ((a0_4 == 0 && (a0_5 == 0 && (a0_6 == 0 && (a0_7 == 0)))) && (a0_8 == 0 && (a0_9 == 0)))))))) else (some false)) = some r := by rw [if_pos rfl] at H; exact H
              clear H
              have H := H1
              clear H1
              by_cases c70 : a0_1 = 1
              ·rw [if_pos c70] at H
               have c70b0 : (a0_1 == 1) = true := beq_iff_eq.mpr c70
               have c70b1 : (a0_1 != 1) = false := bne_eq_false_iff_eq.mpr c70
               clear c70
               obtain rfl := Option.some.inj H
               have hnb71 := NB122_123.out
               have hnc71 := NB123_122.out
               obtain ⟨hcz72_0, hcz72_1, hcz72_2, hcz72_3, hcz72_4, hcz72_5, hcz72_6, hcz72_7, hcz72_8, hcz72_9⟩ := ck10 BK122.out
               obtain ⟨hfz72_0, hfz72_1, hfz72_2, hfz72_3, hfz72_4, hfz72_5, hfz72_6, hfz72_7, hfz72_8, hfz72_9⟩ := fk10 BK122.out
               obtain ⟨hcz73_0, hcz73_1, hcz73_2, hcz73_3, hcz73_4, hcz73_5, hcz73_6, hcz73_7, hcz73_8, hcz73_9⟩ := ck10 BK123.out
               obtain ⟨hfz73_0, hfz73_1, hfz73_2, hfz73_3, hfz73_4, hfz73_5, hfz73_6, hfz73_7, hfz73_8, hfz73_9⟩ := fk10 BK123.out
               go_wp2
               go_ret
               exact ⟨qDoor7_3, qDoor7_0⟩
              ·rw [if_neg c70] at H
               have c70b0 : (a0_1 == 1) = false := beq_eq_false_iff_ne.mpr c70
               have c70b1 : (a0_1 != 1) = true := bne_iff_ne.mpr c70
               obtain rfl := Option.some.inj H
               have hnb74 := NB122_123.out
               have hnc74 := NB123_122.out
               obtain ⟨hcz75_0, hcz75_1, hcz75_2, hcz75_3, hcz75_4, hcz75_5, hcz75_6, hcz75_7, hcz75_8, hcz75_9⟩ := ck10 BK122.out
               obtain ⟨hfz75_0, hfz75_1, hfz75_2, hfz75_3, hfz75_4, hfz75_5, hfz75_6, hfz75_7, hfz75_8, hfz75_9⟩ := fk10 BK122.out
               go_wp2
               go_ret
               exact ⟨qDoor7_3, qDoor7_0⟩
             ·replace c69 := Bool.eq_false_iff.mpr c69
              subst c69
              have H1 : (if a0_0 = 11 then (if a0_1 = 1 then (if a0_8 ≥ 0 then (if a0_8 ≤ 255 then (if a0_9 = (-1) then (some (0 == 0 && (0 == 0 && (a0_2.toList == ([] : List UInt8) && (!a0_3 && ((a0_4 == 0 && (a0_5 == 0 && (a0_6 == 0 && (a0_7 == 0)))))))))) else (if a0_9 ≥ a0_8 then (if a0_9 ≤ 255 then (some (0 == 0 && (0 == 0 && (a0_2.toList == ([] : List UInt8) && (!a0_3 && ((a0_4 == 0 && (a0_5 == 0 && (a0_6 == 0 && (a0_7 == 0)))))))))) else (some false)) else (some false))) else (some false)) else (some false)) else (some false)) else (if a0_0 = 14 then (if a0_1 = 1 then ((script_own.f kj63 a0_2).bind fun t126 => (if t126 = true then (some (0 == 0 && (0 == 0 && (!a0_3 && ((a0_4 == 0 && (a0_5 == 0 && (a0_6 == 0 && (a0_7 == 0)))) && (a0_8 == 0 && (a0_9 == 0))))))) else (some false))) else (some false)) else (some false))) = some r := by rw [if_neg (show ¬ (false = true) by decide)] at H; exact H
              clear H
              have H := H1
              clear H1
              by_cases c76 : a0_0 = 11
              ·rw [if_pos c76] at H
               have c76b0 : (a0_0 == 11) = true := beq_iff_eq.mpr c76
               have c76b1 : (a0_0 != 11) = false := bne_eq_false_iff_eq.mpr c76
               clear c76
               by_cases c77 : a0_1 = 1
               ·rw [if_pos c77] at H
                have c77b0 : (a0_1 == 1) = true := beq_iff_eq.mpr c77
                have c77b1 : (a0_1 != 1) = false := bne_eq_false_iff_eq.mpr c77
                clear c77
                by_cases c78 : a0_8 ≥ 0
                ·rw [if_pos c78] at H
                 have c78b0 : decide (0 ≤ a0_8) = true := decide_eq_true c78
                 clear c78
                 by_cases c79 : a0_8 ≤ 255
                 ·rw [if_pos c79] at H
                  have c79b0 : decide (a0_8 ≤ 255) = true := decide_eq_true c79
                  clear c79
                  by_cases c80 : a0_9 = (-1)
                  ·rw [if_pos c80] at H
                   have c80b0 : (a0_9 == (-1)) = true := beq_iff_eq.mpr c80
                   have c80b1 : (a0_9 != (-1)) = false := bne_eq_false_iff_eq.mpr c80
                   clear c80
                   obtain rfl := Option.some.inj H
                   have hnb81 := NB122_123.out
                   have hnc81 := NB123_122.out
                   obtain ⟨hcz82_0, hcz82_1, hcz82_2, hcz82_3, hcz82_4, hcz82_5, hcz82_6, hcz82_7, hcz82_8, hcz82_9⟩ := ck10 BK122.out
                   obtain ⟨hfz82_0, hfz82_1, hfz82_2, hfz82_3, hfz82_4, hfz82_5, hfz82_6, hfz82_7, hfz82_8, hfz82_9⟩ := fk10 BK122.out
                   obtain ⟨hcz83_0, hcz83_1, hcz83_2, hcz83_3, hcz83_4, hcz83_5, hcz83_6, hcz83_7, hcz83_8, hcz83_9⟩ := ck10 BK123.out
                   obtain ⟨hfz83_0, hfz83_1, hfz83_2, hfz83_3, hfz83_4, hfz83_5, hfz83_6, hfz83_7, hfz83_8, hfz83_9⟩ := fk10 BK123.out
                   go_wp2
                   go_ret
                   exact ⟨qDoor7_3, qDoor7_0⟩
                  ·rw [if_neg c80] at H
                   have c80b0 : (a0_9 == (-1)) = false := beq_eq_false_iff_ne.mpr c80
                   have c80b1 : (a0_9 != (-1)) = true := bne_iff_ne.mpr c80
                   by_cases c84 : a0_9 ≥ a0_8
                   ·rw [if_pos c84] at H
                    have c84b0 : decide (a0_8 ≤ a0_9) = true := decide_eq_true c84
                    clear c84
                    by_cases c85 : a0_9 ≤ 255
                    ·rw [if_pos c85] at H
                     have c85b0 : decide (a0_9 ≤ 255) = true := decide_eq_true c85
                     clear c85
                     obtain rfl := Option.some.inj H
                     have hnb86 := NB122_123.out
                     have hnc86 := NB123_122.out
                     obtain ⟨hcz87_0, hcz87_1, hcz87_2, hcz87_3, hcz87_4, hcz87_5, hcz87_6, hcz87_7, hcz87_8, hcz87_9⟩ := ck10 BK122.out
                     obtain ⟨hfz87_0, hfz87_1, hfz87_2, hfz87_3, hfz87_4, hfz87_5, hfz87_6, hfz87_7, hfz87_8, hfz87_9⟩ := fk10 BK122.out
                     obtain ⟨hcz88_0, hcz88_1, hcz88_2, hcz88_3, hcz88_4, hcz88_5, hcz88_6, hcz88_7, hcz88_8, hcz88_9⟩ := ck10 BK123.out
                     obtain ⟨hfz88_0, hfz88_1, hfz88_2, hfz88_3, hfz88_4, hfz88_5, hfz88_6, hfz88_7, hfz88_8, hfz88_9⟩ := fk10 BK123.out
                     go_wp2
                     go_ret
                     exact ⟨qDoor7_3, qDoor7_0⟩
                    ·rw [if_neg c85] at H
                     have c85b0 : decide (a0_9 ≤ 255) = false := decide_eq_false c85
                     clear c85
                     obtain rfl := Option.some.inj H
                     have hnb89 := NB122_123.out
                     have hnc89 := NB123_122.out
                     obtain ⟨hcz90_0, hcz90_1, hcz90_2, hcz90_3, hcz90_4, hcz90_5, hcz90_6, hcz90_7, hcz90_8, hcz90_9⟩ := ck10 BK122.out
                     obtain ⟨hfz90_0, hfz90_1, hfz90_2, hfz90_3, hfz90_4, hfz90_5, hfz90_6, hfz90_7, hfz90_8, hfz90_9⟩ := fk10 BK122.out
                     obtain ⟨hcz91_0, hcz91_1, hcz91_2, hcz91_3, hcz91_4, hcz91_5, hcz91_6, hcz91_7, hcz91_8, hcz91_9⟩ := ck10 BK123.out
                     obtain ⟨hfz91_0, hfz91_1, hfz91_2, hfz91_3, hfz91_4, hfz91_5, hfz91_6, hfz91_7, hfz91_8, hfz91_9⟩ := fk10 BK123.out
                     go_wp2
                     go_ret
                     exact ⟨qDoor7_3, qDoor7_0⟩
                   ·rw [if_neg c84] at H
                    have c84b0 : decide (a0_8 ≤ a0_9) = false := decide_eq_false c84
                    clear c84
                    obtain rfl := Option.some.inj H
                    have hnb92 := NB122_123.out
                    have hnc92 := NB123_122.out
                    obtain ⟨hcz93_0, hcz93_1, hcz93_2, hcz93_3, hcz93_4, hcz93_5, hcz93_6, hcz93_7, hcz93_8, hcz93_9⟩ := ck10 BK122.out
                    obtain ⟨hfz93_0, hfz93_1, hfz93_2, hfz93_3, hfz93_4, hfz93_5, hfz93_6, hfz93_7, hfz93_8, hfz93_9⟩ := fk10 BK122.out
                    obtain ⟨hcz94_0, hcz94_1, hcz94_2, hcz94_3, hcz94_4, hcz94_5, hcz94_6, hcz94_7, hcz94_8, hcz94_9⟩ := ck10 BK123.out
                    obtain ⟨hfz94_0, hfz94_1, hfz94_2, hfz94_3, hfz94_4, hfz94_5, hfz94_6, hfz94_7, hfz94_8, hfz94_9⟩ := fk10 BK123.out
                    go_wp2
                    go_ret
                    exact ⟨qDoor7_3, qDoor7_0⟩
                 ·rw [if_neg c79] at H
                  have c79b0 : decide (a0_8 ≤ 255) = false := decide_eq_false c79
                  clear c79
                  obtain rfl := Option.some.inj H
                  have hnb95 := NB122_123.out
                  have hnc95 := NB123_122.out
                  obtain ⟨hcz96_0, hcz96_1, hcz96_2, hcz96_3, hcz96_4, hcz96_5, hcz96_6, hcz96_7, hcz96_8, hcz96_9⟩ := ck10 BK122.out
                  obtain ⟨hfz96_0, hfz96_1, hfz96_2, hfz96_3, hfz96_4, hfz96_5, hfz96_6, hfz96_7, hfz96_8, hfz96_9⟩ := fk10 BK122.out
                  obtain ⟨hcz97_0, hcz97_1, hcz97_2, hcz97_3, hcz97_4, hcz97_5, hcz97_6, hcz97_7, hcz97_8, hcz97_9⟩ := ck10 BK123.out
                  obtain ⟨hfz97_0, hfz97_1, hfz97_2, hfz97_3, hfz97_4, hfz97_5, hfz97_6, hfz97_7, hfz97_8, hfz97_9⟩ := fk10 BK123.out
                  go_wp2
                  go_ret
                  exact ⟨qDoor7_3, qDoor7_0⟩
                ·rw [if_neg c78] at H
                 have c78b0 : decide (0 ≤ a0_8) = false := decide_eq_false c78
                 clear c78
                 obtain rfl := Option.some.inj H
                 have hnb98 := NB122_123.out
                 have hnc98 := NB123_122.out
                 obtain ⟨hcz99_0, hcz99_1, hcz99_2, hcz99_3, hcz99_4, hcz99_5, hcz99_6, hcz99_7, hcz99_8, hcz99_9⟩ := ck10 BK122.out
                 obtain ⟨hfz99_0, hfz99_1, hfz99_2, hfz99_3, hfz99_4, hfz99_5, hfz99_6, hfz99_7, hfz99_8, hfz99_9⟩ := fk10 BK122.out
                 obtain ⟨hcz100_0, hcz100_1, hcz100_2, hcz100_3, hcz100_4, hcz100_5, hcz100_6, hcz100_7, hcz100_8, hcz100_9⟩ := ck10 BK123.out
                 obtain ⟨hfz100_0, hfz100_1, hfz100_2, hfz100_3, hfz100_4, hfz100_5, hfz100_6, hfz100_7, hfz100_8, hfz100_9⟩ := fk10 BK123.out
                 go_wp2
                 go_ret
                 exact ⟨qDoor7_3, qDoor7_0⟩
               ·rw [if_neg c77] at H
                have c77b0 : (a0_1 == 1) = false := beq_eq_false_iff_ne.mpr c77
                have c77b1 : (a0_1 != 1) = true := bne_iff_ne.mpr c77
                obtain rfl := Option.some.inj H
                have hnb101 := NB122_123.out
                have hnc101 := NB123_122.out
                obtain ⟨hcz102_0, hcz102_1, hcz102_2, hcz102_3, hcz102_4, hcz102_5, hcz102_6, hcz102_7, hcz102_8, hcz102_9⟩ := ck10 BK122.out
                obtain ⟨hfz102_0, hfz102_1, hfz102_2, hfz102_3, hfz102_4, hfz102_5, hfz102_6, hfz102_7, hfz102_8, hfz102_9⟩ := fk10 BK122.out
                obtain ⟨hcz103_0, hcz103_1, hcz103_2, hcz103_3, hcz103_4, hcz103_5, hcz103_6, hcz103_7, hcz103_8, hcz103_9⟩ := ck10 BK123.out
                obtain ⟨hfz103_0, hfz103_1, hfz103_2, hfz103_3, hfz103_4, hfz103_5, hfz103_6, hfz103_7, hfz103_8, hfz103_9⟩ := fk10 BK123.out
                go_wp2
                go_ret
                exact ⟨qDoor7_3, qDoor7_0⟩
              ·rw [if_neg c76] at H
               have c76b0 : (a0_0 == 11) = false := beq_eq_false_iff_ne.mpr c76
               have c76b1 : (a0_0 != 11) = true := bne_iff_ne.mpr c76
               by_cases c104 : a0_0 = 14
               ·rw [if_pos c104] at H
                have c104b0 : (a0_0 == 14) = true := beq_iff_eq.mpr c104
                have c104b1 : (a0_0 != 14) = false := bne_eq_false_iff_eq.mpr c104
                clear c104
                by_cases c105 : a0_1 = 1
                ·rw [if_pos c105] at H
                 have c105b0 : (a0_1 == 1) = true := beq_iff_eq.mpr c105
                 have c105b1 : (a0_1 != 1) = false := bne_eq_false_iff_eq.mpr c105
                 clear c105
                 replace H := Option.bind_eq_some_iff.mp H
                 obtain ⟨t126, A1060, H⟩ := H
                 replace H : (if t126 = true then (some (0 == 0 && (0 == 0 && (!a0_3 && ((a0_4 == 0 && (a0_5 == 0 && (a0_6 == 0 && (a0_7 == 0)))) && (a0_8 == 0 && (a0_9 == 0))))))) else (some false)) = some r := H
                 have A106 := aK A1060; clear A1060
                 by_cases c107 : t126 = true
                 ·subst c107
                  have H1 : (some (0 == 0 && (0 == 0 && (!a0_3 && ((a0_4 == 0 && (a0_5 == 0 && (a0_6 == 0 && (a0_7 == 0)))) && (a0_8 == 0 && (a0_9 == 0))))))) = some r := by rw [if_pos rfl] at H; exact H
                  clear H
                  have H := H1
                  clear H1
                  obtain rfl := Option.some.inj H
                  have hnb108 := NB122_123.out
                  have hnc108 := NB123_122.out
                  obtain ⟨hcz109_0, hcz109_1, hcz109_2, hcz109_3, hcz109_4, hcz109_5, hcz109_6, hcz109_7, hcz109_8, hcz109_9⟩ := ck10 BK122.out
                  obtain ⟨hfz109_0, hfz109_1, hfz109_2, hfz109_3, hfz109_4, hfz109_5, hfz109_6, hfz109_7, hfz109_8, hfz109_9⟩ := fk10 BK122.out
                  go_wp2_with (first | (go_at_call 26; (with_reducible refine (script_own.calls kj63 a0_2 true _ A106.out).mono ?_); rintro e w' ⟨rfl, ⟨nd, rfl⟩⟩; (try (rw [drewN_self wc]; generalize hq_ : World.drewN wc _ = wc; have n0_ : Aside0 (wc.heap[gb122]? = some (.cells #[.int .i64 a0_0, .int .i64 a0_1, .string a0_2, .bool a0_3, .int .u64 a0_4, .int .u64 a0_5, .int .u64 a0_6, .int .u64 a0_7, .int .i64 a0_8, .int .i64 a0_9] 51 (0, 0))) := ⟨qDoor7_7⟩; have n1_ : Aside0 (wc.heap[gb123]? = some (.cells #[.int .i64 0, .int .i64 0, .string a0_2, .bool a0_3, .int .u64 a0_4, .int .u64 a0_5, .int .u64 a0_6, .int .u64 a0_7, .int .i64 a0_8, .int .i64 a0_9] 51 (0, 0))) := ⟨qDoor7_8⟩; have n2_ : Aside0 (Below w.heap.size w wc) := ⟨qDoor7_6⟩; clear BK122 BK123 HB hq_; have BK122 := n0_; have BK123 := n1_; have HB := n2_; clear n0_ n1_ n2_)); obtain ⟨hcz110_0, hcz110_1, hcz110_2, hcz110_3, hcz110_4, hcz110_5, hcz110_6, hcz110_7, hcz110_8, hcz110_9⟩ := ck10 BK123.out; obtain ⟨hfz110_0, hfz110_1, hfz110_2, hfz110_3, hfz110_4, hfz110_5, hfz110_6, hfz110_7, hfz110_8, hfz110_9⟩ := fk10 BK123.out))
                  go_ret
                  exact ⟨qDoor7_3, qDoor7_0⟩
                 ·replace c107 := Bool.eq_false_iff.mpr c107
                  subst c107
                  have H1 : (some false) = some r := by rw [if_neg (show ¬ (false = true) by decide)] at H; exact H
                  clear H
                  have H := H1
                  clear H1
                  obtain rfl := Option.some.inj H
                  have hnb111 := NB122_123.out
                  have hnc111 := NB123_122.out
                  obtain ⟨hcz112_0, hcz112_1, hcz112_2, hcz112_3, hcz112_4, hcz112_5, hcz112_6, hcz112_7, hcz112_8, hcz112_9⟩ := ck10 BK122.out
                  obtain ⟨hfz112_0, hfz112_1, hfz112_2, hfz112_3, hfz112_4, hfz112_5, hfz112_6, hfz112_7, hfz112_8, hfz112_9⟩ := fk10 BK122.out
                  go_wp2_with (first | (go_at_call 26; (with_reducible refine (script_own.calls kj63 a0_2 false _ A106.out).mono ?_); rintro e w' ⟨rfl, ⟨nd, rfl⟩⟩; (try (rw [drewN_self wc]; generalize hq_ : World.drewN wc _ = wc; have n0_ : Aside0 (wc.heap[gb122]? = some (.cells #[.int .i64 a0_0, .int .i64 a0_1, .string a0_2, .bool a0_3, .int .u64 a0_4, .int .u64 a0_5, .int .u64 a0_6, .int .u64 a0_7, .int .i64 a0_8, .int .i64 a0_9] 51 (0, 0))) := ⟨qDoor7_7⟩; have n1_ : Aside0 (wc.heap[gb123]? = some (.cells #[.int .i64 0, .int .i64 0, .string a0_2, .bool a0_3, .int .u64 a0_4, .int .u64 a0_5, .int .u64 a0_6, .int .u64 a0_7, .int .i64 a0_8, .int .i64 a0_9] 51 (0, 0))) := ⟨qDoor7_8⟩; have n2_ : Aside0 (Below w.heap.size w wc) := ⟨qDoor7_6⟩; clear BK122 BK123 HB hq_; have BK122 := n0_; have BK123 := n1_; have HB := n2_; clear n0_ n1_ n2_)); obtain ⟨hcz113_0, hcz113_1, hcz113_2, hcz113_3, hcz113_4, hcz113_5, hcz113_6, hcz113_7, hcz113_8, hcz113_9⟩ := ck10 BK123.out; obtain ⟨hfz113_0, hfz113_1, hfz113_2, hfz113_3, hfz113_4, hfz113_5, hfz113_6, hfz113_7, hfz113_8, hfz113_9⟩ := fk10 BK123.out))
                  go_ret
                  exact ⟨qDoor7_3, qDoor7_0⟩
                ·rw [if_neg c105] at H
                 have c105b0 : (a0_1 == 1) = false := beq_eq_false_iff_ne.mpr c105
                 have c105b1 : (a0_1 != 1) = true := bne_iff_ne.mpr c105
                 obtain rfl := Option.some.inj H
                 have hnb114 := NB122_123.out
                 have hnc114 := NB123_122.out
                 obtain ⟨hcz115_0, hcz115_1, hcz115_2, hcz115_3, hcz115_4, hcz115_5, hcz115_6, hcz115_7, hcz115_8, hcz115_9⟩ := ck10 BK122.out
                 obtain ⟨hfz115_0, hfz115_1, hfz115_2, hfz115_3, hfz115_4, hfz115_5, hfz115_6, hfz115_7, hfz115_8, hfz115_9⟩ := fk10 BK122.out
                 obtain ⟨hcz116_0, hcz116_1, hcz116_2, hcz116_3, hcz116_4, hcz116_5, hcz116_6, hcz116_7, hcz116_8, hcz116_9⟩ := ck10 BK123.out
                 obtain ⟨hfz116_0, hfz116_1, hfz116_2, hfz116_3, hfz116_4, hfz116_5, hfz116_6, hfz116_7, hfz116_8, hfz116_9⟩ := fk10 BK123.out
                 go_wp2
                 go_ret
                 exact ⟨qDoor7_3, qDoor7_0⟩
               ·rw [if_neg c104] at H
                have c104b0 : (a0_0 == 14) = false := beq_eq_false_iff_ne.mpr c104
                have c104b1 : (a0_0 != 14) = true := bne_iff_ne.mpr c104
                obtain rfl := Option.some.inj H
                go_wp2
                go_ret
                exact ⟨qDoor7_3, qDoor7_0⟩
end Go.Proofs.YtihiicjnjhideaaDoor.PAll
end
