/- Parts of the proof of coreOrder: PAllx10, BuildShaped. No condition beyond each lemma's own. -/
import Derived.Test.YtihiicjnjhideaaDoorTO5
import Derived.Test.YtihiicjnjhideaaDoorTO10
import Derived.Test.YtihiicjnjhideaaDoorTO11
import Derived.Test.YtihiicjnjhideaaDoorTO12
import Derived.Test.YtihiicjnjhideaaDoorTO13
section
namespace Go.Proofs.YtihiicjnjhideaaDoor.PAll
open Go.RowKit Go.Proofs.YtihiicjnjhideaaDoorW.PrintWords Go.Proofs.YtihiicjnjhideaaDoorW.PrintLast Go.Proofs.YtihiicjnjhideaaDoorW.PrintMore
attribute [local go_sem] max2_int max_two
set_option linter.unusedVariables false
set_option linter.unusedSimpArgs false
theorem qDoor10_7 {p : Prop} (h : p := by first | omega | exact Nat.le_refl _) : p := h
theorem qDoor10_6 {p : Prop} (h : p := by first | rfl | (simp [errW_none, errW_some] <;> rfl) | (simp [*, errW_none, errW_some] <;> rfl)) : p := h
theorem qDoor10_5 {p : Prop} (h : p := by first | rfl | (simp; done) | (simp [*]; done)) : p := h
theorem qDoor10_4 {p : Prop} (h : p := by (try simp only [List.map_toArray, List.map_cons, List.map_nil]); first | done | rfl | (simp only [List.length_drop, List.length_take]; rfl)) : p := h
theorem qDoor10_3 {p : Prop} (h : p := by repeat (first | (with_reducible first | exact HB.out | apply below_alloc | apply pw_below_drewN | apply below_drew1 | refine below_set ?_ GE139.out) | exact HB.out)) : p := h
theorem qDoor10_2 {p : Prop} (h : p := by first | (with_reducible assumption) | assumption) : p := h
theorem qDoor10_1 {p : Prop} (h : p := by repeat (first | (with_reducible first | exact HB.out | apply below_alloc | apply pw_below_drewN | apply below_drew1) | exact HB.out)) : p := h
theorem qDoor10_0 {p : Prop} (h : p := by (with_reducible repeat (first | refine blk_drewN ?_ _ | refine blk_drew ?_ | refine blk_alloc ?_ _)); refine blk_put (cs := #[.int .i64 ((rd_T51 l0 x7_1).f0), .int .i64 ((rd_T51 l0 x7_1).f1), .string ((rd_T51 l0 x7_1).f2), .bool ((rd_T51 l0 x7_1).f3), .int .u64 ((rd_T51 l0 x7_1).f4.f0), .int .u64 ((rd_T51 l0 x7_1).f4.f1), .int .u64 ((rd_T51 l0 x7_1).f4.f2), .int .u64 ((rd_T51 l0 x7_1).f4.f3), .int .i64 ((rd_T51 l0 x7_1).f5), .int .i64 0]) ?_ 9 _ rfl; (with_reducible repeat (first | refine blk_drewN ?_ _ | refine blk_drew ?_ | refine blk_alloc ?_ _)); refine blk_put (cs := #[.int .i64 ((rd_T51 l0 x7_1).f0), .int .i64 ((rd_T51 l0 x7_1).f1), .string ((rd_T51 l0 x7_1).f2), .bool ((rd_T51 l0 x7_1).f3), .int .u64 ((rd_T51 l0 x7_1).f4.f0), .int .u64 ((rd_T51 l0 x7_1).f4.f1), .int .u64 ((rd_T51 l0 x7_1).f4.f2), .int .u64 ((rd_T51 l0 x7_1).f4.f3), .int .i64 0, .int .i64 0]) ?_ 8 _ rfl; (with_reducible repeat (first | refine blk_drewN ?_ _ | refine blk_drew ?_ | refine blk_alloc ?_ _)); refine blk_put (cs := #[.int .i64 ((rd_T51 l0 x7_1).f0), .int .i64 ((rd_T51 l0 x7_1).f1), .string ((rd_T51 l0 x7_1).f2), .bool ((rd_T51 l0 x7_1).f3), .int .u64 ((rd_T51 l0 x7_1).f4.f0), .int .u64 ((rd_T51 l0 x7_1).f4.f1), .int .u64 ((rd_T51 l0 x7_1).f4.f2), .int .u64 0, .int .i64 0, .int .i64 0]) ?_ 7 _ rfl; (with_reducible repeat (first | refine blk_drewN ?_ _ | refine blk_drew ?_ | refine blk_alloc ?_ _)); refine blk_put (cs := #[.int .i64 ((rd_T51 l0 x7_1).f0), .int .i64 ((rd_T51 l0 x7_1).f1), .string ((rd_T51 l0 x7_1).f2), .bool ((rd_T51 l0 x7_1).f3), .int .u64 ((rd_T51 l0 x7_1).f4.f0), .int .u64 ((rd_T51 l0 x7_1).f4.f1), .int .u64 0, .int .u64 0, .int .i64 0, .int .i64 0]) ?_ 6 _ rfl; (with_reducible repeat (first | refine blk_drewN ?_ _ | refine blk_drew ?_ | refine blk_alloc ?_ _)); refine blk_put (cs := #[.int .i64 ((rd_T51 l0 x7_1).f0), .int .i64 ((rd_T51 l0 x7_1).f1), .string ((rd_T51 l0 x7_1).f2), .bool ((rd_T51 l0 x7_1).f3), .int .u64 ((rd_T51 l0 x7_1).f4.f0), .int .u64 0, .int .u64 0, .int .u64 0, .int .i64 0, .int .i64 0]) ?_ 5 _ rfl; (with_reducible repeat (first | refine blk_drewN ?_ _ | refine blk_drew ?_ | refine blk_alloc ?_ _)); refine blk_put (cs := #[.int .i64 ((rd_T51 l0 x7_1).f0), .int .i64 ((rd_T51 l0 x7_1).f1), .string ((rd_T51 l0 x7_1).f2), .bool ((rd_T51 l0 x7_1).f3), .int .u64 0, .int .u64 0, .int .u64 0, .int .u64 0, .int .i64 0, .int .i64 0]) ?_ 4 _ rfl; (with_reducible repeat (first | refine blk_drewN ?_ _ | refine blk_drew ?_ | refine blk_alloc ?_ _)); refine blk_put (cs := #[.int .i64 ((rd_T51 l0 x7_1).f0), .int .i64 ((rd_T51 l0 x7_1).f1), .string ((rd_T51 l0 x7_1).f2), .bool false, .int .u64 0, .int .u64 0, .int .u64 0, .int .u64 0, .int .i64 0, .int .i64 0]) ?_ 3 _ rfl; (with_reducible repeat (first | refine blk_drewN ?_ _ | refine blk_drew ?_ | refine blk_alloc ?_ _)); refine blk_put (cs := #[.int .i64 ((rd_T51 l0 x7_1).f0), .int .i64 ((rd_T51 l0 x7_1).f1), .string (⟨#[]⟩ : ByteArray), .bool false, .int .u64 0, .int .u64 0, .int .u64 0, .int .u64 0, .int .i64 0, .int .i64 0]) ?_ 2 _ rfl; (with_reducible repeat (first | refine blk_drewN ?_ _ | refine blk_drew ?_ | refine blk_alloc ?_ _)); refine blk_put (cs := #[.int .i64 ((rd_T51 l0 x7_1).f0), .int .i64 0, .string (⟨#[]⟩ : ByteArray), .bool false, .int .u64 0, .int .u64 0, .int .u64 0, .int .u64 0, .int .i64 0, .int .i64 0]) ?_ 1 _ rfl; (with_reducible repeat (first | refine blk_drewN ?_ _ | refine blk_drew ?_ | refine blk_alloc ?_ _)); refine blk_put (cs := #[.int .i64 0, .int .i64 0, .string (⟨#[]⟩ : ByteArray), .bool false, .int .u64 0, .int .u64 0, .int .u64 0, .int .u64 0, .int .i64 0, .int .i64 0]) ?_ 0 _ rfl; (with_reducible repeat (first | refine blk_drewN ?_ _ | refine blk_drew ?_ | refine blk_alloc ?_ _)); exact BK139.out) : p := h
def script_shaped.l0 : Nat → List (S51) → List (S51) → Int → Int → Option (Bool)
 | 0, _, _, _, _ => none
 | k + 1, x0, x5, x6, x7 => if x7 < x6 then (if 0 ≤ x7 then (if x7 < (x5.length : Int) then ((script_may.f k ((rd_T51 x5 x7).f0) ((rd_T51 x5 x7).f1) ((rd_T51 x5 x7).f2) ((rd_T51 x5 x7).f3) ((rd_T51 x5 x7).f4.f0) ((rd_T51 x5 x7).f4.f1) ((rd_T51 x5 x7).f4.f2) ((rd_T51 x5 x7).f4.f3) ((rd_T51 x5 x7).f5) ((rd_T51 x5 x7).f6)).bind fun t140 => (if t140 = true then (script_shaped.l0 k x0 x5 x6 (wrap64 (x7 + 1))) else (some false))) else (none)) else (none)) else ((script_begins.f k x0).bind fun t141 => ((script_tree.f x0 t141).bind fun t144 => (some t144)))
def script_shaped.f (k : Nat) (l0 : List (S51)) : Option (Bool) := script_shaped.l0 k l0 l0 (l0.length : Int) 0
theorem script_shaped.mono_l : ∀ k, (∀ y0 y1 y2 y3, LeO (script_shaped.l0 k y0 y1 y2 y3) (script_shaped.l0 (k + 1) y0 y1 y2 y3))
 | 0 => fun _ _ _ _ r h => by simp [script_shaped.l0] at h
 | k + 1 => by
  have ih0 := script_shaped.mono_l k
  ·intro y0 y1 y2 y3
   unfold script_shaped.l0
   repeat' first
   | (with_reducible exact ih0 _ _ _ _)
   | (with_reducible exact script_begins.mono _ _)
   | (with_reducible exact script_may.mono _ _ _ _ _ _ _ _ _ _ _)
   | (with_reducible exact LeO.refl _)
   | (with_reducible exact LeO.none _)
   | (with_reducible refine LeO.ite ?_ ?_)
   | (with_reducible refine LeO.bind ?_ (fun _ => ?_))
   | exact ih0 _ _ _ _
   | exact script_begins.mono _ _
   | exact script_may.mono _ _ _ _ _ _ _ _ _ _ _
   | exact LeO.none _
   | refine LeO.ite ?_ ?_
   | refine LeO.bind ?_ (fun _ => ?_)
theorem script_shaped.mono : ∀ a0 k, LeO (script_shaped.f k a0) (script_shaped.f (k + 1) a0) := by
 intro a0 k
 have ih0 := script_shaped.mono_l k
 unfold script_shaped.f
 repeat' first
   | (with_reducible exact ih0 _ _ _ _)
   | (with_reducible exact script_begins.mono _ _)
   | (with_reducible exact script_may.mono _ _ _ _ _ _ _ _ _ _ _)
   | (with_reducible exact LeO.refl _)
   | (with_reducible exact LeO.none _)
   | (with_reducible refine LeO.ite ?_ ?_)
   | (with_reducible refine LeO.bind ?_ (fun _ => ?_))
   | exact ih0 _ _ _ _
   | exact script_begins.mono _ _
   | exact script_may.mono _ _ _ _ _ _ _ _ _ _ _
   | exact LeO.none _
   | refine LeO.ite ?_ ?_
   | refine LeO.bind ?_ (fun _ => ?_)
set_option maxHeartbeats 8000000 in
set_option maxRecDepth 100000 in
theorem script_shaped.calls (k : Nat) (A0 : Option Addr) (c0 : Nat) (l0 : List (S51)) (r : Bool) (w : World) (hr0 : Kd.C k51 w A0 l0.length l0) (hc0 : l0.length ≤ c0) (h : script_shaped.f k l0 = some r) :
  Calls Tryd.prog 28 #[.slice A0 l0.length c0] w fun e w' => e = .returned (.bool r) ∧ Below w.heap.size w w' := by
 have hu51 := Tryd.underlying51
 have HR0 := aK hr0; have HC0 := aK hc0; clear hr0 hc0
 have HB := aK (Below.refl w.heap.size w)
 have H : (script_shaped.l0 k l0 l0 (l0.length : Int) 0) = some r := h
 clear h
 have H' := aK H
 clear H
 go_enter Tryd.func28, Tryd.ntmps28
 go_wp2
 go_loopg [7] k (fun kq v7 w' => ∃ (x7_1 : Int), v7 = .int .i64 x7_1 ∧ Aside0 (script_shaped.l0 kq l0 l0 (l0.length : Int) x7_1 = some r) ∧ Aside0 (kq ≤ k) ∧ Aside0 (Below w.heap.size w w'))
 case atStart => exact ⟨(0), qDoor10_5, H', ⟨Nat.le_refl _⟩, ⟨qDoor10_1⟩⟩
 case round =>
  clear H'
  obtain ⟨x7_1, rfl, HA, HK1, HB⟩ := hrel
  cases gk with
  | zero => exact absurd HA.out (by simp [script_shaped.l0])
  | succ k1 =>
   have H := HA.out
   clear HA
   simp only [script_shaped.l0] at H
   by_cases c2 : x7_1 < (l0.length : Int)
   ·rw [if_pos c2] at H
    have c2b0 : decide (x7_1 < (l0.length : Int)) = true := decide_eq_true c2
    clear c2
    by_cases c3 : 0 ≤ x7_1
    ·rw [if_pos c3] at H
     have c3b0 : decide (0 ≤ x7_1) = true := decide_eq_true c3
     clear c3
     by_cases c4 : x7_1 < (l0.length : Int)
     ·rw [if_pos c4] at H
      have c4b0 : decide (x7_1 < (l0.length : Int)) = true := decide_eq_true c4
      clear c4
      replace H := Option.bind_eq_some_iff.mp H
      obtain ⟨t140, A50, H⟩ := H
      replace H : (if t140 = true then (script_shaped.l0 k1 l0 l0 (l0.length : Int) (wrap64 (x7_1 + 1))) else (some false)) = some r := H
      have A5 := aK A50; clear A50
      by_cases c6 : t140 = true
      ·subst c6
       have H1 : (script_shaped.l0 k1 l0 l0 (l0.length : Int) (wrap64 (x7_1 + 1))) = some r := by rw [if_pos rfl] at H; exact H
       clear H
       have H := H1
       clear H1
       have H' := aK H
       clear H
       have p138 : 0 ≤ (x7_1 : Int) := of_decide_eq_true qDoor10_2
       have q138 : x7_1 < (l0.length : Int) := of_decide_eq_true qDoor10_2
       obtain ⟨ad138, e138, hx138_0, hx138_1, hx138_2, hx138_3, hx138_4, hx138_5, hx138_6, hx138_7, hx138_8, hx138_9⟩ := at_T51 HR0.out x7_1 p138 q138
       cases e138
       replace hx138_0 := (HB.out.cell (World.block_lt_of_cell? w _ hx138_0)).trans hx138_0
       replace hx138_1 := (HB.out.cell (World.block_lt_of_cell? w _ hx138_1)).trans hx138_1
       replace hx138_2 := (HB.out.cell (World.block_lt_of_cell? w _ hx138_2)).trans hx138_2
       replace hx138_3 := (HB.out.cell (World.block_lt_of_cell? w _ hx138_3)).trans hx138_3
       replace hx138_4 := (HB.out.cell (World.block_lt_of_cell? w _ hx138_4)).trans hx138_4
       replace hx138_5 := (HB.out.cell (World.block_lt_of_cell? w _ hx138_5)).trans hx138_5
       replace hx138_6 := (HB.out.cell (World.block_lt_of_cell? w _ hx138_6)).trans hx138_6
       replace hx138_7 := (HB.out.cell (World.block_lt_of_cell? w _ hx138_7)).trans hx138_7
       replace hx138_8 := (HB.out.cell (World.block_lt_of_cell? w _ hx138_8)).trans hx138_8
       replace hx138_9 := (HB.out.cell (World.block_lt_of_cell? w _ hx138_9)).trans hx138_9
       replace p138 := eq_true p138
       replace q138 := eq_true q138
       go_wp2_with (first | ((with_reducible refine gate_dst (N := 4) rfl ?_); refine box_event ?hg (N := 4) ?hd (cs := #[.int .i64 0, .int .i64 0, .string (⟨#[]⟩ : ByteArray), .bool false, .int .u64 0, .int .u64 0, .int .u64 0, .int .u64 0, .int .i64 0, .int .i64 0]) (t := 51) ?hr ?_; (case hd => rfl); (case hg => rfl); (case hr => first | (go_simp; done) | (go_simp; rfl)); intro gb139 hg w7 hbox hb; have z_ := bxk hb hg qDoor10_1; have n0_ := aK z_.1; have n1_ := aK (hbox); have n2_ := aK z_.2; have n3_ := aK z_.2; clear z_; clear HB; have HB := n0_; have BK139 := n1_; have GW139 := n2_; have GE139 := n3_; clear n0_ n1_ n2_ n3_; clear hb hbox hg; obtain ⟨hcz8_0, hcz8_1, hcz8_2, hcz8_3, hcz8_4, hcz8_5, hcz8_6, hcz8_7, hcz8_8, hcz8_9⟩ := ck10 BK139.out; obtain ⟨hfz8_0, hfz8_1, hfz8_2, hfz8_3, hfz8_4, hfz8_5, hfz8_6, hfz8_7, hfz8_8, hfz8_9⟩ := fk10 BK139.out) | ((with_reducible refine gate_callee (f := 37) rfl ?_); refine goesL_ (some 12) rfl rfl Tryd.func37 (by kernel_rfl) rfl #[.agg #[.int .i64 ((rd_T51 l0 x7_1).f0), .int .i64 ((rd_T51 l0 x7_1).f1), .string ((rd_T51 l0 x7_1).f2), .bool ((rd_T51 l0 x7_1).f3), .int .u64 ((rd_T51 l0 x7_1).f4.f0), .int .u64 ((rd_T51 l0 x7_1).f4.f1), .int .u64 ((rd_T51 l0 x7_1).f4.f2), .int .u64 ((rd_T51 l0 x7_1).f4.f3), .int .i64 ((rd_T51 l0 x7_1).f5), .int .i64 ((rd_T51 l0 x7_1).f6)]] rfl qDoor10_4 ?_; (with_reducible refine (script_may.calls k1 ((rd_T51 l0 x7_1).f0) ((rd_T51 l0 x7_1).f1) ((rd_T51 l0 x7_1).f2) ((rd_T51 l0 x7_1).f3) ((rd_T51 l0 x7_1).f4.f0) ((rd_T51 l0 x7_1).f4.f1) ((rd_T51 l0 x7_1).f4.f2) ((rd_T51 l0 x7_1).f4.f3) ((rd_T51 l0 x7_1).f5) ((rd_T51 l0 x7_1).f6) true _ A5.out).mono ?_); rintro e w9 ⟨rfl, hb⟩; refine ⟨_, rfl, ?_⟩; have n0_ := aK (blk_below (g := gb139) (o := .cells #[.int .i64 ((rd_T51 l0 x7_1).f0), .int .i64 ((rd_T51 l0 x7_1).f1), .string ((rd_T51 l0 x7_1).f2), .bool ((rd_T51 l0 x7_1).f3), .int .u64 ((rd_T51 l0 x7_1).f4.f0), .int .u64 ((rd_T51 l0 x7_1).f4.f1), .int .u64 ((rd_T51 l0 x7_1).f4.f2), .int .u64 ((rd_T51 l0 x7_1).f4.f3), .int .i64 ((rd_T51 l0 x7_1).f5), .int .i64 ((rd_T51 l0 x7_1).f6)] 51 (0, 0)) qDoor10_0 hb); have n1_ := aK (below_step qDoor10_3 hb); clear BK139; clear HB; have BK139 := n0_; have HB := n1_; clear n0_ n1_; (try clear hb); (try clear hb2); (try clear hk); (try clear hi)))
       go_roundg k1
       case measure => have := HK1.out; omega
       case rel => exact ⟨(wrap64 (x7_1 + 1)), qDoor10_5, H', ⟨by have := HK1.out; omega⟩, ⟨qDoor10_3⟩⟩
      ·replace c6 := Bool.eq_false_iff.mpr c6
       subst c6
       have H1 : (some false) = some r := by rw [if_neg (show ¬ (false = true) by decide)] at H; exact H
       clear H
       have H := H1
       clear H1
       obtain rfl := Option.some.inj H
       have p138 : 0 ≤ (x7_1 : Int) := of_decide_eq_true qDoor10_2
       have q138 : x7_1 < (l0.length : Int) := of_decide_eq_true qDoor10_2
       obtain ⟨ad138, e138, hx138_0, hx138_1, hx138_2, hx138_3, hx138_4, hx138_5, hx138_6, hx138_7, hx138_8, hx138_9⟩ := at_T51 HR0.out x7_1 p138 q138
       cases e138
       replace hx138_0 := (HB.out.cell (World.block_lt_of_cell? w _ hx138_0)).trans hx138_0
       replace hx138_1 := (HB.out.cell (World.block_lt_of_cell? w _ hx138_1)).trans hx138_1
       replace hx138_2 := (HB.out.cell (World.block_lt_of_cell? w _ hx138_2)).trans hx138_2
       replace hx138_3 := (HB.out.cell (World.block_lt_of_cell? w _ hx138_3)).trans hx138_3
       replace hx138_4 := (HB.out.cell (World.block_lt_of_cell? w _ hx138_4)).trans hx138_4
       replace hx138_5 := (HB.out.cell (World.block_lt_of_cell? w _ hx138_5)).trans hx138_5
       replace hx138_6 := (HB.out.cell (World.block_lt_of_cell? w _ hx138_6)).trans hx138_6
       replace hx138_7 := (HB.out.cell (World.block_lt_of_cell? w _ hx138_7)).trans hx138_7
       replace hx138_8 := (HB.out.cell (World.block_lt_of_cell? w _ hx138_8)).trans hx138_8
       replace hx138_9 := (HB.out.cell (World.block_lt_of_cell? w _ hx138_9)).trans hx138_9
       replace p138 := eq_true p138
       replace q138 := eq_true q138
       go_wp2_with (first | ((with_reducible refine gate_dst (N := 4) rfl ?_); refine box_event ?hg (N := 4) ?hd (cs := #[.int .i64 0, .int .i64 0, .string (⟨#[]⟩ : ByteArray), .bool false, .int .u64 0, .int .u64 0, .int .u64 0, .int .u64 0, .int .i64 0, .int .i64 0]) (t := 51) ?hr ?_; (case hd => rfl); (case hg => rfl); (case hr => first | (go_simp; done) | (go_simp; rfl)); intro gb139 hg w10 hbox hb; have z_ := bxk hb hg qDoor10_1; have n0_ := aK z_.1; have n1_ := aK (hbox); have n2_ := aK z_.2; have n3_ := aK z_.2; clear z_; clear HB; have HB := n0_; have BK139 := n1_; have GW139 := n2_; have GE139 := n3_; clear n0_ n1_ n2_ n3_; clear hb hbox hg; obtain ⟨hcz11_0, hcz11_1, hcz11_2, hcz11_3, hcz11_4, hcz11_5, hcz11_6, hcz11_7, hcz11_8, hcz11_9⟩ := ck10 BK139.out; obtain ⟨hfz11_0, hfz11_1, hfz11_2, hfz11_3, hfz11_4, hfz11_5, hfz11_6, hfz11_7, hfz11_8, hfz11_9⟩ := fk10 BK139.out) | ((with_reducible refine gate_callee (f := 37) rfl ?_); refine goesL_ (some 12) rfl rfl Tryd.func37 (by kernel_rfl) rfl #[.agg #[.int .i64 ((rd_T51 l0 x7_1).f0), .int .i64 ((rd_T51 l0 x7_1).f1), .string ((rd_T51 l0 x7_1).f2), .bool ((rd_T51 l0 x7_1).f3), .int .u64 ((rd_T51 l0 x7_1).f4.f0), .int .u64 ((rd_T51 l0 x7_1).f4.f1), .int .u64 ((rd_T51 l0 x7_1).f4.f2), .int .u64 ((rd_T51 l0 x7_1).f4.f3), .int .i64 ((rd_T51 l0 x7_1).f5), .int .i64 ((rd_T51 l0 x7_1).f6)]] rfl qDoor10_4 ?_; (with_reducible refine (script_may.calls k1 ((rd_T51 l0 x7_1).f0) ((rd_T51 l0 x7_1).f1) ((rd_T51 l0 x7_1).f2) ((rd_T51 l0 x7_1).f3) ((rd_T51 l0 x7_1).f4.f0) ((rd_T51 l0 x7_1).f4.f1) ((rd_T51 l0 x7_1).f4.f2) ((rd_T51 l0 x7_1).f4.f3) ((rd_T51 l0 x7_1).f5) ((rd_T51 l0 x7_1).f6) false _ A5.out).mono ?_); rintro e w12 ⟨rfl, hb⟩; refine ⟨_, rfl, ?_⟩; have n0_ := aK (blk_below (g := gb139) (o := .cells #[.int .i64 ((rd_T51 l0 x7_1).f0), .int .i64 ((rd_T51 l0 x7_1).f1), .string ((rd_T51 l0 x7_1).f2), .bool ((rd_T51 l0 x7_1).f3), .int .u64 ((rd_T51 l0 x7_1).f4.f0), .int .u64 ((rd_T51 l0 x7_1).f4.f1), .int .u64 ((rd_T51 l0 x7_1).f4.f2), .int .u64 ((rd_T51 l0 x7_1).f4.f3), .int .i64 ((rd_T51 l0 x7_1).f5), .int .i64 ((rd_T51 l0 x7_1).f6)] 51 (0, 0)) qDoor10_0 hb); have n1_ := aK (below_step qDoor10_3 hb); clear BK139; clear HB; have BK139 := n0_; have HB := n1_; clear n0_ n1_; (try clear hb); (try clear hb2); (try clear hk); (try clear hi)))
       go_ret
       exact ⟨qDoor10_6, qDoor10_3⟩
     ·rw [if_neg c4] at H
      exact absurd H (by simp)
    ·rw [if_neg c3] at H
     exact absurd H (by simp)
   ·rw [if_neg c2] at H
    have c2b0 : decide (x7_1 < (l0.length : Int)) = false := decide_eq_false c2
    clear c2
    replace H := Option.bind_eq_some_iff.mp H
    obtain ⟨t141, A130, H⟩ := H
    replace H : ((script_tree.f l0 t141).bind fun t144 => (some t144)) = some r := H
    have A13 := aK A130; clear A130
    replace H := Option.bind_eq_some_iff.mp H
    obtain ⟨t144, A140, H⟩ := H
    replace H : (some t144) = some r := H
    have A14 := aK A140; clear A140
    obtain rfl := Option.some.inj H
    go_wp2_with (first | ((with_reducible refine gate_callee (f := 39) rfl ?_); refine goesL_ (some 17) rfl rfl Tryd.func39 (by kernel_rfl) rfl #[.slice A0 l0.length c0] rfl qDoor10_4 ?_; (with_reducible refine (script_begins.calls k1 _ _ l0 t141 _ ?side1 ?side2 A13.out).mono ?_); (case side1 => repeat (first | exact (Kd.C_below HR0.out HB.out) | (with_reducible refine Kd.C_alloc ?_ _) | (with_reducible refine Kd.C_drewN ?_ _) | (with_reducible refine Kd.C_drew ?_))); (case side2 => exact HC0.out); rintro e w15 ⟨v142, rfl, ho0, hb⟩; refine ⟨_, rfl, ?_⟩; have n0_ := aK (Kd.R_lower ho0 (below_size qDoor10_1)); have n1_ := aK (below_step qDoor10_1 hb); clear HB; have HO143 := n0_; have HB := n1_; clear n0_ n1_; (try clear hb); (try clear hb2); (try clear hk); (try clear hi); (try clear ho0); obtain ⟨Ao16, co16, eo16⟩ := Kd.R_slice HO143.out; subst eo16) | ((with_reducible refine gate_callee (f := 38) rfl ?_); refine goesL_ (some 18) rfl rfl Tryd.func38 (by kernel_rfl) rfl #[.slice A0 l0.length c0, .slice Ao16 t141.length co16] rfl qDoor10_4 ?_; (with_reducible refine (script_tree.calls _ _ l0 _ _ t141 t144 _ ?side1 ?side2 ?side3 ?side4 A14.out).mono ?_); (case side1 => repeat (first | exact (Kd.C_below HR0.out HB.out) | (with_reducible refine Kd.C_alloc ?_ _) | (with_reducible refine Kd.C_drewN ?_ _) | (with_reducible refine Kd.C_drew ?_))); (case side2 => exact HC0.out); (case side3 => repeat (first | exact (Kd.R_reads' HO143.out).2.2 | (with_reducible refine Kd.C_alloc ?_ _) | (with_reducible refine Kd.C_drewN ?_ _) | (with_reducible refine Kd.C_drew ?_))); (case side4 => exact (Kd.R_reads' HO143.out).2.1); rintro e w' ⟨rfl, ⟨nd, rfl⟩⟩; refine ⟨_, rfl, ?_⟩))
    go_ret
    exact ⟨qDoor10_6, qDoor10_1⟩
mutual
def script_parts.j0 : Nat → List (S51) → List Int → Int → Bool → Option (List Int)
 | 0, _, _, _, _ => none
 | k + 1, x0, x1, x2, x32 => if x32 = true then (some ([] : List Int)) else (if 0 ≤ x2 then (if x2 < (x0.length : Int) then (if 0 ≤ ((rd_T51 x0 x2).f1) then (if ((rd_T51 x0 x2).f1 : Int).toNat ≤ 35184372088832 then ((some (List.replicate ((rd_T51 x0 x2).f1 : Int).toNat 0 : List Int)).bind fun y148 => (script_parts.l0 k x1 y148 x2 (wrap64 ((y148.length : Int) - 1)))) else (none)) else (none)) else (none)) else (none))
def script_parts.l0 : Nat → List Int → List Int → Int → Int → Option (List Int)
 | 0, _, _, _, _ => none
 | k + 1, x1, x7, x8, x9 => if x9 ≥ 0 then (if 0 ≤ x9 then (if x9 < (x7.length : Int) then (if 0 ≤ (wrap64 (x8 - 1)) then (if (wrap64 (x8 - 1)) < (x1.length : Int) then (script_parts.l0 k x1 (x7.set (x9 : Int).toNat (wrap64 (x8 - 1))) (rd x1 (wrap64 (x8 - 1))) (wrap64 (x9 - 1))) else (none)) else (none)) else (none)) else (none)) else (some x7)
end
def script_parts.f (k : Nat) (l0 : List (S51)) (l1 : List Int) (a2 : Int) : Option (List Int) := if a2 < 0 then (script_parts.j0 k l0 l1 a2 true) else (if a2 ≥ (l0.length : Int) then (script_parts.j0 k l0 l1 a2 true) else (if 0 ≤ a2 then (if a2 < (l1.length : Int) then (if (rd l1 a2) < 0 then (script_parts.j0 k l0 l1 a2 true) else (if a2 < (l0.length : Int) then (script_parts.j0 k l0 l1 a2 (((rd_T51 l0 a2).f1) == 0)) else (none))) else (none)) else (none)))
theorem script_parts.mono_l : ∀ k, (∀ y0 y1 y2 y3, LeO (script_parts.j0 k y0 y1 y2 y3) (script_parts.j0 (k + 1) y0 y1 y2 y3)) ∧ (∀ y0 y1 y2 y3, LeO (script_parts.l0 k y0 y1 y2 y3) (script_parts.l0 (k + 1) y0 y1 y2 y3))
 | 0 => ⟨fun _ _ _ _ r h => by simp [script_parts.j0] at h, fun _ _ _ _ r h => by simp [script_parts.l0] at h⟩
 | k + 1 => by
  obtain ⟨ih0, ih1⟩ := script_parts.mono_l k
  refine ⟨?_, ?_⟩
  ·intro y0 y1 y2 y3
   unfold script_parts.j0
   repeat' first
   | (with_reducible exact ih0 _ _ _ _)
   | (with_reducible exact ih1 _ _ _ _)
   | (with_reducible exact LeO.refl _)
   | (with_reducible exact LeO.none _)
   | (with_reducible refine LeO.ite ?_ ?_)
   | (with_reducible refine LeO.bind ?_ (fun _ => ?_))
   | exact ih0 _ _ _ _
   | exact ih1 _ _ _ _
   | exact LeO.none _
   | refine LeO.ite ?_ ?_
   | refine LeO.bind ?_ (fun _ => ?_)
  ·intro y0 y1 y2 y3
   unfold script_parts.l0
   repeat' first
   | (with_reducible exact ih0 _ _ _ _)
   | (with_reducible exact ih1 _ _ _ _)
   | (with_reducible exact LeO.refl _)
   | (with_reducible exact LeO.none _)
   | (with_reducible refine LeO.ite ?_ ?_)
   | (with_reducible refine LeO.bind ?_ (fun _ => ?_))
   | exact ih0 _ _ _ _
   | exact ih1 _ _ _ _
   | exact LeO.none _
   | refine LeO.ite ?_ ?_
   | refine LeO.bind ?_ (fun _ => ?_)
theorem script_parts.mono : ∀ a0 a1 a2 k, LeO (script_parts.f k a0 a1 a2) (script_parts.f (k + 1) a0 a1 a2) := by
 intro a0 a1 a2 k
 obtain ⟨ih0, ih1⟩ := script_parts.mono_l k
 unfold script_parts.f
 repeat' first
   | (with_reducible exact ih0 _ _ _ _)
   | (with_reducible exact ih1 _ _ _ _)
   | (with_reducible exact LeO.refl _)
   | (with_reducible exact LeO.none _)
   | (with_reducible refine LeO.ite ?_ ?_)
   | (with_reducible refine LeO.bind ?_ (fun _ => ?_))
   | exact ih0 _ _ _ _
   | exact ih1 _ _ _ _
   | exact LeO.none _
   | refine LeO.ite ?_ ?_
   | refine LeO.bind ?_ (fun _ => ?_)
set_option maxHeartbeats 8000000 in
set_option maxRecDepth 100000 in
theorem script_parts.calls (k : Nat) (A0 : Option Addr) (c0 : Nat) (l0 : List (S51)) (A1 : Option Addr) (c1 : Nat) (l1 : List Int) (a2 : Int) (r : List Int) (w : World) (hr0 : Kd.C k51 w A0 l0.length l0) (hc0 : l0.length ≤ c0) (hr1 : Kd.C (Kd.int .i64) w A1 l1.length l1) (hc1 : l1.length ≤ c1) (h : script_parts.f k l0 l1 a2 = some r) :
  Calls Tryd.prog 58 #[.slice A0 l0.length c0, .slice A1 l1.length c1, .int .i64 a2] w fun e w' => ∃ v0_ : Value, e = .returned (v0_) ∧ Kd.R (Kd.int .i64) 3 w' w.heap.size (fun _ => True) v0_ r ∧ Below w.heap.size w w' := by
 have HR0 := aK hr0; have HC0 := aK hc0; clear hr0 hc0; have HR1 := aK hr1; have HC1 := aK hc1; clear hr1 hc1
 have HB := aK (Below.refl w.heap.size w)
 have H : (if a2 < 0 then (script_parts.j0 k l0 l1 a2 true) else (if a2 ≥ (l0.length : Int) then (script_parts.j0 k l0 l1 a2 true) else (if 0 ≤ a2 then (if a2 < (l1.length : Int) then (if (rd l1 a2) < 0 then (script_parts.j0 k l0 l1 a2 true) else (if a2 < (l0.length : Int) then (script_parts.j0 k l0 l1 a2 (((rd_T51 l0 a2).f1) == 0)) else (none))) else (none)) else (none)))) = some r := h
 clear h; have HC4 := aK H; clear H
 go_enter Tryd.func58, Tryd.ntmps58
 go_upto_region 1 with (fail)
 go_cut [32] (fun v32 wc => ∃ (kq : Nat) (x32_3 : Bool), v32 = .bool x32_3 ∧ Aside0 (script_parts.j0 kq l0 l1 a2 x32_3 = some r) ∧ Aside0 (kq ≤ k) ∧ Aside0 (Below w.heap.size w wc))
 case first =>
  have H := HC4.out
  clear HC4
  by_cases c5 : a2 < 0
  ·rw [if_pos c5] at H
   have c5b0 : decide (a2 < 0) = true := decide_eq_true c5
   clear c5
   (first | rw [c5b0] | (simp only [i64_w, i32_w]; rw [c5b0]) | skip)
   have H' := aK H
   clear H
   go_wp2
   go_meet
   case rel => exact ⟨_, (true), qDoor10_5, H', ⟨qDoor10_7⟩, ⟨qDoor10_1⟩⟩
  ·rw [if_neg c5] at H
   have c5b0 : decide (a2 < 0) = false := decide_eq_false c5
   clear c5
   (first | rw [c5b0] | (simp only [i64_w, i32_w]; rw [c5b0]) | skip)
   by_cases c6 : a2 ≥ (l0.length : Int)
   ·rw [if_pos c6] at H
    have c6b0 : decide ((l0.length : Int) ≤ a2) = true := decide_eq_true c6
    clear c6
    have H' := aK H
    clear H
    go_wp2
    go_meet
    case rel => exact ⟨_, (true), qDoor10_5, H', ⟨qDoor10_7⟩, ⟨qDoor10_1⟩⟩
   ·rw [if_neg c6] at H
    have c6b0 : decide ((l0.length : Int) ≤ a2) = false := decide_eq_false c6
    clear c6
    by_cases c7 : 0 ≤ a2
    ·rw [if_pos c7] at H
     have c7b0 : decide (0 ≤ a2) = true := decide_eq_true c7
     clear c7
     by_cases c8 : a2 < (l1.length : Int)
     ·rw [if_pos c8] at H
      have c8b0 : decide (a2 < (l1.length : Int)) = true := decide_eq_true c8
      clear c8
      by_cases c9 : (rd l1 a2) < 0
      ·rw [if_pos c9] at H
       have c9b0 : decide ((rd l1 a2) < 0) = true := decide_eq_true c9
       clear c9
       have H' := aK H
       clear H
       have p145 : 0 ≤ (a2 : Int) := of_decide_eq_true qDoor10_2
       have q145 : a2 < (l1.length : Int) := of_decide_eq_true qDoor10_2
       obtain ⟨ad145, e145, hx145_0⟩ := Kd.at_int HR1.out a2 p145 q145
       cases e145
       replace hx145_0 := (HB.out.cell (World.block_lt_of_cell? w _ hx145_0)).trans hx145_0
       replace p145 := eq_true p145
       replace q145 := eq_true q145
       go_wp2
       go_meet
       case rel => exact ⟨_, (true), qDoor10_5, H', ⟨qDoor10_7⟩, ⟨qDoor10_1⟩⟩
      ·rw [if_neg c9] at H
       have c9b0 : decide ((rd l1 a2) < 0) = false := decide_eq_false c9
       clear c9
       by_cases c10 : a2 < (l0.length : Int)
       ·rw [if_pos c10] at H
        have c10b0 : decide (a2 < (l0.length : Int)) = true := decide_eq_true c10
        clear c10
        have H' := aK H
        clear H
        have p145 : 0 ≤ (a2 : Int) := of_decide_eq_true qDoor10_2
        have q145 : a2 < (l1.length : Int) := of_decide_eq_true qDoor10_2
        obtain ⟨ad145, e145, hx145_0⟩ := Kd.at_int HR1.out a2 p145 q145
        cases e145
        replace hx145_0 := (HB.out.cell (World.block_lt_of_cell? w _ hx145_0)).trans hx145_0
        replace p145 := eq_true p145
        replace q145 := eq_true q145
        have p146 : 0 ≤ (a2 : Int) := of_decide_eq_true qDoor10_2
        have q146 : a2 < (l0.length : Int) := of_decide_eq_true qDoor10_2
        obtain ⟨ad146, e146, hx146_0, hx146_1, hx146_2, hx146_3, hx146_4, hx146_5, hx146_6, hx146_7, hx146_8, hx146_9⟩ := at_T51 HR0.out a2 p146 q146
        cases e146
        replace hx146_0 := (HB.out.cell (World.block_lt_of_cell? w _ hx146_0)).trans hx146_0
        replace hx146_1 := (HB.out.cell (World.block_lt_of_cell? w _ hx146_1)).trans hx146_1
        replace hx146_2 := (HB.out.cell (World.block_lt_of_cell? w _ hx146_2)).trans hx146_2
        replace hx146_3 := (HB.out.cell (World.block_lt_of_cell? w _ hx146_3)).trans hx146_3
        replace hx146_4 := (HB.out.cell (World.block_lt_of_cell? w _ hx146_4)).trans hx146_4
        replace hx146_5 := (HB.out.cell (World.block_lt_of_cell? w _ hx146_5)).trans hx146_5
        replace hx146_6 := (HB.out.cell (World.block_lt_of_cell? w _ hx146_6)).trans hx146_6
        replace hx146_7 := (HB.out.cell (World.block_lt_of_cell? w _ hx146_7)).trans hx146_7
        replace hx146_8 := (HB.out.cell (World.block_lt_of_cell? w _ hx146_8)).trans hx146_8
        replace hx146_9 := (HB.out.cell (World.block_lt_of_cell? w _ hx146_9)).trans hx146_9
        replace p146 := eq_true p146
        replace q146 := eq_true q146
        go_wp2
        go_meet
        case rel => exact ⟨_, ((((rd_T51 l0 a2).f1) == 0)), qDoor10_5, H', ⟨qDoor10_7⟩, ⟨qDoor10_1⟩⟩
       ·rw [if_neg c10] at H
        exact absurd H (by simp)
     ·rw [if_neg c8] at H
      exact absurd H (by simp)
    ·rw [if_neg c7] at H
     exact absurd H (by simp)
 case rest =>
  clear HC4; (try clear c1); (try clear p1); (try clear q1); (try clear hx1); (try clear p2); (try clear c5); (try clear c5b0); (try clear c6); (try clear c6b0); (try clear c7); (try clear c7b0); (try clear c8); (try clear c8b0); (try clear c9); (try clear c9b0); (try clear c10); (try clear c10b0); (try clear hx145_0); (try clear hx146_0); (try clear hx146_1); (try clear hx146_2); (try clear hx146_3); (try clear hx146_4); (try clear hx146_5); (try clear hx146_6); (try clear hx146_7); (try clear hx146_8); (try clear hx146_9); (try clear p145); (try clear p146); (try clear q145); (try clear q146)
  obtain ⟨kq, x32_3, rfl, HA, HJ3, HB⟩ := hcut
  cases kq with
  | zero => exact absurd HA.out (by simp [script_parts.j0])
  | succ kj3 =>
   have H := HA.out
   clear HA
   simp only [script_parts.j0] at H
   by_cases c11 : x32_3 = true
   ·subst c11
    have H1 : (some ([] : List Int)) = some r := by rw [if_pos rfl] at H; exact H
    clear H
    have H := H1
    clear H1
    obtain rfl := Option.some.inj H
    go_wp2
    go_ret
    exact ⟨_, qDoor10_6, by first | exact Kd.R_nil _ _ _ _ _ | exact Kd.N_nil _ _ _ _ _ | exact Kd.V_nil _ _ _ _ _ | exact Kd.Q_nil _ _ _ _ _ | exact Kd.S_nil _ _ _ _ _, qDoor10_1⟩
   ·replace c11 := Bool.eq_false_iff.mpr c11
    subst c11
    have H1 : (if 0 ≤ a2 then (if a2 < (l0.length : Int) then (if 0 ≤ ((rd_T51 l0 a2).f1) then (if ((rd_T51 l0 a2).f1 : Int).toNat ≤ 35184372088832 then ((some (List.replicate ((rd_T51 l0 a2).f1 : Int).toNat 0 : List Int)).bind fun y148 => (script_parts.l0 kj3 l1 y148 a2 (wrap64 ((y148.length : Int) - 1)))) else (none)) else (none)) else (none)) else (none)) = some r := by rw [if_neg (show ¬ (false = true) by decide)] at H; exact H
    clear H
    have H := H1
    clear H1
    by_cases c12 : 0 ≤ a2
    ·rw [if_pos c12] at H
     have c12b0 : decide (0 ≤ a2) = true := decide_eq_true c12
     clear c12
     by_cases c13 : a2 < (l0.length : Int)
     ·rw [if_pos c13] at H
      have c13b0 : decide (a2 < (l0.length : Int)) = true := decide_eq_true c13
      clear c13
      by_cases c14 : 0 ≤ ((rd_T51 l0 a2).f1)
      ·rw [if_pos c14] at H
       have c14b0 := eq_true c14
       have c14b1 : decide (0 ≤ ((rd_T51 l0 a2).f1)) = true := decide_eq_true c14
       clear c14
       by_cases c15 : ((rd_T51 l0 a2).f1 : Int).toNat ≤ 35184372088832
       ·rw [if_pos c15] at H
        have c15b0 := eq_true c15
        have c15b1 : decide (((rd_T51 l0 a2).f1 : Int).toNat ≤ 35184372088832) = true := decide_eq_true c15
        clear c15
        obtain ⟨y148, hy148⟩ : ∃ y_ : List Int, y_ = (List.replicate ((rd_T51 l0 a2).f1 : Int).toNat 0) := ⟨_, rfl⟩
        replace H : (script_parts.l0 kj3 l1 y148 a2 (wrap64 ((y148.length : Int) - 1))) = some r := by first | (rw [hy148]; with_reducible exact H) | (have H2_ := (Option.bind_some _ _).symm.trans H; rw [hy148]; with_reducible exact H2_) | (have H2_ := (Option.bind_some _ _).symm.trans H; with_reducible exact H2_) | with_reducible exact H | (rw [hy148]; exact H) | exact H
        have Ny148 := aK hy148; clear hy148
        have H' := aK H
        clear H
        have p147 : 0 ≤ (a2 : Int) := of_decide_eq_true qDoor10_2
        have q147 : a2 < (l0.length : Int) := of_decide_eq_true qDoor10_2
        obtain ⟨ad147, e147, hx147_0, hx147_1, hx147_2, hx147_3, hx147_4, hx147_5, hx147_6, hx147_7, hx147_8, hx147_9⟩ := at_T51 HR0.out a2 p147 q147
        cases e147
        replace hx147_0 := (HB.out.cell (World.block_lt_of_cell? w _ hx147_0)).trans hx147_0
        replace hx147_1 := (HB.out.cell (World.block_lt_of_cell? w _ hx147_1)).trans hx147_1
        replace hx147_2 := (HB.out.cell (World.block_lt_of_cell? w _ hx147_2)).trans hx147_2
        replace hx147_3 := (HB.out.cell (World.block_lt_of_cell? w _ hx147_3)).trans hx147_3
        replace hx147_4 := (HB.out.cell (World.block_lt_of_cell? w _ hx147_4)).trans hx147_4
        replace hx147_5 := (HB.out.cell (World.block_lt_of_cell? w _ hx147_5)).trans hx147_5
        replace hx147_6 := (HB.out.cell (World.block_lt_of_cell? w _ hx147_6)).trans hx147_6
        replace hx147_7 := (HB.out.cell (World.block_lt_of_cell? w _ hx147_7)).trans hx147_7
        replace hx147_8 := (HB.out.cell (World.block_lt_of_cell? w _ hx147_8)).trans hx147_8
        replace hx147_9 := (HB.out.cell (World.block_lt_of_cell? w _ hx147_9)).trans hx147_9
        replace p147 := eq_true p147
        replace q147 := eq_true q147
        go_wp2_with (first | ((with_reducible refine gate_dst (N := 38) rfl ?_); (try (refine gate_guard (by rfl) ?_; dsimp only)); refine Kd.R_make (Kd.int .i64) _ 3 rfl (N := 38) rfl 91 _ _ rfl ((rd_T51 l0 a2).f1) rfl rfl Tryd.underlying91 (.int .i64 0) 8 info3 rfl (by decide) (by omega) 0 (ok := fun _ => True) (okp := fun _ => True) rfl (fun _ hk => hk) trivial (of_decide_eq_true qDoor10_2) (Nat.le_trans (Nat.mul_le_mul_right _ (of_decide_eq_true qDoor10_2 : ((rd_T51 l0 a2).f1).toNat ≤ 35184372088832)) (by omega)) (Below.refl _ _) (Nat.le_refl _) ?_; intro v149 w16 ho17 hb hg_ hnew_; clear hg_ hnew_; (first | rw [← Ny148.out] at ho17 | (simp only [Int.reduceToNat] at ho17; rw [← Ny148.out] at ho17)); have n0_ := aK (Kd.R_lower ho17 (below_size qDoor10_1)); have n1_ := aK (below_step qDoor10_1 hb); clear HB; have HO150 := n0_; have HB := n1_; clear n0_ n1_; clear hb ho17; obtain ⟨Ao18, co18, eo18⟩ := Kd.R_slice HO150.out; subst eo18))
        go_loopg [8, 9] kj3 (fun kq v8 v9 w' => ∃ (x7_2 : List Int) (x8_2 : Int) (x9_2 : Int), v8 = .int .i64 x8_2 ∧ v9 = .int .i64 x9_2 ∧ Aside0 (script_parts.l0 kq l1 x7_2 x8_2 x9_2 = some r) ∧ Aside0 (kq ≤ kj3) ∧ Aside0 (Kd.R (Kd.int .i64) 3 w' w.heap.size (fun _ => True) (.slice Ao18 y148.length co18) x7_2) ∧ Aside0 (Below w.heap.size w w'))
        case atStart => exact ⟨(y148), (a2), (wrap64 ((y148.length : Int) - 1)), qDoor10_5, qDoor10_5, H', ⟨Nat.le_refl _⟩, ⟨by (with_reducible repeat (first | apply Kd.R_alloc | apply Kd.R_drewN | apply Kd.R_drew)); exact HO150.out⟩, ⟨qDoor10_1⟩⟩
        case round =>
         clear H'; (try clear c1); (try clear p1); (try clear q1); (try clear hx1); (try clear p2); (try clear c5); (try clear c5b0); (try clear c6); (try clear c6b0); (try clear p6); (try clear c7); (try clear c7b0); (try clear c8); (try clear c8b0); (try clear c9); (try clear c9b0); (try clear c10); (try clear c10b0); (try clear c11); (try clear c12); (try clear c12b0); (try clear c13); (try clear c13b0); (try clear c14); (try clear c14b0); (try clear c14b1); (try clear p14); (try clear q14); (try clear hx14); (try clear c15); (try clear c15b0); (try clear c15b1); (try clear hx145_0); (try clear hx146_0); (try clear hx146_1); (try clear hx146_2); (try clear hx146_3); (try clear hx146_4); (try clear hx146_5); (try clear hx146_6); (try clear hx146_7); (try clear hx146_8); (try clear hx146_9); (try clear hx147_0); (try clear hx147_1); (try clear hx147_2); (try clear hx147_3); (try clear hx147_4); (try clear hx147_5); (try clear hx147_6); (try clear hx147_7); (try clear hx147_8); (try clear hx147_9); (try clear p1); (try clear p145); (try clear p146); (try clear p147); (try clear p2); (try clear q1); (try clear q145); (try clear q146); (try clear q147)
         obtain ⟨x7_2, x8_2, x9_2, rfl, rfl, HA, HK2, HO_7, HB⟩ := hrel
         have hl7_2 := (Kd.R_reads' HO_7.out).1
         rw [hl7_2] at HO_7
         (try simp only [hl7_2])
         cases gk with
         | zero => exact absurd HA.out (by simp [script_parts.l0])
         | succ k2 =>
          have H := HA.out
          clear HA
          simp only [script_parts.l0] at H
          by_cases c19 : x9_2 ≥ 0
          ·rw [if_pos c19] at H
           have c19b0 : decide (0 ≤ x9_2) = true := decide_eq_true c19
           clear c19
           by_cases c20 : 0 ≤ x9_2
           ·rw [if_pos c20] at H
            have c20b0 : decide (0 ≤ x9_2) = true := decide_eq_true c20
            clear c20
            by_cases c21 : x9_2 < (x7_2.length : Int)
            ·rw [if_pos c21] at H
             have c21b0 : decide (x9_2 < (x7_2.length : Int)) = true := decide_eq_true c21
             clear c21
             obtain ⟨y151, hy151⟩ : ∃ y_ : List Int, y_ = (x7_2.set (x9_2 : Int).toNat (wrap64 (x8_2 - 1))) := ⟨_, rfl⟩
             replace H : (if 0 ≤ (wrap64 (x8_2 - 1)) then (if (wrap64 (x8_2 - 1)) < (l1.length : Int) then (script_parts.l0 k2 l1 y151 (rd l1 (wrap64 (x8_2 - 1))) (wrap64 (x9_2 - 1))) else (none)) else (none)) = some r := by first | (rw [hy151]; with_reducible exact H) | (have H2_ := (Option.bind_some _ _).symm.trans H; rw [hy151]; with_reducible exact H2_) | (have H2_ := (Option.bind_some _ _).symm.trans H; with_reducible exact H2_) | with_reducible exact H | (rw [hy151]; exact H) | exact H
             have Ny151 := aK hy151; clear hy151
             obtain ⟨ji23, hji23⟩ : ∃ j_ : Int, (wrap64 (x8_2 - 1)) = j_ := ⟨_, rfl⟩
             replace H : (if 0 ≤ (ji23) then (if (ji23) < (l1.length : Int) then (script_parts.l0 k2 l1 y151 (rd l1 (ji23)) (wrap64 (x9_2 - 1))) else (none)) else (none)) = some r := by first | (rw [hji23] at H; exact H) | (simp only [hji23] at H ⊢; exact H)
             (try rw [hji23] at Ny151)
             have hji23w : (IntKind.i64.wrap (x8_2 - 1)) = ji23 := (i64_w _).trans hji23
             by_cases c24 : 0 ≤ (ji23)
             ·rw [if_pos c24] at H
              have c24b0 : decide (0 ≤ (ji23)) = true := decide_eq_true c24
              clear c24
              by_cases c25 : (ji23) < (l1.length : Int)
              ·rw [if_pos c25] at H
               have c25b0 : decide ((ji23) < (l1.length : Int)) = true := decide_eq_true c25
               clear c25
               have H' := aK H
               clear H
               have p22 : 0 ≤ (x9_2 : Int) := of_decide_eq_true qDoor10_2
               have q22 : (x9_2 : Int) < ((x7_2.length : Int) : Int) := of_decide_eq_true qDoor10_2
               obtain ⟨go22, co22, eo22, gb22, gl22, cl22, HG22⟩ := Kd.R_form HO_7.out (by omega)
               (first | cases eo22 | (injection eo22 with ea_ en_ ec_; (first | subst ea_ | (injection ea_ with ea_; subst ea_)); subst ec_; clear en_))
               have GB22 := aK gb22; have GG22 := aK HG22; clear gb22 gl22 HG22
               obtain ⟨hx22_0, hf22_0⟩ := Kd.R_celln 0 HO_7.out (x9_2 : Int) p22 q22
               replace p22 := eq_true p22
               replace q22 := eq_true q22
               have HP26 := Kd.R_putg HO_7.out (x9_2 : Int) ji23
               go_wp2_with (first | ((with_reducible refine gate_store (t := 3) (p := 51) rfl ?_); refine store_event (t := 3) (p := 51) (v := ?vo_w27) (w1 := (wr.setCell ⟨go22, (x9_2 : Int).toNat, none⟩ (.int .i64 ji23))) ?hg ?ho ?hn ?hr ?_; (case ho => rfl); (case hg => rfl); (case hn => rfl); (case hr => first | (go_simp; done) | (go_simp; rfl)); intro w27 hw; have hg : wr.grownBy w27 (some go22) := (by rw [hw]; exact HP26.2); have hp_ : Kd.R (Kd.int .i64) 3 w27 w.heap.size (fun _ => True) (.slice (some ⟨go22, 0, none⟩) x7_2.length co18) y151 := (by rw [hw, Ny151.out]; exact HP26.1); clear HP26; have n0_ := aK (hp_); have n1_ := aK ((by rw [hw]; exact below_set (HB.out) GB22.out : Below w.heap.size w w27)); clear HO_7; clear HB; have HO_7 := n0_; have HB := n1_; clear n0_ n1_; clear hg hw hp_; have p152 : 0 ≤ ((ji23) : Int) := of_decide_eq_true qDoor10_2; have q152 : (ji23) < (l1.length : Int) := of_decide_eq_true qDoor10_2; obtain ⟨ad152, e152, hx152_0⟩ := Kd.at_int HR1.out (ji23) p152 q152; cases e152; replace hx152_0 := (HB.out.cell (World.block_lt_of_cell? w _ hx152_0)).trans hx152_0; replace p152 := eq_true p152; replace q152 := eq_true q152))
               (try simp only [← hl7_2])
               go_roundg k2
               case measure => have := HJ3.out; have := HK2.out; omega
               case rel => exact ⟨(y151), (rd l1 (ji23)), (wrap64 (x9_2 - 1)), (by first | rfl | (simp; done) | (simp only [← hji23] <;> (first | rfl | simp)) | (simp [*]; done)), qDoor10_5, H', ⟨by have := HJ3.out; have := HK2.out; omega⟩, ⟨by (try simp only [hl7_2]); (with_reducible repeat (first | apply Kd.R_alloc | apply Kd.R_drewN | apply Kd.R_drew)); exact HO_7.out⟩, ⟨qDoor10_1⟩⟩
              ·rw [if_neg c25] at H
               exact absurd H (by simp)
             ·rw [if_neg c24] at H
              exact absurd H (by simp)
            ·rw [if_neg c21] at H
             exact absurd H (by simp)
           ·rw [if_neg c20] at H
            exact absurd H (by simp)
          ·rw [if_neg c19] at H
           have c19b0 : decide (0 ≤ x9_2) = false := decide_eq_false c19
           clear c19
           obtain rfl := Option.some.inj H
           go_wp2
           go_ret
           exact ⟨_, qDoor10_6, by (with_reducible repeat (first | apply Kd.R_alloc | apply Kd.R_drewN | apply Kd.R_drew)); exact HO_7.out, qDoor10_1⟩
       ·rw [if_neg c15] at H
        exact absurd H (by simp)
      ·rw [if_neg c14] at H
       exact absurd H (by simp)
     ·rw [if_neg c13] at H
      exact absurd H (by simp)
    ·rw [if_neg c12] at H
     exact absurd H (by simp)
end Go.Proofs.YtihiicjnjhideaaDoor.PAll
end
section
namespace Go.Proofs.YtihiicjnjhideaaDoor.Build
open Go.RowKit Go.Proofs.YtihiicjnjhideaaDoorW.PrintWords Go.Proofs.YtihiicjnjhideaaDoor.PAll Go.Proofs.YtihiicjnjhideaaDoor.Core Go.Proofs.YtihiicjnjhideaaDoor.Names
set_option linter.unusedVariables false
set_option linter.unusedSimpArgs false
structure Shaped (e : List EN) : Prop where
 may : ∀ x ∈ e, May x
 tree : ∃ t, wfT t ∧ flatT t = e
theorem EvP.andThen {g : Nat → Option Bool} {f : Nat → Bool → Option Bool} {P Q : Prop} (h : EvP g P) (k : (P → EvP (fun n => f n true) Q)) (k2 : EvP (fun n => f n false) Q) : EvP (fun n => (g n).bind (f n)) Q := by
 obtain ⟨v, h1, h2⟩ := h
 cases v with
 | true =>
  obtain ⟨u, h3, h4⟩ := k (h2 rfl)
  exact ⟨u, Ev.bind h1 h3, h4⟩
 | false =>
  obtain ⟨u, h3, h4⟩ := k2
  exact ⟨u, Ev.bind h1 h3, h4⟩
section
variable (e : List EN) (hl : e.length ≤ 1048576) (hs : ∀ x ∈ e, x.f2.size ≤ 140737488351232)
include hl hs in
theorem shaped_loop : ∀ (d i : Nat), i + d = e.length → (∀ j x, j < i → e[j]? = some x → May x) → EvP (fun k => script_shaped.l0 k e e (e.length : Int) (i : Int)) (Shaped e)
 | 0, i, hid, hm => by
  refine EvP.step (fun _ => by rw [script_shaped.l0]) ?_
  obtain ⟨R, h1, h2, h3⟩ := begins_any e hl
  obtain ⟨v, h4, h5⟩ := tree_any e hl R h2 h3
  refine ⟨v, Ev.neg (by omega) (Ev.bind h1 ?_), fun h => ⟨fun x hx => ?_, h5 h⟩⟩
  ·rw [h4]; exact Ev.some_ rfl
  ·obtain ⟨j, hj, rfl⟩ := List.mem_iff_getElem.1 hx
   exact hm j _ (by omega) (List.getElem?_eq_getElem hj)
 | d + 1, i, hid, hm => by
  have hi : i < e.length := by omega
  obtain ⟨x, hx⟩ : ∃ x, e[i]? = some x := ⟨_, List.getElem?_eq_getElem hi⟩
  have hrd := aK (show rd_T51 e (i : Int) = x by rw [rd_T51, Int.toNat_natCast, List.getD_eq_getElem?_getD, hx]; rfl)
  have hw := aK (show wrap64 ((i : Int) + 1) = ((i + 1 : Nat) : Int) by rw [w64] <;> omega)
  refine EvP.step (fun _ => by rw [script_shaped.l0]) ?_
  refine EvP.ite (fun _ => ?_) (fun h => absurd (show (i : Int) < e.length by omega) h)
  refine EvP.ite (fun _ => ?_) (fun h => absurd (show (0 : Int) ≤ i by omega) h)
  refine EvP.ite (fun _ => ?_) (fun h => absurd (show (i : Int) < e.length by omega) h)
  rw [hrd.out, hw.out]
  refine EvP.andThen (may_any x (hs x (List.mem_of_getElem? hx))) (fun hmx => ?_) ?_
  ·refine EvP.ite (fun _ => ?_) (fun h => absurd rfl h)
   refine shaped_loop d (i + 1) (by omega) (fun j y hj hy => ?_)
   rcases Nat.lt_or_ge j i with h | h
   ·exact hm j y h hy
   ·obtain rfl : j = i := by omega
    rw [hx] at hy
    cases hy
    exact hmx
  ·exact EvP.ite (fun h => by simp at h) (fun _ => EvP.no)
include hl hs in
theorem shaped_any : EvP (fun k => script_shaped.f k e) (Shaped e) := by
 unfold script_shaped.f
 exact shaped_loop e hl hs e.length 0 (by omega) (fun j x hj => by omega)
end
end Go.Proofs.YtihiicjnjhideaaDoor.Build
end
