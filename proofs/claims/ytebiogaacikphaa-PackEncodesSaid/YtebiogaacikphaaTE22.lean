/- Parts of the proof of packEncodes: PAllx34. No condition beyond each lemma's own. -/
import Derived.Test.YtebiogaacikphaaTE3
import Derived.Test.YtebiogaacikphaaTE4
import Derived.Test.YtebiogaacikphaaTE7
section
namespace Go.Proofs.Ytebiogaacikphaa.PAll
open Go.RowKit Go.Proofs.YtebiogaacikphaaW.PrintWords Go.Proofs.YtebiogaacikphaaW.PrintLast Go.Proofs.YtebiogaacikphaaW.PrintMore
set_option linter.unusedVariables false
set_option linter.unusedSimpArgs false
attribute [local go_sem high] eqA76
mutual
def dowelref19_right.j0 : Nat → Int → Bool → Int → Int → Int → Int → Int → Int → ByteArray → Option (Bool)
  | 0, _, _, _, _, _, _, _, _, _ => none
  | k + 1, x1, x12, x518000, x518001, x518002, x518003, x518004, x518005, x518006 => if x12 = true then (some false) else ((dowelref19_far.f x518000).bind fun t518 => (if t518 = true then (if x518001 < 0 then (dowelref19_right.j1 k true x518000 x518001 x518002 x518003 x518004 x518005 x518006) else (if x518001 ≥ x1 then (dowelref19_right.j1 k true x518000 x518001 x518002 x518003 x518004 x518005 x518006) else ((dowelref19_far.f x518000).bind fun t519 => (if t519 = true then (dowelref19_right.j1 k false x518000 x518001 x518002 x518003 x518004 x518005 x518006) else (dowelref19_right.j1 k (x518001 != 0) x518000 x518001 x518002 x518003 x518004 x518005 x518006))))) else ((dowelref19_far.f x518000).bind fun t520 => (if t520 = true then (dowelref19_right.j1 k false x518000 x518001 x518002 x518003 x518004 x518005 x518006) else (dowelref19_right.j1 k (x518001 != 0) x518000 x518001 x518002 x518003 x518004 x518005 x518006)))))
def dowelref19_right.j1 : Nat → Bool → Int → Int → Int → Int → Int → Int → ByteArray → Option (Bool)
  | 0, _, _, _, _, _, _, _, _ => none
  | k + 1, x37, x518000, x518001, x518002, x518003, x518004, x518005, x518006 => if x37 = true then (some false) else (if x518000 = 1 then (dowelref19_right.j2 k false x518000 x518001 x518002 x518003 x518004 x518005 x518006) else (if x518000 = 2 then (dowelref19_right.j2 k false x518000 x518001 x518002 x518003 x518004 x518005 x518006) else (dowelref19_right.j2 k (!(x518002 == 0) || (!(x518003 == 0) || (!(x518004 == 0) || (!(x518005 == 0))))) x518000 x518001 x518002 x518003 x518004 x518005 x518006)))
def dowelref19_right.j2 : Nat → Bool → Int → Int → Int → Int → Int → Int → ByteArray → Option (Bool)
  | 0, _, _, _, _, _, _, _, _ => none
  | k + 1, x51, x518000, x518001, x518002, x518003, x518004, x518005, x518006 => if x51 = true then (some false) else (if x518000 = 12 then (dowelref19_right.j3 k true x518000 x518001 x518002 x518003 x518004 x518005 x518006) else (dowelref19_right.j3 k (x518000 == 14) x518000 x518001 x518002 x518003 x518004 x518005 x518006))
def dowelref19_right.j3 : Nat → Bool → Int → Int → Int → Int → Int → Int → ByteArray → Option (Bool)
  | 0, _, _, _, _, _, _, _, _ => none
  | k + 1, x59, x518000, x518001, x518002, x518003, x518004, x518005, x518006 => if x59 = true then ((dowelref04_Name.f k x518006).bind fun t521 => (if t521 = true then ((dowelbase_Own.f k x518006).bind fun t522 => (some t522)) else (some false))) else (some (x518006.toList == ([] : List UInt8)))
end
def dowelref19_right.f (k : Nat) (a0_0 : Int) (a0_1 : Int) (a0_2 : Int) (a0_3 : Int) (a0_4 : Int) (a0_5 : Int) (a0_6 : ByteArray) (a1 : Int) : Option (Bool) := if a0_0 < 0 then (dowelref19_right.j0 k a1 true a0_0 a0_1 a0_2 a0_3 a0_4 a0_5 a0_6) else (dowelref19_right.j0 k a1 (decide (a0_0 > 15)) a0_0 a0_1 a0_2 a0_3 a0_4 a0_5 a0_6)
theorem dowelref19_right.mono_l : ∀ k, (∀ y0 y1 y2 y3 y4 y5 y6 y7 y8, LeO (dowelref19_right.j0 k y0 y1 y2 y3 y4 y5 y6 y7 y8) (dowelref19_right.j0 (k + 1) y0 y1 y2 y3 y4 y5 y6 y7 y8)) ∧ (∀ y0 y1 y2 y3 y4 y5 y6 y7, LeO (dowelref19_right.j1 k y0 y1 y2 y3 y4 y5 y6 y7) (dowelref19_right.j1 (k + 1) y0 y1 y2 y3 y4 y5 y6 y7)) ∧ (∀ y0 y1 y2 y3 y4 y5 y6 y7, LeO (dowelref19_right.j2 k y0 y1 y2 y3 y4 y5 y6 y7) (dowelref19_right.j2 (k + 1) y0 y1 y2 y3 y4 y5 y6 y7)) ∧ (∀ y0 y1 y2 y3 y4 y5 y6 y7, LeO (dowelref19_right.j3 k y0 y1 y2 y3 y4 y5 y6 y7) (dowelref19_right.j3 (k + 1) y0 y1 y2 y3 y4 y5 y6 y7))
  | 0 => ⟨fun _ _ _ _ _ _ _ _ _ r h => by simp [dowelref19_right.j0] at h, fun _ _ _ _ _ _ _ _ r h => by simp [dowelref19_right.j1] at h, fun _ _ _ _ _ _ _ _ r h => by simp [dowelref19_right.j2] at h, fun _ _ _ _ _ _ _ _ r h => by simp [dowelref19_right.j3] at h⟩
  | k + 1 => by
    obtain ⟨ih0, ih1, ih2, ih3⟩ := dowelref19_right.mono_l k
    refine ⟨?_, ?_, ?_, ?_⟩
    · intro y0 y1 y2 y3 y4 y5 y6 y7 y8
      unfold dowelref19_right.j0
      repeat' first
      | (with_reducible exact ih0 _ _ _ _ _ _ _ _ _)
      | (with_reducible exact ih1 _ _ _ _ _ _ _ _)
      | (with_reducible exact ih2 _ _ _ _ _ _ _ _)
      | (with_reducible exact ih3 _ _ _ _ _ _ _ _)
      | (with_reducible exact dowelbase_Own.mono _ _)
      | (with_reducible exact dowelref04_Name.mono _ _)
      | (with_reducible exact LeO.refl _)
      | (with_reducible exact LeO.none _)
      | (with_reducible refine LeO.ite ?_ ?_)
      | (with_reducible refine LeO.bind ?_ (fun _ => ?_))
      | exact ih0 _ _ _ _ _ _ _ _ _
      | exact ih1 _ _ _ _ _ _ _ _
      | exact ih2 _ _ _ _ _ _ _ _
      | exact ih3 _ _ _ _ _ _ _ _
      | exact dowelbase_Own.mono _ _
      | exact dowelref04_Name.mono _ _
      | exact LeO.none _
      | refine LeO.ite ?_ ?_
      | refine LeO.bind ?_ (fun _ => ?_)
    · intro y0 y1 y2 y3 y4 y5 y6 y7
      unfold dowelref19_right.j1
      repeat' first
      | (with_reducible exact ih0 _ _ _ _ _ _ _ _ _)
      | (with_reducible exact ih1 _ _ _ _ _ _ _ _)
      | (with_reducible exact ih2 _ _ _ _ _ _ _ _)
      | (with_reducible exact ih3 _ _ _ _ _ _ _ _)
      | (with_reducible exact dowelbase_Own.mono _ _)
      | (with_reducible exact dowelref04_Name.mono _ _)
      | (with_reducible exact LeO.refl _)
      | (with_reducible exact LeO.none _)
      | (with_reducible refine LeO.ite ?_ ?_)
      | (with_reducible refine LeO.bind ?_ (fun _ => ?_))
      | exact ih0 _ _ _ _ _ _ _ _ _
      | exact ih1 _ _ _ _ _ _ _ _
      | exact ih2 _ _ _ _ _ _ _ _
      | exact ih3 _ _ _ _ _ _ _ _
      | exact dowelbase_Own.mono _ _
      | exact dowelref04_Name.mono _ _
      | exact LeO.none _
      | refine LeO.ite ?_ ?_
      | refine LeO.bind ?_ (fun _ => ?_)
    · intro y0 y1 y2 y3 y4 y5 y6 y7
      unfold dowelref19_right.j2
      repeat' first
      | (with_reducible exact ih0 _ _ _ _ _ _ _ _ _)
      | (with_reducible exact ih1 _ _ _ _ _ _ _ _)
      | (with_reducible exact ih2 _ _ _ _ _ _ _ _)
      | (with_reducible exact ih3 _ _ _ _ _ _ _ _)
      | (with_reducible exact dowelbase_Own.mono _ _)
      | (with_reducible exact dowelref04_Name.mono _ _)
      | (with_reducible exact LeO.refl _)
      | (with_reducible exact LeO.none _)
      | (with_reducible refine LeO.ite ?_ ?_)
      | (with_reducible refine LeO.bind ?_ (fun _ => ?_))
      | exact ih0 _ _ _ _ _ _ _ _ _
      | exact ih1 _ _ _ _ _ _ _ _
      | exact ih2 _ _ _ _ _ _ _ _
      | exact ih3 _ _ _ _ _ _ _ _
      | exact dowelbase_Own.mono _ _
      | exact dowelref04_Name.mono _ _
      | exact LeO.none _
      | refine LeO.ite ?_ ?_
      | refine LeO.bind ?_ (fun _ => ?_)
    · intro y0 y1 y2 y3 y4 y5 y6 y7
      unfold dowelref19_right.j3
      repeat' first
      | (with_reducible exact ih0 _ _ _ _ _ _ _ _ _)
      | (with_reducible exact ih1 _ _ _ _ _ _ _ _)
      | (with_reducible exact ih2 _ _ _ _ _ _ _ _)
      | (with_reducible exact ih3 _ _ _ _ _ _ _ _)
      | (with_reducible exact dowelbase_Own.mono _ _)
      | (with_reducible exact dowelref04_Name.mono _ _)
      | (with_reducible exact LeO.refl _)
      | (with_reducible exact LeO.none _)
      | (with_reducible refine LeO.ite ?_ ?_)
      | (with_reducible refine LeO.bind ?_ (fun _ => ?_))
      | exact ih0 _ _ _ _ _ _ _ _ _
      | exact ih1 _ _ _ _ _ _ _ _
      | exact ih2 _ _ _ _ _ _ _ _
      | exact ih3 _ _ _ _ _ _ _ _
      | exact dowelbase_Own.mono _ _
      | exact dowelref04_Name.mono _ _
      | exact LeO.none _
      | refine LeO.ite ?_ ?_
      | refine LeO.bind ?_ (fun _ => ?_)
theorem dowelref19_right.mono : ∀ a0 a1 a2 a3 a4 a5 a6 a7 k, LeO (dowelref19_right.f k a0 a1 a2 a3 a4 a5 a6 a7) (dowelref19_right.f (k + 1) a0 a1 a2 a3 a4 a5 a6 a7) := by
  intro a0 a1 a2 a3 a4 a5 a6 a7 k
  obtain ⟨ih0, ih1, ih2, ih3⟩ := dowelref19_right.mono_l k
  unfold dowelref19_right.f
  repeat' first
      | (with_reducible exact ih0 _ _ _ _ _ _ _ _ _)
      | (with_reducible exact ih1 _ _ _ _ _ _ _ _)
      | (with_reducible exact ih2 _ _ _ _ _ _ _ _)
      | (with_reducible exact ih3 _ _ _ _ _ _ _ _)
      | (with_reducible exact dowelbase_Own.mono _ _)
      | (with_reducible exact dowelref04_Name.mono _ _)
      | (with_reducible exact LeO.refl _)
      | (with_reducible exact LeO.none _)
      | (with_reducible refine LeO.ite ?_ ?_)
      | (with_reducible refine LeO.bind ?_ (fun _ => ?_))
      | exact ih0 _ _ _ _ _ _ _ _ _
      | exact ih1 _ _ _ _ _ _ _ _
      | exact ih2 _ _ _ _ _ _ _ _
      | exact ih3 _ _ _ _ _ _ _ _
      | exact dowelbase_Own.mono _ _
      | exact dowelref04_Name.mono _ _
      | exact LeO.none _
      | refine LeO.ite ?_ ?_
      | refine LeO.bind ?_ (fun _ => ?_)
set_option maxHeartbeats 8000000 in
set_option maxRecDepth 100000 in
theorem dowelref19_right.calls (k : Nat) (a0_0 : Int) (a0_1 : Int) (a0_2 : Int) (a0_3 : Int) (a0_4 : Int) (a0_5 : Int) (a0_6 : ByteArray) (a1 : Int) (r : Bool) (w : World) (h : dowelref19_right.f k a0_0 a0_1 a0_2 a0_3 a0_4 a0_5 a0_6 a1 = some r) :
    Calls Try.prog 100 #[.agg #[.int .i64 a0_0, .int .i64 a0_1, .int .u64 a0_2, .int .u64 a0_3, .int .u64 a0_4, .int .u64 a0_5, .string a0_6], .int .i64 a1] w fun e w' => e = .returned (.bool r) ∧ Below w.heap.size w w' := by
  have hu78 := Try.underlying78
  have hu76 := Try.underlying76
  have HB := Aside0.mk (Below.refl w.heap.size w)
  have H : (if a0_0 < 0 then (dowelref19_right.j0 k a1 true a0_0 a0_1 a0_2 a0_3 a0_4 a0_5 a0_6) else (dowelref19_right.j0 k a1 (decide (a0_0 > 15)) a0_0 a0_1 a0_2 a0_3 a0_4 a0_5 a0_6)) = some r := h
  clear h
  have HC3 := Aside0.mk H
  clear H
  go_enter Try.func100, Try.ntmps100
  go_upto_region 1 with (first | ((with_reducible refine gate_dst (N := 2) rfl ?_); refine box_event ?hg (N := 2) ?hd (cs := #[.int .i64 a0_0, .int .i64 a0_1, .int .u64 a0_2, .int .u64 a0_3, .int .u64 a0_4, .int .u64 a0_5, .string a0_6]) (t := 78) ?hr ?_; (case hd => rfl); (case hg => rfl); (case hr => first | (go_simp; done) | (go_simp; rfl)); intro gb517 hg w4 hbox hb; have n0_ := Aside0.mk (below_step (by repeat (first | (with_reducible first | exact HB.out | apply below_alloc | apply pw_below_drewN | apply below_drew1) | exact HB.out)) hb); have n1_ := Aside0.mk (hbox); have n2_ := Aside0.mk ((by rw [hg]; exact (below_size (by repeat (first | (with_reducible first | exact HB.out | apply below_alloc | apply pw_below_drewN | apply below_drew1) | exact HB.out))) : w.heap.size ≤ gb517)); have n3_ := Aside0.mk ((by rw [hg]; exact (below_size (by repeat (first | (with_reducible first | exact HB.out | apply below_alloc | apply pw_below_drewN | apply below_drew1) | exact HB.out))) : w.heap.size ≤ gb517)); clear HB; have HB := n0_; have BK517 := n1_; have GW517 := n2_; have GE517 := n3_; clear n0_ n1_ n2_ n3_; clear hb hbox hg))
  (try simp only [Act.put, List.setIfInBounds_toArray, List.set_cons_zero, List.set_cons_succ])
  go_cut [12] (fun v12 wc => ∃ (kq : Nat) (x12_2 : Bool), v12 = .bool x12_2 ∧ Aside0 (dowelref19_right.j0 kq a1 x12_2 a0_0 a0_1 a0_2 a0_3 a0_4 a0_5 a0_6 = some r) ∧ Aside0 (kq ≤ k) ∧ Aside0 (wc.heap[gb517]? = some (.cells #[.int .i64 a0_0, .int .i64 a0_1, .int .u64 a0_2, .int .u64 a0_3, .int .u64 a0_4, .int .u64 a0_5, .string a0_6] 78 (0, 0))) ∧ Aside0 (Below w.heap.size w wc))
  case first =>
    have H := HC3.out
    clear HC3
    by_cases c5 : a0_0 < 0
    · rw [if_pos c5] at H
      have c5b0 : decide (a0_0 < 0) = true := decide_eq_true c5
      clear c5
      (first | rw [c5b0] | (simp only [i64_w, i32_w]; rw [c5b0]) | skip)
      have H' := Aside0.mk H
      clear H
      have hcz6_0 : w4.cell? ⟨gb517, 0, none⟩ = some (.int .i64 a0_0) := (blk_cell BK517.out 0).trans rfl
      have hcz6_1 : w4.cell? ⟨gb517, 1, none⟩ = some (.int .i64 a0_1) := (blk_cell BK517.out 1).trans rfl
      have hcz6_2 : w4.cell? ⟨gb517, 2, none⟩ = some (.int .u64 a0_2) := (blk_cell BK517.out 2).trans rfl
      have hcz6_3 : w4.cell? ⟨gb517, 3, none⟩ = some (.int .u64 a0_3) := (blk_cell BK517.out 3).trans rfl
      have hcz6_4 : w4.cell? ⟨gb517, 4, none⟩ = some (.int .u64 a0_4) := (blk_cell BK517.out 4).trans rfl
      have hcz6_5 : w4.cell? ⟨gb517, 5, none⟩ = some (.int .u64 a0_5) := (blk_cell BK517.out 5).trans rfl
      have hcz6_6 : w4.cell? ⟨gb517, 6, none⟩ = some (.string a0_6) := (blk_cell BK517.out 6).trans rfl
      have hfz6_0 := blk_frozen BK517.out 0
      have hfz6_1 := blk_frozen BK517.out 1
      have hfz6_2 := blk_frozen BK517.out 2
      have hfz6_3 := blk_frozen BK517.out 3
      have hfz6_4 := blk_frozen BK517.out 4
      have hfz6_5 := blk_frozen BK517.out 5
      have hfz6_6 := blk_frozen BK517.out 6
      go_wp2
      go_meet
      case rel => exact ⟨_, (true), (by first | rfl | (simp; done) | (simp [*]; done)), H', ⟨by first | omega | exact Nat.le_refl _⟩, ⟨by (with_reducible repeat (first | refine blk_drewN ?_ _ | refine blk_drew ?_ | refine blk_alloc ?_ _)); exact BK517.out⟩, ⟨by repeat (first | (with_reducible first | exact HB.out | apply below_alloc | apply pw_below_drewN | apply below_drew1 | refine below_set ?_ GE517.out) | exact HB.out)⟩⟩
    · rw [if_neg c5] at H
      have c5b0 : decide (a0_0 < 0) = false := decide_eq_false c5
      clear c5
      (first | rw [c5b0] | (simp only [i64_w, i32_w]; rw [c5b0]) | skip)
      have H' := Aside0.mk H
      clear H
      have hcz7_0 : w4.cell? ⟨gb517, 0, none⟩ = some (.int .i64 a0_0) := (blk_cell BK517.out 0).trans rfl
      have hcz7_1 : w4.cell? ⟨gb517, 1, none⟩ = some (.int .i64 a0_1) := (blk_cell BK517.out 1).trans rfl
      have hcz7_2 : w4.cell? ⟨gb517, 2, none⟩ = some (.int .u64 a0_2) := (blk_cell BK517.out 2).trans rfl
      have hcz7_3 : w4.cell? ⟨gb517, 3, none⟩ = some (.int .u64 a0_3) := (blk_cell BK517.out 3).trans rfl
      have hcz7_4 : w4.cell? ⟨gb517, 4, none⟩ = some (.int .u64 a0_4) := (blk_cell BK517.out 4).trans rfl
      have hcz7_5 : w4.cell? ⟨gb517, 5, none⟩ = some (.int .u64 a0_5) := (blk_cell BK517.out 5).trans rfl
      have hcz7_6 : w4.cell? ⟨gb517, 6, none⟩ = some (.string a0_6) := (blk_cell BK517.out 6).trans rfl
      have hfz7_0 := blk_frozen BK517.out 0
      have hfz7_1 := blk_frozen BK517.out 1
      have hfz7_2 := blk_frozen BK517.out 2
      have hfz7_3 := blk_frozen BK517.out 3
      have hfz7_4 := blk_frozen BK517.out 4
      have hfz7_5 := blk_frozen BK517.out 5
      have hfz7_6 := blk_frozen BK517.out 6
      go_wp2
      go_meet
      case rel => exact ⟨_, (decide (a0_0 > 15)), (by first | rfl | (simp; done) | (simp [*]; done)), H', ⟨by first | omega | exact Nat.le_refl _⟩, ⟨by (with_reducible repeat (first | refine blk_drewN ?_ _ | refine blk_drew ?_ | refine blk_alloc ?_ _)); exact BK517.out⟩, ⟨by repeat (first | (with_reducible first | exact HB.out | apply below_alloc | apply pw_below_drewN | apply below_drew1 | refine below_set ?_ GE517.out) | exact HB.out)⟩⟩
  case rest =>
    clear HC3
    try clear c1
    try clear p2
    try clear c5
    try clear c5b0
    try clear hcz6_0
    try clear hcz6_1
    try clear hcz6_2
    try clear hcz6_3
    try clear hcz6_4
    try clear hcz6_5
    try clear hcz6_6
    try clear hcz7_0
    try clear hcz7_1
    try clear hcz7_2
    try clear hcz7_3
    try clear hcz7_4
    try clear hcz7_5
    try clear hcz7_6
    try clear hfz6_0
    try clear hfz6_1
    try clear hfz6_2
    try clear hfz6_3
    try clear hfz6_4
    try clear hfz6_5
    try clear hfz6_6
    try clear hfz7_0
    try clear hfz7_1
    try clear hfz7_2
    try clear hfz7_3
    try clear hfz7_4
    try clear hfz7_5
    try clear hfz7_6
    obtain ⟨kq, x12_2, rfl, HA, HJ2, BK517, HB⟩ := hcut
    cases kq with
    | zero => exact absurd HA.out (by simp [dowelref19_right.j0])
    | succ kj2 =>
      have H := HA.out
      clear HA
      simp only [dowelref19_right.j0] at H
      by_cases c8 : x12_2 = true
      · subst c8
        have H1 : (some false) = some r := by rw [if_pos rfl] at H; exact H
        clear H
        have H := H1
        clear H1
        obtain rfl := Option.some.inj H
        go_wp2
        go_ret
        exact ⟨by first | rfl | (simp [errW_none, errW_some] <;> rfl) | (simp [*, errW_none, errW_some] <;> rfl), by repeat (first | (with_reducible first | exact HB.out | apply below_alloc | apply pw_below_drewN | apply below_drew1 | refine below_set ?_ GE517.out) | exact HB.out)⟩
      · replace c8 := Bool.eq_false_iff.mpr c8
        subst c8
        have H1 : ((dowelref19_far.f a0_0).bind fun t518 => (if t518 = true then (if a0_1 < 0 then (dowelref19_right.j1 kj2 true a0_0 a0_1 a0_2 a0_3 a0_4 a0_5 a0_6) else (if a0_1 ≥ a1 then (dowelref19_right.j1 kj2 true a0_0 a0_1 a0_2 a0_3 a0_4 a0_5 a0_6) else ((dowelref19_far.f a0_0).bind fun t519 => (if t519 = true then (dowelref19_right.j1 kj2 false a0_0 a0_1 a0_2 a0_3 a0_4 a0_5 a0_6) else (dowelref19_right.j1 kj2 (a0_1 != 0) a0_0 a0_1 a0_2 a0_3 a0_4 a0_5 a0_6))))) else ((dowelref19_far.f a0_0).bind fun t520 => (if t520 = true then (dowelref19_right.j1 kj2 false a0_0 a0_1 a0_2 a0_3 a0_4 a0_5 a0_6) else (dowelref19_right.j1 kj2 (a0_1 != 0) a0_0 a0_1 a0_2 a0_3 a0_4 a0_5 a0_6))))) = some r := by rw [if_neg (show ¬ (false = true) by decide)] at H; exact H
        clear H
        have H := H1
        clear H1
        have HC9 := Aside0.mk H
        clear H
        go_upto_region 3 with (fail)
        go_cut [37] (fun v37 wc => ∃ (kq : Nat) (x37_8 : Bool), v37 = .bool x37_8 ∧ Aside0 (dowelref19_right.j1 kq x37_8 a0_0 a0_1 a0_2 a0_3 a0_4 a0_5 a0_6 = some r) ∧ Aside0 (kq ≤ kj2) ∧ Aside0 (wc.heap[gb517]? = some (.cells #[.int .i64 a0_0, .int .i64 a0_1, .int .u64 a0_2, .int .u64 a0_3, .int .u64 a0_4, .int .u64 a0_5, .string a0_6] 78 (0, 0))) ∧ Aside0 (Below w.heap.size w wc))
        case first =>
          have H := HC9.out
          clear HC9
          replace H := Option.bind_eq_some_iff.mp H
          obtain ⟨t518, A100, H⟩ := H
          replace H : (if t518 = true then (if a0_1 < 0 then (dowelref19_right.j1 kj2 true a0_0 a0_1 a0_2 a0_3 a0_4 a0_5 a0_6) else (if a0_1 ≥ a1 then (dowelref19_right.j1 kj2 true a0_0 a0_1 a0_2 a0_3 a0_4 a0_5 a0_6) else ((dowelref19_far.f a0_0).bind fun t519 => (if t519 = true then (dowelref19_right.j1 kj2 false a0_0 a0_1 a0_2 a0_3 a0_4 a0_5 a0_6) else (dowelref19_right.j1 kj2 (a0_1 != 0) a0_0 a0_1 a0_2 a0_3 a0_4 a0_5 a0_6))))) else ((dowelref19_far.f a0_0).bind fun t520 => (if t520 = true then (dowelref19_right.j1 kj2 false a0_0 a0_1 a0_2 a0_3 a0_4 a0_5 a0_6) else (dowelref19_right.j1 kj2 (a0_1 != 0) a0_0 a0_1 a0_2 a0_3 a0_4 a0_5 a0_6)))) = some r := H
          have A10 := Aside0.mk A100
          clear A100
          by_cases c11 : t518 = true
          · subst c11
            have H1 : (if a0_1 < 0 then (dowelref19_right.j1 kj2 true a0_0 a0_1 a0_2 a0_3 a0_4 a0_5 a0_6) else (if a0_1 ≥ a1 then (dowelref19_right.j1 kj2 true a0_0 a0_1 a0_2 a0_3 a0_4 a0_5 a0_6) else ((dowelref19_far.f a0_0).bind fun t519 => (if t519 = true then (dowelref19_right.j1 kj2 false a0_0 a0_1 a0_2 a0_3 a0_4 a0_5 a0_6) else (dowelref19_right.j1 kj2 (a0_1 != 0) a0_0 a0_1 a0_2 a0_3 a0_4 a0_5 a0_6))))) = some r := by rw [if_pos rfl] at H; exact H
            clear H
            have H := H1
            clear H1
            by_cases c12 : a0_1 < 0
            · rw [if_pos c12] at H
              have c12b0 : decide (a0_1 < 0) = true := decide_eq_true c12
              clear c12
              (first | rw [c12b0] | (simp only [i64_w, i32_w]; rw [c12b0]) | skip)
              have H' := Aside0.mk H
              clear H
              have hcz13_0 : wc.cell? ⟨gb517, 0, none⟩ = some (.int .i64 a0_0) := (blk_cell BK517.out 0).trans rfl
              have hcz13_1 : wc.cell? ⟨gb517, 1, none⟩ = some (.int .i64 a0_1) := (blk_cell BK517.out 1).trans rfl
              have hcz13_2 : wc.cell? ⟨gb517, 2, none⟩ = some (.int .u64 a0_2) := (blk_cell BK517.out 2).trans rfl
              have hcz13_3 : wc.cell? ⟨gb517, 3, none⟩ = some (.int .u64 a0_3) := (blk_cell BK517.out 3).trans rfl
              have hcz13_4 : wc.cell? ⟨gb517, 4, none⟩ = some (.int .u64 a0_4) := (blk_cell BK517.out 4).trans rfl
              have hcz13_5 : wc.cell? ⟨gb517, 5, none⟩ = some (.int .u64 a0_5) := (blk_cell BK517.out 5).trans rfl
              have hcz13_6 : wc.cell? ⟨gb517, 6, none⟩ = some (.string a0_6) := (blk_cell BK517.out 6).trans rfl
              have hfz13_0 := blk_frozen BK517.out 0
              have hfz13_1 := blk_frozen BK517.out 1
              have hfz13_2 := blk_frozen BK517.out 2
              have hfz13_3 := blk_frozen BK517.out 3
              have hfz13_4 := blk_frozen BK517.out 4
              have hfz13_5 := blk_frozen BK517.out 5
              have hfz13_6 := blk_frozen BK517.out 6
              go_wp2_with (first | ((with_reducible refine gate_callee (f := 111) rfl ?_); refine goesL_ (some 15) rfl rfl Try.func111 (by kernel_rfl) rfl #[.int .i64 a0_0] rfl (by (try simp only [List.map_toArray, List.map_cons, List.map_nil]); first | done | rfl | (simp only [List.length_drop, List.length_take]; rfl)) ?_; (with_reducible refine (dowelref19_far.calls a0_0 true _ A10.out).mono ?_); rintro e w' ⟨rfl, ⟨nd, rfl⟩⟩; refine ⟨_, rfl, ?_⟩))
              go_meet
              case rel => exact ⟨_, (true), (by first | rfl | (simp; done) | (simp [*]; done)), H', ⟨by have := HJ2.out; first | omega | exact Nat.le_refl _⟩, ⟨by (with_reducible repeat (first | refine blk_drewN ?_ _ | refine blk_drew ?_ | refine blk_alloc ?_ _)); exact BK517.out⟩, ⟨by repeat (first | (with_reducible first | exact HB.out | apply below_alloc | apply pw_below_drewN | apply below_drew1 | refine below_set ?_ GE517.out) | exact HB.out)⟩⟩
            · rw [if_neg c12] at H
              have c12b0 : decide (a0_1 < 0) = false := decide_eq_false c12
              clear c12
              (first | rw [c12b0] | (simp only [i64_w, i32_w]; rw [c12b0]) | skip)
              by_cases c14 : a0_1 ≥ a1
              · rw [if_pos c14] at H
                have c14b0 : decide (a1 ≤ a0_1) = true := decide_eq_true c14
                clear c14
                have H' := Aside0.mk H
                clear H
                have hcz15_0 : wc.cell? ⟨gb517, 0, none⟩ = some (.int .i64 a0_0) := (blk_cell BK517.out 0).trans rfl
                have hcz15_1 : wc.cell? ⟨gb517, 1, none⟩ = some (.int .i64 a0_1) := (blk_cell BK517.out 1).trans rfl
                have hcz15_2 : wc.cell? ⟨gb517, 2, none⟩ = some (.int .u64 a0_2) := (blk_cell BK517.out 2).trans rfl
                have hcz15_3 : wc.cell? ⟨gb517, 3, none⟩ = some (.int .u64 a0_3) := (blk_cell BK517.out 3).trans rfl
                have hcz15_4 : wc.cell? ⟨gb517, 4, none⟩ = some (.int .u64 a0_4) := (blk_cell BK517.out 4).trans rfl
                have hcz15_5 : wc.cell? ⟨gb517, 5, none⟩ = some (.int .u64 a0_5) := (blk_cell BK517.out 5).trans rfl
                have hcz15_6 : wc.cell? ⟨gb517, 6, none⟩ = some (.string a0_6) := (blk_cell BK517.out 6).trans rfl
                have hfz15_0 := blk_frozen BK517.out 0
                have hfz15_1 := blk_frozen BK517.out 1
                have hfz15_2 := blk_frozen BK517.out 2
                have hfz15_3 := blk_frozen BK517.out 3
                have hfz15_4 := blk_frozen BK517.out 4
                have hfz15_5 := blk_frozen BK517.out 5
                have hfz15_6 := blk_frozen BK517.out 6
                go_wp2_with (first | ((with_reducible refine gate_callee (f := 111) rfl ?_); refine goesL_ (some 15) rfl rfl Try.func111 (by kernel_rfl) rfl #[.int .i64 a0_0] rfl (by (try simp only [List.map_toArray, List.map_cons, List.map_nil]); first | done | rfl | (simp only [List.length_drop, List.length_take]; rfl)) ?_; (with_reducible refine (dowelref19_far.calls a0_0 true _ A10.out).mono ?_); rintro e w' ⟨rfl, ⟨nd, rfl⟩⟩; refine ⟨_, rfl, ?_⟩))
                go_meet
                case rel => exact ⟨_, (true), (by first | rfl | (simp; done) | (simp [*]; done)), H', ⟨by have := HJ2.out; first | omega | exact Nat.le_refl _⟩, ⟨by (with_reducible repeat (first | refine blk_drewN ?_ _ | refine blk_drew ?_ | refine blk_alloc ?_ _)); exact BK517.out⟩, ⟨by repeat (first | (with_reducible first | exact HB.out | apply below_alloc | apply pw_below_drewN | apply below_drew1 | refine below_set ?_ GE517.out) | exact HB.out)⟩⟩
              · rw [if_neg c14] at H
                have c14b0 : decide (a1 ≤ a0_1) = false := decide_eq_false c14
                clear c14
                replace H := Option.bind_eq_some_iff.mp H
                obtain ⟨t519, A160, H⟩ := H
                replace H : (if t519 = true then (dowelref19_right.j1 kj2 false a0_0 a0_1 a0_2 a0_3 a0_4 a0_5 a0_6) else (dowelref19_right.j1 kj2 (a0_1 != 0) a0_0 a0_1 a0_2 a0_3 a0_4 a0_5 a0_6)) = some r := H
                have A16 := Aside0.mk A160
                clear A160
                by_cases c17 : t519 = true
                · subst c17
                  have H1 : (dowelref19_right.j1 kj2 false a0_0 a0_1 a0_2 a0_3 a0_4 a0_5 a0_6) = some r := by rw [if_pos rfl] at H; exact H
                  clear H
                  have H := H1
                  clear H1
                  have H' := Aside0.mk H
                  clear H
                  have hcz18_0 : wc.cell? ⟨gb517, 0, none⟩ = some (.int .i64 a0_0) := (blk_cell BK517.out 0).trans rfl
                  have hcz18_1 : wc.cell? ⟨gb517, 1, none⟩ = some (.int .i64 a0_1) := (blk_cell BK517.out 1).trans rfl
                  have hcz18_2 : wc.cell? ⟨gb517, 2, none⟩ = some (.int .u64 a0_2) := (blk_cell BK517.out 2).trans rfl
                  have hcz18_3 : wc.cell? ⟨gb517, 3, none⟩ = some (.int .u64 a0_3) := (blk_cell BK517.out 3).trans rfl
                  have hcz18_4 : wc.cell? ⟨gb517, 4, none⟩ = some (.int .u64 a0_4) := (blk_cell BK517.out 4).trans rfl
                  have hcz18_5 : wc.cell? ⟨gb517, 5, none⟩ = some (.int .u64 a0_5) := (blk_cell BK517.out 5).trans rfl
                  have hcz18_6 : wc.cell? ⟨gb517, 6, none⟩ = some (.string a0_6) := (blk_cell BK517.out 6).trans rfl
                  have hfz18_0 := blk_frozen BK517.out 0
                  have hfz18_1 := blk_frozen BK517.out 1
                  have hfz18_2 := blk_frozen BK517.out 2
                  have hfz18_3 := blk_frozen BK517.out 3
                  have hfz18_4 := blk_frozen BK517.out 4
                  have hfz18_5 := blk_frozen BK517.out 5
                  have hfz18_6 := blk_frozen BK517.out 6
                  go_wp2_with (first | ((with_reducible refine gate_callee (f := 111) rfl ?_); refine goesL_ (some 15) rfl rfl Try.func111 (by kernel_rfl) rfl #[.int .i64 a0_0] rfl (by (try simp only [List.map_toArray, List.map_cons, List.map_nil]); first | done | rfl | (simp only [List.length_drop, List.length_take]; rfl)) ?_; (with_reducible refine (dowelref19_far.calls a0_0 true _ A10.out).mono ?_); rintro e w' ⟨rfl, ⟨nd, rfl⟩⟩; refine ⟨_, rfl, ?_⟩) | (go_at_call 111; (with_reducible refine (dowelref19_far.calls a0_0 true _ A16.out).mono ?_); rintro e w' ⟨rfl, ⟨nd, rfl⟩⟩))
                  go_meet
                  case rel => exact ⟨_, (false), (by first | rfl | (simp; done) | (simp [*]; done)), H', ⟨by have := HJ2.out; first | omega | exact Nat.le_refl _⟩, ⟨by (with_reducible repeat (first | refine blk_drewN ?_ _ | refine blk_drew ?_ | refine blk_alloc ?_ _)); exact BK517.out⟩, ⟨by repeat (first | (with_reducible first | exact HB.out | apply below_alloc | apply pw_below_drewN | apply below_drew1 | refine below_set ?_ GE517.out) | exact HB.out)⟩⟩
                · replace c17 := Bool.eq_false_iff.mpr c17
                  subst c17
                  have H1 : (dowelref19_right.j1 kj2 (a0_1 != 0) a0_0 a0_1 a0_2 a0_3 a0_4 a0_5 a0_6) = some r := by rw [if_neg (show ¬ (false = true) by decide)] at H; exact H
                  clear H
                  have H := H1
                  clear H1
                  have H' := Aside0.mk H
                  clear H
                  have hcz19_0 : wc.cell? ⟨gb517, 0, none⟩ = some (.int .i64 a0_0) := (blk_cell BK517.out 0).trans rfl
                  have hcz19_1 : wc.cell? ⟨gb517, 1, none⟩ = some (.int .i64 a0_1) := (blk_cell BK517.out 1).trans rfl
                  have hcz19_2 : wc.cell? ⟨gb517, 2, none⟩ = some (.int .u64 a0_2) := (blk_cell BK517.out 2).trans rfl
                  have hcz19_3 : wc.cell? ⟨gb517, 3, none⟩ = some (.int .u64 a0_3) := (blk_cell BK517.out 3).trans rfl
                  have hcz19_4 : wc.cell? ⟨gb517, 4, none⟩ = some (.int .u64 a0_4) := (blk_cell BK517.out 4).trans rfl
                  have hcz19_5 : wc.cell? ⟨gb517, 5, none⟩ = some (.int .u64 a0_5) := (blk_cell BK517.out 5).trans rfl
                  have hcz19_6 : wc.cell? ⟨gb517, 6, none⟩ = some (.string a0_6) := (blk_cell BK517.out 6).trans rfl
                  have hfz19_0 := blk_frozen BK517.out 0
                  have hfz19_1 := blk_frozen BK517.out 1
                  have hfz19_2 := blk_frozen BK517.out 2
                  have hfz19_3 := blk_frozen BK517.out 3
                  have hfz19_4 := blk_frozen BK517.out 4
                  have hfz19_5 := blk_frozen BK517.out 5
                  have hfz19_6 := blk_frozen BK517.out 6
                  go_wp2_with (first | ((with_reducible refine gate_callee (f := 111) rfl ?_); refine goesL_ (some 15) rfl rfl Try.func111 (by kernel_rfl) rfl #[.int .i64 a0_0] rfl (by (try simp only [List.map_toArray, List.map_cons, List.map_nil]); first | done | rfl | (simp only [List.length_drop, List.length_take]; rfl)) ?_; (with_reducible refine (dowelref19_far.calls a0_0 true _ A10.out).mono ?_); rintro e w' ⟨rfl, ⟨nd, rfl⟩⟩; refine ⟨_, rfl, ?_⟩) | (go_at_call 111; (with_reducible refine (dowelref19_far.calls a0_0 false _ A16.out).mono ?_); rintro e w' ⟨rfl, ⟨nd, rfl⟩⟩))
                  go_meet
                  case rel => exact ⟨_, ((a0_1 != 0)), (by first | rfl | (simp; done) | (simp [*]; done)), H', ⟨by have := HJ2.out; first | omega | exact Nat.le_refl _⟩, ⟨by (with_reducible repeat (first | refine blk_drewN ?_ _ | refine blk_drew ?_ | refine blk_alloc ?_ _)); exact BK517.out⟩, ⟨by repeat (first | (with_reducible first | exact HB.out | apply below_alloc | apply pw_below_drewN | apply below_drew1 | refine below_set ?_ GE517.out) | exact HB.out)⟩⟩
          · replace c11 := Bool.eq_false_iff.mpr c11
            subst c11
            have H1 : ((dowelref19_far.f a0_0).bind fun t520 => (if t520 = true then (dowelref19_right.j1 kj2 false a0_0 a0_1 a0_2 a0_3 a0_4 a0_5 a0_6) else (dowelref19_right.j1 kj2 (a0_1 != 0) a0_0 a0_1 a0_2 a0_3 a0_4 a0_5 a0_6))) = some r := by rw [if_neg (show ¬ (false = true) by decide)] at H; exact H
            clear H
            have H := H1
            clear H1
            replace H := Option.bind_eq_some_iff.mp H
            obtain ⟨t520, A200, H⟩ := H
            replace H : (if t520 = true then (dowelref19_right.j1 kj2 false a0_0 a0_1 a0_2 a0_3 a0_4 a0_5 a0_6) else (dowelref19_right.j1 kj2 (a0_1 != 0) a0_0 a0_1 a0_2 a0_3 a0_4 a0_5 a0_6)) = some r := H
            have A20 := Aside0.mk A200
            clear A200
            by_cases c21 : t520 = true
            · subst c21
              have H1 : (dowelref19_right.j1 kj2 false a0_0 a0_1 a0_2 a0_3 a0_4 a0_5 a0_6) = some r := by rw [if_pos rfl] at H; exact H
              clear H
              have H := H1
              clear H1
              have H' := Aside0.mk H
              clear H
              have hcz22_0 : wc.cell? ⟨gb517, 0, none⟩ = some (.int .i64 a0_0) := (blk_cell BK517.out 0).trans rfl
              have hcz22_1 : wc.cell? ⟨gb517, 1, none⟩ = some (.int .i64 a0_1) := (blk_cell BK517.out 1).trans rfl
              have hcz22_2 : wc.cell? ⟨gb517, 2, none⟩ = some (.int .u64 a0_2) := (blk_cell BK517.out 2).trans rfl
              have hcz22_3 : wc.cell? ⟨gb517, 3, none⟩ = some (.int .u64 a0_3) := (blk_cell BK517.out 3).trans rfl
              have hcz22_4 : wc.cell? ⟨gb517, 4, none⟩ = some (.int .u64 a0_4) := (blk_cell BK517.out 4).trans rfl
              have hcz22_5 : wc.cell? ⟨gb517, 5, none⟩ = some (.int .u64 a0_5) := (blk_cell BK517.out 5).trans rfl
              have hcz22_6 : wc.cell? ⟨gb517, 6, none⟩ = some (.string a0_6) := (blk_cell BK517.out 6).trans rfl
              have hfz22_0 := blk_frozen BK517.out 0
              have hfz22_1 := blk_frozen BK517.out 1
              have hfz22_2 := blk_frozen BK517.out 2
              have hfz22_3 := blk_frozen BK517.out 3
              have hfz22_4 := blk_frozen BK517.out 4
              have hfz22_5 := blk_frozen BK517.out 5
              have hfz22_6 := blk_frozen BK517.out 6
              go_wp2_with (first | ((with_reducible refine gate_callee (f := 111) rfl ?_); refine goesL_ (some 15) rfl rfl Try.func111 (by kernel_rfl) rfl #[.int .i64 a0_0] rfl (by (try simp only [List.map_toArray, List.map_cons, List.map_nil]); first | done | rfl | (simp only [List.length_drop, List.length_take]; rfl)) ?_; (with_reducible refine (dowelref19_far.calls a0_0 false _ A10.out).mono ?_); rintro e w' ⟨rfl, ⟨nd, rfl⟩⟩; refine ⟨_, rfl, ?_⟩) | (go_at_call 111; (with_reducible refine (dowelref19_far.calls a0_0 true _ A20.out).mono ?_); rintro e w' ⟨rfl, ⟨nd, rfl⟩⟩))
              go_meet
              case rel => exact ⟨_, (false), (by first | rfl | (simp; done) | (simp [*]; done)), H', ⟨by have := HJ2.out; first | omega | exact Nat.le_refl _⟩, ⟨by (with_reducible repeat (first | refine blk_drewN ?_ _ | refine blk_drew ?_ | refine blk_alloc ?_ _)); exact BK517.out⟩, ⟨by repeat (first | (with_reducible first | exact HB.out | apply below_alloc | apply pw_below_drewN | apply below_drew1 | refine below_set ?_ GE517.out) | exact HB.out)⟩⟩
            · replace c21 := Bool.eq_false_iff.mpr c21
              subst c21
              have H1 : (dowelref19_right.j1 kj2 (a0_1 != 0) a0_0 a0_1 a0_2 a0_3 a0_4 a0_5 a0_6) = some r := by rw [if_neg (show ¬ (false = true) by decide)] at H; exact H
              clear H
              have H := H1
              clear H1
              have H' := Aside0.mk H
              clear H
              have hcz23_0 : wc.cell? ⟨gb517, 0, none⟩ = some (.int .i64 a0_0) := (blk_cell BK517.out 0).trans rfl
              have hcz23_1 : wc.cell? ⟨gb517, 1, none⟩ = some (.int .i64 a0_1) := (blk_cell BK517.out 1).trans rfl
              have hcz23_2 : wc.cell? ⟨gb517, 2, none⟩ = some (.int .u64 a0_2) := (blk_cell BK517.out 2).trans rfl
              have hcz23_3 : wc.cell? ⟨gb517, 3, none⟩ = some (.int .u64 a0_3) := (blk_cell BK517.out 3).trans rfl
              have hcz23_4 : wc.cell? ⟨gb517, 4, none⟩ = some (.int .u64 a0_4) := (blk_cell BK517.out 4).trans rfl
              have hcz23_5 : wc.cell? ⟨gb517, 5, none⟩ = some (.int .u64 a0_5) := (blk_cell BK517.out 5).trans rfl
              have hcz23_6 : wc.cell? ⟨gb517, 6, none⟩ = some (.string a0_6) := (blk_cell BK517.out 6).trans rfl
              have hfz23_0 := blk_frozen BK517.out 0
              have hfz23_1 := blk_frozen BK517.out 1
              have hfz23_2 := blk_frozen BK517.out 2
              have hfz23_3 := blk_frozen BK517.out 3
              have hfz23_4 := blk_frozen BK517.out 4
              have hfz23_5 := blk_frozen BK517.out 5
              have hfz23_6 := blk_frozen BK517.out 6
              go_wp2_with (first | ((with_reducible refine gate_callee (f := 111) rfl ?_); refine goesL_ (some 15) rfl rfl Try.func111 (by kernel_rfl) rfl #[.int .i64 a0_0] rfl (by (try simp only [List.map_toArray, List.map_cons, List.map_nil]); first | done | rfl | (simp only [List.length_drop, List.length_take]; rfl)) ?_; (with_reducible refine (dowelref19_far.calls a0_0 false _ A10.out).mono ?_); rintro e w' ⟨rfl, ⟨nd, rfl⟩⟩; refine ⟨_, rfl, ?_⟩) | (go_at_call 111; (with_reducible refine (dowelref19_far.calls a0_0 false _ A20.out).mono ?_); rintro e w' ⟨rfl, ⟨nd, rfl⟩⟩))
              go_meet
              case rel => exact ⟨_, ((a0_1 != 0)), (by first | rfl | (simp; done) | (simp [*]; done)), H', ⟨by have := HJ2.out; first | omega | exact Nat.le_refl _⟩, ⟨by (with_reducible repeat (first | refine blk_drewN ?_ _ | refine blk_drew ?_ | refine blk_alloc ?_ _)); exact BK517.out⟩, ⟨by repeat (first | (with_reducible first | exact HB.out | apply below_alloc | apply pw_below_drewN | apply below_drew1 | refine below_set ?_ GE517.out) | exact HB.out)⟩⟩
        case rest =>
          clear HC9
          try clear c1
          try clear c2
          try clear p2
          try clear c5
          try clear c5b0
          try clear c8
          try clear c10
          try clear c11
          try clear c12
          try clear c12b0
          try clear c14
          try clear c14b0
          try clear c17
          try clear c21
          try clear hcz13_0
          try clear hcz13_1
          try clear hcz13_2
          try clear hcz13_3
          try clear hcz13_4
          try clear hcz13_5
          try clear hcz13_6
          try clear hcz15_0
          try clear hcz15_1
          try clear hcz15_2
          try clear hcz15_3
          try clear hcz15_4
          try clear hcz15_5
          try clear hcz15_6
          try clear hcz18_0
          try clear hcz18_1
          try clear hcz18_2
          try clear hcz18_3
          try clear hcz18_4
          try clear hcz18_5
          try clear hcz18_6
          try clear hcz19_0
          try clear hcz19_1
          try clear hcz19_2
          try clear hcz19_3
          try clear hcz19_4
          try clear hcz19_5
          try clear hcz19_6
          try clear hcz22_0
          try clear hcz22_1
          try clear hcz22_2
          try clear hcz22_3
          try clear hcz22_4
          try clear hcz22_5
          try clear hcz22_6
          try clear hcz23_0
          try clear hcz23_1
          try clear hcz23_2
          try clear hcz23_3
          try clear hcz23_4
          try clear hcz23_5
          try clear hcz23_6
          try clear hcz6_0
          try clear hcz6_1
          try clear hcz6_2
          try clear hcz6_3
          try clear hcz6_4
          try clear hcz6_5
          try clear hcz6_6
          try clear hcz7_0
          try clear hcz7_1
          try clear hcz7_2
          try clear hcz7_3
          try clear hcz7_4
          try clear hcz7_5
          try clear hcz7_6
          try clear hfz13_0
          try clear hfz13_1
          try clear hfz13_2
          try clear hfz13_3
          try clear hfz13_4
          try clear hfz13_5
          try clear hfz13_6
          try clear hfz15_0
          try clear hfz15_1
          try clear hfz15_2
          try clear hfz15_3
          try clear hfz15_4
          try clear hfz15_5
          try clear hfz15_6
          try clear hfz18_0
          try clear hfz18_1
          try clear hfz18_2
          try clear hfz18_3
          try clear hfz18_4
          try clear hfz18_5
          try clear hfz18_6
          try clear hfz19_0
          try clear hfz19_1
          try clear hfz19_2
          try clear hfz19_3
          try clear hfz19_4
          try clear hfz19_5
          try clear hfz19_6
          try clear hfz22_0
          try clear hfz22_1
          try clear hfz22_2
          try clear hfz22_3
          try clear hfz22_4
          try clear hfz22_5
          try clear hfz22_6
          try clear hfz23_0
          try clear hfz23_1
          try clear hfz23_2
          try clear hfz23_3
          try clear hfz23_4
          try clear hfz23_5
          try clear hfz23_6
          try clear hfz6_0
          try clear hfz6_1
          try clear hfz6_2
          try clear hfz6_3
          try clear hfz6_4
          try clear hfz6_5
          try clear hfz6_6
          try clear hfz7_0
          try clear hfz7_1
          try clear hfz7_2
          try clear hfz7_3
          try clear hfz7_4
          try clear hfz7_5
          try clear hfz7_6
          try clear p2
          obtain ⟨kq, x37_8, rfl, HA, HJ8, BK517, HB⟩ := hcut
          cases kq with
          | zero => exact absurd HA.out (by simp [dowelref19_right.j1])
          | succ kj8 =>
            have H := HA.out
            clear HA
            simp only [dowelref19_right.j1] at H
            by_cases c24 : x37_8 = true
            · subst c24
              have H1 : (some false) = some r := by rw [if_pos rfl] at H; exact H
              clear H
              have H := H1
              clear H1
              obtain rfl := Option.some.inj H
              go_wp2
              go_ret
              exact ⟨by first | rfl | (simp [errW_none, errW_some] <;> rfl) | (simp [*, errW_none, errW_some] <;> rfl), by repeat (first | (with_reducible first | exact HB.out | apply below_alloc | apply pw_below_drewN | apply below_drew1 | refine below_set ?_ GE517.out) | exact HB.out)⟩
            · replace c24 := Bool.eq_false_iff.mpr c24
              subst c24
              have H1 : (if a0_0 = 1 then (dowelref19_right.j2 kj8 false a0_0 a0_1 a0_2 a0_3 a0_4 a0_5 a0_6) else (if a0_0 = 2 then (dowelref19_right.j2 kj8 false a0_0 a0_1 a0_2 a0_3 a0_4 a0_5 a0_6) else (dowelref19_right.j2 kj8 (!(a0_2 == 0) || (!(a0_3 == 0) || (!(a0_4 == 0) || (!(a0_5 == 0))))) a0_0 a0_1 a0_2 a0_3 a0_4 a0_5 a0_6))) = some r := by rw [if_neg (show ¬ (false = true) by decide)] at H; exact H
              clear H
              have H := H1
              clear H1
              have HC25 := Aside0.mk H
              clear H
              go_upto_region 5 with (fail)
              go_cut [51] (fun v51 wc => ∃ (kq : Nat) (x51_24 : Bool), v51 = .bool x51_24 ∧ Aside0 (dowelref19_right.j2 kq x51_24 a0_0 a0_1 a0_2 a0_3 a0_4 a0_5 a0_6 = some r) ∧ Aside0 (kq ≤ kj8) ∧ Aside0 (wc.heap[gb517]? = some (.cells #[.int .i64 a0_0, .int .i64 a0_1, .int .u64 a0_2, .int .u64 a0_3, .int .u64 a0_4, .int .u64 a0_5, .string a0_6] 78 (0, 0))) ∧ Aside0 (Below w.heap.size w wc))
              case first =>
                have H := HC25.out
                clear HC25
                by_cases c26 : a0_0 = 1
                · rw [if_pos c26] at H
                  have c26b0 : (a0_0 == 1) = true := beq_iff_eq.mpr c26
                  have c26b1 : (a0_0 != 1) = false := bne_eq_false_iff_eq.mpr c26
                  clear c26
                  (first | rw [c26b0] | (simp only [i64_w, i32_w]; rw [c26b0]) | skip)
                  have H' := Aside0.mk H
                  clear H
                  have hcz27_0 : wc.cell? ⟨gb517, 0, none⟩ = some (.int .i64 a0_0) := (blk_cell BK517.out 0).trans rfl
                  have hcz27_1 : wc.cell? ⟨gb517, 1, none⟩ = some (.int .i64 a0_1) := (blk_cell BK517.out 1).trans rfl
                  have hcz27_2 : wc.cell? ⟨gb517, 2, none⟩ = some (.int .u64 a0_2) := (blk_cell BK517.out 2).trans rfl
                  have hcz27_3 : wc.cell? ⟨gb517, 3, none⟩ = some (.int .u64 a0_3) := (blk_cell BK517.out 3).trans rfl
                  have hcz27_4 : wc.cell? ⟨gb517, 4, none⟩ = some (.int .u64 a0_4) := (blk_cell BK517.out 4).trans rfl
                  have hcz27_5 : wc.cell? ⟨gb517, 5, none⟩ = some (.int .u64 a0_5) := (blk_cell BK517.out 5).trans rfl
                  have hcz27_6 : wc.cell? ⟨gb517, 6, none⟩ = some (.string a0_6) := (blk_cell BK517.out 6).trans rfl
                  have hfz27_0 := blk_frozen BK517.out 0
                  have hfz27_1 := blk_frozen BK517.out 1
                  have hfz27_2 := blk_frozen BK517.out 2
                  have hfz27_3 := blk_frozen BK517.out 3
                  have hfz27_4 := blk_frozen BK517.out 4
                  have hfz27_5 := blk_frozen BK517.out 5
                  have hfz27_6 := blk_frozen BK517.out 6
                  go_wp2
                  go_meet
                  case rel => exact ⟨_, (false), (by first | rfl | (simp; done) | (simp [*]; done)), H', ⟨by have := HJ2.out; have := HJ8.out; first | omega | exact Nat.le_refl _⟩, ⟨by (with_reducible repeat (first | refine blk_drewN ?_ _ | refine blk_drew ?_ | refine blk_alloc ?_ _)); exact BK517.out⟩, ⟨by repeat (first | (with_reducible first | exact HB.out | apply below_alloc | apply pw_below_drewN | apply below_drew1 | refine below_set ?_ GE517.out) | exact HB.out)⟩⟩
                · rw [if_neg c26] at H
                  have c26b0 : (a0_0 == 1) = false := beq_eq_false_iff_ne.mpr c26
                  have c26b1 : (a0_0 != 1) = true := bne_iff_ne.mpr c26
                  (first | rw [c26b0] | (simp only [i64_w, i32_w]; rw [c26b0]) | skip)
                  by_cases c28 : a0_0 = 2
                  · rw [if_pos c28] at H
                    have c28b0 : (a0_0 == 2) = true := beq_iff_eq.mpr c28
                    have c28b1 : (a0_0 != 2) = false := bne_eq_false_iff_eq.mpr c28
                    clear c28
                    have H' := Aside0.mk H
                    clear H
                    have hcz29_0 : wc.cell? ⟨gb517, 0, none⟩ = some (.int .i64 a0_0) := (blk_cell BK517.out 0).trans rfl
                    have hcz29_1 : wc.cell? ⟨gb517, 1, none⟩ = some (.int .i64 a0_1) := (blk_cell BK517.out 1).trans rfl
                    have hcz29_2 : wc.cell? ⟨gb517, 2, none⟩ = some (.int .u64 a0_2) := (blk_cell BK517.out 2).trans rfl
                    have hcz29_3 : wc.cell? ⟨gb517, 3, none⟩ = some (.int .u64 a0_3) := (blk_cell BK517.out 3).trans rfl
                    have hcz29_4 : wc.cell? ⟨gb517, 4, none⟩ = some (.int .u64 a0_4) := (blk_cell BK517.out 4).trans rfl
                    have hcz29_5 : wc.cell? ⟨gb517, 5, none⟩ = some (.int .u64 a0_5) := (blk_cell BK517.out 5).trans rfl
                    have hcz29_6 : wc.cell? ⟨gb517, 6, none⟩ = some (.string a0_6) := (blk_cell BK517.out 6).trans rfl
                    have hfz29_0 := blk_frozen BK517.out 0
                    have hfz29_1 := blk_frozen BK517.out 1
                    have hfz29_2 := blk_frozen BK517.out 2
                    have hfz29_3 := blk_frozen BK517.out 3
                    have hfz29_4 := blk_frozen BK517.out 4
                    have hfz29_5 := blk_frozen BK517.out 5
                    have hfz29_6 := blk_frozen BK517.out 6
                    go_wp2
                    go_meet
                    case rel => exact ⟨_, (false), (by first | rfl | (simp; done) | (simp [*]; done)), H', ⟨by have := HJ2.out; have := HJ8.out; first | omega | exact Nat.le_refl _⟩, ⟨by (with_reducible repeat (first | refine blk_drewN ?_ _ | refine blk_drew ?_ | refine blk_alloc ?_ _)); exact BK517.out⟩, ⟨by repeat (first | (with_reducible first | exact HB.out | apply below_alloc | apply pw_below_drewN | apply below_drew1 | refine below_set ?_ GE517.out) | exact HB.out)⟩⟩
                  · rw [if_neg c28] at H
                    have c28b0 : (a0_0 == 2) = false := beq_eq_false_iff_ne.mpr c28
                    have c28b1 : (a0_0 != 2) = true := bne_iff_ne.mpr c28
                    have H' := Aside0.mk H
                    clear H
                    have hcz30_0 : wc.cell? ⟨gb517, 0, none⟩ = some (.int .i64 a0_0) := (blk_cell BK517.out 0).trans rfl
                    have hcz30_1 : wc.cell? ⟨gb517, 1, none⟩ = some (.int .i64 a0_1) := (blk_cell BK517.out 1).trans rfl
                    have hcz30_2 : wc.cell? ⟨gb517, 2, none⟩ = some (.int .u64 a0_2) := (blk_cell BK517.out 2).trans rfl
                    have hcz30_3 : wc.cell? ⟨gb517, 3, none⟩ = some (.int .u64 a0_3) := (blk_cell BK517.out 3).trans rfl
                    have hcz30_4 : wc.cell? ⟨gb517, 4, none⟩ = some (.int .u64 a0_4) := (blk_cell BK517.out 4).trans rfl
                    have hcz30_5 : wc.cell? ⟨gb517, 5, none⟩ = some (.int .u64 a0_5) := (blk_cell BK517.out 5).trans rfl
                    have hcz30_6 : wc.cell? ⟨gb517, 6, none⟩ = some (.string a0_6) := (blk_cell BK517.out 6).trans rfl
                    have hfz30_0 := blk_frozen BK517.out 0
                    have hfz30_1 := blk_frozen BK517.out 1
                    have hfz30_2 := blk_frozen BK517.out 2
                    have hfz30_3 := blk_frozen BK517.out 3
                    have hfz30_4 := blk_frozen BK517.out 4
                    have hfz30_5 := blk_frozen BK517.out 5
                    have hfz30_6 := blk_frozen BK517.out 6
                    go_wp2
                    go_meet
                    case rel => exact ⟨_, ((!(a0_2 == 0) || (!(a0_3 == 0) || (!(a0_4 == 0) || (!(a0_5 == 0)))))), (by first | rfl | (simp; done) | (simp [*]; done)), H', ⟨by have := HJ2.out; have := HJ8.out; first | omega | exact Nat.le_refl _⟩, ⟨by (with_reducible repeat (first | refine blk_drewN ?_ _ | refine blk_drew ?_ | refine blk_alloc ?_ _)); exact BK517.out⟩, ⟨by repeat (first | (with_reducible first | exact HB.out | apply below_alloc | apply pw_below_drewN | apply below_drew1 | refine below_set ?_ GE517.out) | exact HB.out)⟩⟩
              case rest =>
                clear HC25
                try clear c1
                try clear c2
                try clear p2
                try clear c5
                try clear c5b0
                try clear c8
                try clear c10
                try clear c11
                try clear c12
                try clear c12b0
                try clear c14
                try clear c14b0
                try clear c17
                try clear c21
                try clear c24
                try clear c26
                try clear c26b0
                try clear c26b1
                try clear c28
                try clear c28b0
                try clear c28b1
                try clear hcz13_0
                try clear hcz13_1
                try clear hcz13_2
                try clear hcz13_3
                try clear hcz13_4
                try clear hcz13_5
                try clear hcz13_6
                try clear hcz15_0
                try clear hcz15_1
                try clear hcz15_2
                try clear hcz15_3
                try clear hcz15_4
                try clear hcz15_5
                try clear hcz15_6
                try clear hcz18_0
                try clear hcz18_1
                try clear hcz18_2
                try clear hcz18_3
                try clear hcz18_4
                try clear hcz18_5
                try clear hcz18_6
                try clear hcz19_0
                try clear hcz19_1
                try clear hcz19_2
                try clear hcz19_3
                try clear hcz19_4
                try clear hcz19_5
                try clear hcz19_6
                try clear hcz22_0
                try clear hcz22_1
                try clear hcz22_2
                try clear hcz22_3
                try clear hcz22_4
                try clear hcz22_5
                try clear hcz22_6
                try clear hcz23_0
                try clear hcz23_1
                try clear hcz23_2
                try clear hcz23_3
                try clear hcz23_4
                try clear hcz23_5
                try clear hcz23_6
                try clear hcz27_0
                try clear hcz27_1
                try clear hcz27_2
                try clear hcz27_3
                try clear hcz27_4
                try clear hcz27_5
                try clear hcz27_6
                try clear hcz29_0
                try clear hcz29_1
                try clear hcz29_2
                try clear hcz29_3
                try clear hcz29_4
                try clear hcz29_5
                try clear hcz29_6
                try clear hcz30_0
                try clear hcz30_1
                try clear hcz30_2
                try clear hcz30_3
                try clear hcz30_4
                try clear hcz30_5
                try clear hcz30_6
                try clear hcz6_0
                try clear hcz6_1
                try clear hcz6_2
                try clear hcz6_3
                try clear hcz6_4
                try clear hcz6_5
                try clear hcz6_6
                try clear hcz7_0
                try clear hcz7_1
                try clear hcz7_2
                try clear hcz7_3
                try clear hcz7_4
                try clear hcz7_5
                try clear hcz7_6
                try clear hfz13_0
                try clear hfz13_1
                try clear hfz13_2
                try clear hfz13_3
                try clear hfz13_4
                try clear hfz13_5
                try clear hfz13_6
                try clear hfz15_0
                try clear hfz15_1
                try clear hfz15_2
                try clear hfz15_3
                try clear hfz15_4
                try clear hfz15_5
                try clear hfz15_6
                try clear hfz18_0
                try clear hfz18_1
                try clear hfz18_2
                try clear hfz18_3
                try clear hfz18_4
                try clear hfz18_5
                try clear hfz18_6
                try clear hfz19_0
                try clear hfz19_1
                try clear hfz19_2
                try clear hfz19_3
                try clear hfz19_4
                try clear hfz19_5
                try clear hfz19_6
                try clear hfz22_0
                try clear hfz22_1
                try clear hfz22_2
                try clear hfz22_3
                try clear hfz22_4
                try clear hfz22_5
                try clear hfz22_6
                try clear hfz23_0
                try clear hfz23_1
                try clear hfz23_2
                try clear hfz23_3
                try clear hfz23_4
                try clear hfz23_5
                try clear hfz23_6
                try clear hfz27_0
                try clear hfz27_1
                try clear hfz27_2
                try clear hfz27_3
                try clear hfz27_4
                try clear hfz27_5
                try clear hfz27_6
                try clear hfz29_0
                try clear hfz29_1
                try clear hfz29_2
                try clear hfz29_3
                try clear hfz29_4
                try clear hfz29_5
                try clear hfz29_6
                try clear hfz30_0
                try clear hfz30_1
                try clear hfz30_2
                try clear hfz30_3
                try clear hfz30_4
                try clear hfz30_5
                try clear hfz30_6
                try clear hfz6_0
                try clear hfz6_1
                try clear hfz6_2
                try clear hfz6_3
                try clear hfz6_4
                try clear hfz6_5
                try clear hfz6_6
                try clear hfz7_0
                try clear hfz7_1
                try clear hfz7_2
                try clear hfz7_3
                try clear hfz7_4
                try clear hfz7_5
                try clear hfz7_6
                try clear p2
                obtain ⟨kq, x51_24, rfl, HA, HJ24, BK517, HB⟩ := hcut
                cases kq with
                | zero => exact absurd HA.out (by simp [dowelref19_right.j2])
                | succ kj24 =>
                  have H := HA.out
                  clear HA
                  simp only [dowelref19_right.j2] at H
                  by_cases c31 : x51_24 = true
                  · subst c31
                    have H1 : (some false) = some r := by rw [if_pos rfl] at H; exact H
                    clear H
                    have H := H1
                    clear H1
                    obtain rfl := Option.some.inj H
                    go_wp2
                    go_ret
                    exact ⟨by first | rfl | (simp [errW_none, errW_some] <;> rfl) | (simp [*, errW_none, errW_some] <;> rfl), by repeat (first | (with_reducible first | exact HB.out | apply below_alloc | apply pw_below_drewN | apply below_drew1 | refine below_set ?_ GE517.out) | exact HB.out)⟩
                  · replace c31 := Bool.eq_false_iff.mpr c31
                    subst c31
                    have H1 : (if a0_0 = 12 then (dowelref19_right.j3 kj24 true a0_0 a0_1 a0_2 a0_3 a0_4 a0_5 a0_6) else (dowelref19_right.j3 kj24 (a0_0 == 14) a0_0 a0_1 a0_2 a0_3 a0_4 a0_5 a0_6)) = some r := by rw [if_neg (show ¬ (false = true) by decide)] at H; exact H
                    clear H
                    have H := H1
                    clear H1
                    have HC32 := Aside0.mk H
                    clear H
                    go_upto_region 7 with (fail)
                    go_cut [59] (fun v59 wc => ∃ (kq : Nat) (x59_31 : Bool), v59 = .bool x59_31 ∧ Aside0 (dowelref19_right.j3 kq x59_31 a0_0 a0_1 a0_2 a0_3 a0_4 a0_5 a0_6 = some r) ∧ Aside0 (kq ≤ kj24) ∧ Aside0 (wc.heap[gb517]? = some (.cells #[.int .i64 a0_0, .int .i64 a0_1, .int .u64 a0_2, .int .u64 a0_3, .int .u64 a0_4, .int .u64 a0_5, .string a0_6] 78 (0, 0))) ∧ Aside0 (Below w.heap.size w wc))
                    case first =>
                      have H := HC32.out
                      clear HC32
                      by_cases c33 : a0_0 = 12
                      · rw [if_pos c33] at H
                        have c33b0 : (a0_0 == 12) = true := beq_iff_eq.mpr c33
                        have c33b1 : (a0_0 != 12) = false := bne_eq_false_iff_eq.mpr c33
                        clear c33
                        (first | rw [c33b0] | (simp only [i64_w, i32_w]; rw [c33b0]) | skip)
                        have H' := Aside0.mk H
                        clear H
                        have hcz34_0 : wc.cell? ⟨gb517, 0, none⟩ = some (.int .i64 a0_0) := (blk_cell BK517.out 0).trans rfl
                        have hcz34_1 : wc.cell? ⟨gb517, 1, none⟩ = some (.int .i64 a0_1) := (blk_cell BK517.out 1).trans rfl
                        have hcz34_2 : wc.cell? ⟨gb517, 2, none⟩ = some (.int .u64 a0_2) := (blk_cell BK517.out 2).trans rfl
                        have hcz34_3 : wc.cell? ⟨gb517, 3, none⟩ = some (.int .u64 a0_3) := (blk_cell BK517.out 3).trans rfl
                        have hcz34_4 : wc.cell? ⟨gb517, 4, none⟩ = some (.int .u64 a0_4) := (blk_cell BK517.out 4).trans rfl
                        have hcz34_5 : wc.cell? ⟨gb517, 5, none⟩ = some (.int .u64 a0_5) := (blk_cell BK517.out 5).trans rfl
                        have hcz34_6 : wc.cell? ⟨gb517, 6, none⟩ = some (.string a0_6) := (blk_cell BK517.out 6).trans rfl
                        have hfz34_0 := blk_frozen BK517.out 0
                        have hfz34_1 := blk_frozen BK517.out 1
                        have hfz34_2 := blk_frozen BK517.out 2
                        have hfz34_3 := blk_frozen BK517.out 3
                        have hfz34_4 := blk_frozen BK517.out 4
                        have hfz34_5 := blk_frozen BK517.out 5
                        have hfz34_6 := blk_frozen BK517.out 6
                        go_wp2
                        go_meet
                        case rel => exact ⟨_, (true), (by first | rfl | (simp; done) | (simp [*]; done)), H', ⟨by have := HJ2.out; have := HJ8.out; have := HJ24.out; first | omega | exact Nat.le_refl _⟩, ⟨by (with_reducible repeat (first | refine blk_drewN ?_ _ | refine blk_drew ?_ | refine blk_alloc ?_ _)); exact BK517.out⟩, ⟨by repeat (first | (with_reducible first | exact HB.out | apply below_alloc | apply pw_below_drewN | apply below_drew1 | refine below_set ?_ GE517.out) | exact HB.out)⟩⟩
                      · rw [if_neg c33] at H
                        have c33b0 : (a0_0 == 12) = false := beq_eq_false_iff_ne.mpr c33
                        have c33b1 : (a0_0 != 12) = true := bne_iff_ne.mpr c33
                        (first | rw [c33b0] | (simp only [i64_w, i32_w]; rw [c33b0]) | skip)
                        have H' := Aside0.mk H
                        clear H
                        have hcz35_0 : wc.cell? ⟨gb517, 0, none⟩ = some (.int .i64 a0_0) := (blk_cell BK517.out 0).trans rfl
                        have hcz35_1 : wc.cell? ⟨gb517, 1, none⟩ = some (.int .i64 a0_1) := (blk_cell BK517.out 1).trans rfl
                        have hcz35_2 : wc.cell? ⟨gb517, 2, none⟩ = some (.int .u64 a0_2) := (blk_cell BK517.out 2).trans rfl
                        have hcz35_3 : wc.cell? ⟨gb517, 3, none⟩ = some (.int .u64 a0_3) := (blk_cell BK517.out 3).trans rfl
                        have hcz35_4 : wc.cell? ⟨gb517, 4, none⟩ = some (.int .u64 a0_4) := (blk_cell BK517.out 4).trans rfl
                        have hcz35_5 : wc.cell? ⟨gb517, 5, none⟩ = some (.int .u64 a0_5) := (blk_cell BK517.out 5).trans rfl
                        have hcz35_6 : wc.cell? ⟨gb517, 6, none⟩ = some (.string a0_6) := (blk_cell BK517.out 6).trans rfl
                        have hfz35_0 := blk_frozen BK517.out 0
                        have hfz35_1 := blk_frozen BK517.out 1
                        have hfz35_2 := blk_frozen BK517.out 2
                        have hfz35_3 := blk_frozen BK517.out 3
                        have hfz35_4 := blk_frozen BK517.out 4
                        have hfz35_5 := blk_frozen BK517.out 5
                        have hfz35_6 := blk_frozen BK517.out 6
                        go_wp2
                        go_meet
                        case rel => exact ⟨_, ((a0_0 == 14)), (by first | rfl | (simp; done) | (simp [*]; done)), H', ⟨by have := HJ2.out; have := HJ8.out; have := HJ24.out; first | omega | exact Nat.le_refl _⟩, ⟨by (with_reducible repeat (first | refine blk_drewN ?_ _ | refine blk_drew ?_ | refine blk_alloc ?_ _)); exact BK517.out⟩, ⟨by repeat (first | (with_reducible first | exact HB.out | apply below_alloc | apply pw_below_drewN | apply below_drew1 | refine below_set ?_ GE517.out) | exact HB.out)⟩⟩
                    case rest =>
                      clear HC32
                      try clear c1
                      try clear c2
                      try clear p2
                      try clear c3
                      try clear c5
                      try clear c5b0
                      try clear c8
                      try clear c10
                      try clear c11
                      try clear c12
                      try clear c12b0
                      try clear c14
                      try clear c14b0
                      try clear c17
                      try clear c21
                      try clear c24
                      try clear c26
                      try clear c26b0
                      try clear c26b1
                      try clear c28
                      try clear c28b0
                      try clear c28b1
                      try clear c31
                      try clear c33
                      try clear c33b0
                      try clear c33b1
                      try clear hcz13_0
                      try clear hcz13_1
                      try clear hcz13_2
                      try clear hcz13_3
                      try clear hcz13_4
                      try clear hcz13_5
                      try clear hcz13_6
                      try clear hcz15_0
                      try clear hcz15_1
                      try clear hcz15_2
                      try clear hcz15_3
                      try clear hcz15_4
                      try clear hcz15_5
                      try clear hcz15_6
                      try clear hcz18_0
                      try clear hcz18_1
                      try clear hcz18_2
                      try clear hcz18_3
                      try clear hcz18_4
                      try clear hcz18_5
                      try clear hcz18_6
                      try clear hcz19_0
                      try clear hcz19_1
                      try clear hcz19_2
                      try clear hcz19_3
                      try clear hcz19_4
                      try clear hcz19_5
                      try clear hcz19_6
                      try clear hcz22_0
                      try clear hcz22_1
                      try clear hcz22_2
                      try clear hcz22_3
                      try clear hcz22_4
                      try clear hcz22_5
                      try clear hcz22_6
                      try clear hcz23_0
                      try clear hcz23_1
                      try clear hcz23_2
                      try clear hcz23_3
                      try clear hcz23_4
                      try clear hcz23_5
                      try clear hcz23_6
                      try clear hcz27_0
                      try clear hcz27_1
                      try clear hcz27_2
                      try clear hcz27_3
                      try clear hcz27_4
                      try clear hcz27_5
                      try clear hcz27_6
                      try clear hcz29_0
                      try clear hcz29_1
                      try clear hcz29_2
                      try clear hcz29_3
                      try clear hcz29_4
                      try clear hcz29_5
                      try clear hcz29_6
                      try clear hcz30_0
                      try clear hcz30_1
                      try clear hcz30_2
                      try clear hcz30_3
                      try clear hcz30_4
                      try clear hcz30_5
                      try clear hcz30_6
                      try clear hcz34_0
                      try clear hcz34_1
                      try clear hcz34_2
                      try clear hcz34_3
                      try clear hcz34_4
                      try clear hcz34_5
                      try clear hcz34_6
                      try clear hcz35_0
                      try clear hcz35_1
                      try clear hcz35_2
                      try clear hcz35_3
                      try clear hcz35_4
                      try clear hcz35_5
                      try clear hcz35_6
                      try clear hcz6_0
                      try clear hcz6_1
                      try clear hcz6_2
                      try clear hcz6_3
                      try clear hcz6_4
                      try clear hcz6_5
                      try clear hcz6_6
                      try clear hcz7_0
                      try clear hcz7_1
                      try clear hcz7_2
                      try clear hcz7_3
                      try clear hcz7_4
                      try clear hcz7_5
                      try clear hcz7_6
                      try clear hfz13_0
                      try clear hfz13_1
                      try clear hfz13_2
                      try clear hfz13_3
                      try clear hfz13_4
                      try clear hfz13_5
                      try clear hfz13_6
                      try clear hfz15_0
                      try clear hfz15_1
                      try clear hfz15_2
                      try clear hfz15_3
                      try clear hfz15_4
                      try clear hfz15_5
                      try clear hfz15_6
                      try clear hfz18_0
                      try clear hfz18_1
                      try clear hfz18_2
                      try clear hfz18_3
                      try clear hfz18_4
                      try clear hfz18_5
                      try clear hfz18_6
                      try clear hfz19_0
                      try clear hfz19_1
                      try clear hfz19_2
                      try clear hfz19_3
                      try clear hfz19_4
                      try clear hfz19_5
                      try clear hfz19_6
                      try clear hfz22_0
                      try clear hfz22_1
                      try clear hfz22_2
                      try clear hfz22_3
                      try clear hfz22_4
                      try clear hfz22_5
                      try clear hfz22_6
                      try clear hfz23_0
                      try clear hfz23_1
                      try clear hfz23_2
                      try clear hfz23_3
                      try clear hfz23_4
                      try clear hfz23_5
                      try clear hfz23_6
                      try clear hfz27_0
                      try clear hfz27_1
                      try clear hfz27_2
                      try clear hfz27_3
                      try clear hfz27_4
                      try clear hfz27_5
                      try clear hfz27_6
                      try clear hfz29_0
                      try clear hfz29_1
                      try clear hfz29_2
                      try clear hfz29_3
                      try clear hfz29_4
                      try clear hfz29_5
                      try clear hfz29_6
                      try clear hfz30_0
                      try clear hfz30_1
                      try clear hfz30_2
                      try clear hfz30_3
                      try clear hfz30_4
                      try clear hfz30_5
                      try clear hfz30_6
                      try clear hfz34_0
                      try clear hfz34_1
                      try clear hfz34_2
                      try clear hfz34_3
                      try clear hfz34_4
                      try clear hfz34_5
                      try clear hfz34_6
                      try clear hfz35_0
                      try clear hfz35_1
                      try clear hfz35_2
                      try clear hfz35_3
                      try clear hfz35_4
                      try clear hfz35_5
                      try clear hfz35_6
                      try clear hfz6_0
                      try clear hfz6_1
                      try clear hfz6_2
                      try clear hfz6_3
                      try clear hfz6_4
                      try clear hfz6_5
                      try clear hfz6_6
                      try clear hfz7_0
                      try clear hfz7_1
                      try clear hfz7_2
                      try clear hfz7_3
                      try clear hfz7_4
                      try clear hfz7_5
                      try clear hfz7_6
                      try clear p2
                      obtain ⟨kq, x59_31, rfl, HA, HJ31, BK517, HB⟩ := hcut
                      cases kq with
                      | zero => exact absurd HA.out (by simp [dowelref19_right.j3])
                      | succ kj31 =>
                        have H := HA.out
                        clear HA
                        simp only [dowelref19_right.j3] at H
                        by_cases c36 : x59_31 = true
                        · subst c36
                          have H1 : ((dowelref04_Name.f kj31 a0_6).bind fun t521 => (if t521 = true then ((dowelbase_Own.f kj31 a0_6).bind fun t522 => (some t522)) else (some false))) = some r := by rw [if_pos rfl] at H; exact H
                          clear H
                          have H := H1
                          clear H1
                          replace H := Option.bind_eq_some_iff.mp H
                          obtain ⟨t521, A370, H⟩ := H
                          replace H : (if t521 = true then ((dowelbase_Own.f kj31 a0_6).bind fun t522 => (some t522)) else (some false)) = some r := H
                          have A37 := Aside0.mk A370
                          clear A370
                          by_cases c38 : t521 = true
                          · subst c38
                            have H1 : ((dowelbase_Own.f kj31 a0_6).bind fun t522 => (some t522)) = some r := by rw [if_pos rfl] at H; exact H
                            clear H
                            have H := H1
                            clear H1
                            replace H := Option.bind_eq_some_iff.mp H
                            obtain ⟨t522, A390, H⟩ := H
                            replace H : (some t522) = some r := H
                            have A39 := Aside0.mk A390
                            clear A390
                            obtain rfl := Option.some.inj H
                            have hcz40_0 : wc.cell? ⟨gb517, 0, none⟩ = some (.int .i64 a0_0) := (blk_cell BK517.out 0).trans rfl
                            have hcz40_1 : wc.cell? ⟨gb517, 1, none⟩ = some (.int .i64 a0_1) := (blk_cell BK517.out 1).trans rfl
                            have hcz40_2 : wc.cell? ⟨gb517, 2, none⟩ = some (.int .u64 a0_2) := (blk_cell BK517.out 2).trans rfl
                            have hcz40_3 : wc.cell? ⟨gb517, 3, none⟩ = some (.int .u64 a0_3) := (blk_cell BK517.out 3).trans rfl
                            have hcz40_4 : wc.cell? ⟨gb517, 4, none⟩ = some (.int .u64 a0_4) := (blk_cell BK517.out 4).trans rfl
                            have hcz40_5 : wc.cell? ⟨gb517, 5, none⟩ = some (.int .u64 a0_5) := (blk_cell BK517.out 5).trans rfl
                            have hcz40_6 : wc.cell? ⟨gb517, 6, none⟩ = some (.string a0_6) := (blk_cell BK517.out 6).trans rfl
                            have hfz40_0 := blk_frozen BK517.out 0
                            have hfz40_1 := blk_frozen BK517.out 1
                            have hfz40_2 := blk_frozen BK517.out 2
                            have hfz40_3 := blk_frozen BK517.out 3
                            have hfz40_4 := blk_frozen BK517.out 4
                            have hfz40_5 := blk_frozen BK517.out 5
                            have hfz40_6 := blk_frozen BK517.out 6
                            go_wp2_with (first | ((with_reducible refine gate_callee (f := 43) rfl ?_); refine goesL_ (some 62) rfl rfl Try.func43 (by kernel_rfl) rfl #[.string a0_6] rfl (by (try simp only [List.map_toArray, List.map_cons, List.map_nil]); first | done | rfl | (simp only [List.length_drop, List.length_take]; rfl)) ?_; (with_reducible refine (dowelref04_Name.calls kj31 a0_6 true _ A37.out).mono ?_); rintro e w' ⟨rfl, ⟨nd, rfl⟩⟩; refine ⟨_, rfl, ?_⟩) | (go_at_call 104; (with_reducible refine (dowelbase_Own.calls kj31 a0_6 t522 _ A39.out).mono ?_); rintro e w' ⟨rfl, ⟨nd, rfl⟩⟩))
                            go_ret
                            exact ⟨by first | rfl | (simp [errW_none, errW_some] <;> rfl) | (simp [*, errW_none, errW_some] <;> rfl), by repeat (first | (with_reducible first | exact HB.out | apply below_alloc | apply pw_below_drewN | apply below_drew1 | refine below_set ?_ GE517.out) | exact HB.out)⟩
                          · replace c38 := Bool.eq_false_iff.mpr c38
                            subst c38
                            have H1 : (some false) = some r := by rw [if_neg (show ¬ (false = true) by decide)] at H; exact H
                            clear H
                            have H := H1
                            clear H1
                            obtain rfl := Option.some.inj H
                            have hcz41_0 : wc.cell? ⟨gb517, 0, none⟩ = some (.int .i64 a0_0) := (blk_cell BK517.out 0).trans rfl
                            have hcz41_1 : wc.cell? ⟨gb517, 1, none⟩ = some (.int .i64 a0_1) := (blk_cell BK517.out 1).trans rfl
                            have hcz41_2 : wc.cell? ⟨gb517, 2, none⟩ = some (.int .u64 a0_2) := (blk_cell BK517.out 2).trans rfl
                            have hcz41_3 : wc.cell? ⟨gb517, 3, none⟩ = some (.int .u64 a0_3) := (blk_cell BK517.out 3).trans rfl
                            have hcz41_4 : wc.cell? ⟨gb517, 4, none⟩ = some (.int .u64 a0_4) := (blk_cell BK517.out 4).trans rfl
                            have hcz41_5 : wc.cell? ⟨gb517, 5, none⟩ = some (.int .u64 a0_5) := (blk_cell BK517.out 5).trans rfl
                            have hcz41_6 : wc.cell? ⟨gb517, 6, none⟩ = some (.string a0_6) := (blk_cell BK517.out 6).trans rfl
                            have hfz41_0 := blk_frozen BK517.out 0
                            have hfz41_1 := blk_frozen BK517.out 1
                            have hfz41_2 := blk_frozen BK517.out 2
                            have hfz41_3 := blk_frozen BK517.out 3
                            have hfz41_4 := blk_frozen BK517.out 4
                            have hfz41_5 := blk_frozen BK517.out 5
                            have hfz41_6 := blk_frozen BK517.out 6
                            go_wp2_with (first | ((with_reducible refine gate_callee (f := 43) rfl ?_); refine goesL_ (some 62) rfl rfl Try.func43 (by kernel_rfl) rfl #[.string a0_6] rfl (by (try simp only [List.map_toArray, List.map_cons, List.map_nil]); first | done | rfl | (simp only [List.length_drop, List.length_take]; rfl)) ?_; (with_reducible refine (dowelref04_Name.calls kj31 a0_6 false _ A37.out).mono ?_); rintro e w' ⟨rfl, ⟨nd, rfl⟩⟩; refine ⟨_, rfl, ?_⟩))
                            go_ret
                            exact ⟨by first | rfl | (simp [errW_none, errW_some] <;> rfl) | (simp [*, errW_none, errW_some] <;> rfl), by repeat (first | (with_reducible first | exact HB.out | apply below_alloc | apply pw_below_drewN | apply below_drew1 | refine below_set ?_ GE517.out) | exact HB.out)⟩
                        · replace c36 := Bool.eq_false_iff.mpr c36
                          subst c36
                          have H1 : (some (a0_6.toList == ([] : List UInt8))) = some r := by rw [if_neg (show ¬ (false = true) by decide)] at H; exact H
                          clear H
                          have H := H1
                          clear H1
                          obtain rfl := Option.some.inj H
                          have hcz42_0 : wc.cell? ⟨gb517, 0, none⟩ = some (.int .i64 a0_0) := (blk_cell BK517.out 0).trans rfl
                          have hcz42_1 : wc.cell? ⟨gb517, 1, none⟩ = some (.int .i64 a0_1) := (blk_cell BK517.out 1).trans rfl
                          have hcz42_2 : wc.cell? ⟨gb517, 2, none⟩ = some (.int .u64 a0_2) := (blk_cell BK517.out 2).trans rfl
                          have hcz42_3 : wc.cell? ⟨gb517, 3, none⟩ = some (.int .u64 a0_3) := (blk_cell BK517.out 3).trans rfl
                          have hcz42_4 : wc.cell? ⟨gb517, 4, none⟩ = some (.int .u64 a0_4) := (blk_cell BK517.out 4).trans rfl
                          have hcz42_5 : wc.cell? ⟨gb517, 5, none⟩ = some (.int .u64 a0_5) := (blk_cell BK517.out 5).trans rfl
                          have hcz42_6 : wc.cell? ⟨gb517, 6, none⟩ = some (.string a0_6) := (blk_cell BK517.out 6).trans rfl
                          have hfz42_0 := blk_frozen BK517.out 0
                          have hfz42_1 := blk_frozen BK517.out 1
                          have hfz42_2 := blk_frozen BK517.out 2
                          have hfz42_3 := blk_frozen BK517.out 3
                          have hfz42_4 := blk_frozen BK517.out 4
                          have hfz42_5 := blk_frozen BK517.out 5
                          have hfz42_6 := blk_frozen BK517.out 6
                          go_wp2
                          go_ret
                          exact ⟨by first | rfl | (simp [errW_none, errW_some] <;> rfl) | (simp [*, errW_none, errW_some] <;> rfl), by repeat (first | (with_reducible first | exact HB.out | apply below_alloc | apply pw_below_drewN | apply below_drew1 | refine below_set ?_ GE517.out) | exact HB.out)⟩
end Go.Proofs.Ytebiogaacikphaa.PAll
end
