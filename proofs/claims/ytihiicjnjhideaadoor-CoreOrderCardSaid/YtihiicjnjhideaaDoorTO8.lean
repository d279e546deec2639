/- Parts of the proof of coreOrder: PAllx13. No condition beyond each lemma's own. -/
import Derived.Test.YtihiicjnjhideaaDoorTO5
section
namespace Go.Proofs.YtihiicjnjhideaaDoor.PAll
open Go.RowKit Go.Proofs.YtihiicjnjhideaaDoorW.PrintWords Go.Proofs.YtihiicjnjhideaaDoorW.PrintLast Go.Proofs.YtihiicjnjhideaaDoorW.PrintMore
attribute [local go_sem] max2_int max_two
set_option linter.unusedVariables false
set_option linter.unusedSimpArgs false
theorem qDoor13_23 {p : Prop} (h : p := by have := HK1.out; have := HK2.out; omega) : p := h
theorem qDoor13_22 {p : Prop} (h : p := by repeat (first | exact Drawn0.refl _ | apply Drawn0.step)) : p := h
theorem qDoor13_21 {p : Prop} (h : p := by rw [hg]; exact (below_size (by repeat (first | (with_reducible first | exact HB.out | apply below_alloc | apply pw_below_drewN | apply below_drew1 | refine below_set ?_ GE199.out) | exact HB.out)))) : p := h
theorem qDoor13_20 {p : Prop} (h : p := by (with_reducible repeat (first | refine blk_drewN ?_ _ | refine blk_drew ?_ | refine blk_alloc ?_ _)); exact BK199.out) : p := h
theorem qDoor13_19 {p : Prop} (h : p := by repeat (first | (with_reducible first | exact HB.out | apply below_alloc | apply pw_below_drewN | apply below_drew1 | refine below_set ?_ GE190.out) | exact HB.out)) : p := h
theorem qDoor13_18 {p : Prop} (h : p := by first | rfl | (simp [errW_none, errW_some] <;> rfl) | (simp [*, errW_none, errW_some] <;> rfl)) : p := h
theorem qDoor13_17 {p : Prop} (h : p := by first | (with_reducible assumption) | assumption) : p := h
theorem qDoor13_16 {p : Prop} (h : p := by repeat (first | (with_reducible first | exact HB.out | apply below_alloc | apply pw_below_drewN | apply below_drew1 | refine below_set ?_ GE182.out | refine below_set ?_ GE184.out | refine below_set ?_ GE186.out) | exact HB.out)) : p := h
theorem qDoor13_15 {p : Prop} (h : p := by first | rfl | (simp; done) | (simp [*]; done)) : p := h
theorem qDoor13_14 {p : Prop} (h : p := by rw [hg]; exact (below_size (by repeat (first | (with_reducible first | exact HB.out | apply below_alloc | apply pw_below_drewN | apply below_drew1 | refine below_set ?_ GE182.out) | exact HB.out)))) : p := h
theorem qDoor13_13 {p : Prop} (h : p := by repeat (first | (with_reducible first | exact HB.out | apply below_alloc | apply pw_below_drewN | apply below_drew1 | refine below_set ?_ GE199.out) | exact HB.out)) : p := h
theorem qDoor13_12 {p : Prop} (h : p := by rw [hg]; exact (below_size (by repeat (first | (with_reducible first | exact HB.out | apply below_alloc | apply pw_below_drewN | apply below_drew1) | exact HB.out)))) : p := h
theorem qDoor13_11 {p : Prop} (h : p := by rw [hg]; exact Nat.ne_of_gt (blk_lt (g := gb184) (o := .cells #[.string ((rd_T40 l0_1 x10_1).f0), .slice A183_1 ((rd_T40 l0_1 x10_1).f1).length c183_1, .slice (some ad185) ((rd_T40 l0_1 x10_1).f2).length c183_2] 40 (0, 0)) (by (with_reducible repeat (first | refine blk_drewN ?_ _ | refine blk_drew ?_ | refine blk_alloc ?_ _)); exact BK184.out))) : p := h
theorem qDoor13_10 {p : Prop} (h : p := by rw [hg]; exact Nat.ne_of_lt (blk_lt (g := gb184) (o := .cells #[.string ((rd_T40 l0_1 x10_1).f0), .slice A183_1 ((rd_T40 l0_1 x10_1).f1).length c183_1, .slice (some ad185) ((rd_T40 l0_1 x10_1).f2).length c183_2] 40 (0, 0)) (by (with_reducible repeat (first | refine blk_drewN ?_ _ | refine blk_drew ?_ | refine blk_alloc ?_ _)); exact BK184.out))) : p := h
theorem qDoor13_9 {p : Prop} (h : p := by (with_reducible repeat (first | refine blk_drewN ?_ _ | refine blk_drew ?_ | refine blk_alloc ?_ _)); exact BK184.out) : p := h
theorem qDoor13_8 {p : Prop} (h : p := by repeat (first | (with_reducible first | exact HB.out | apply below_alloc | apply pw_below_drewN | apply below_drew1 | refine below_set ?_ GE182.out) | exact HB.out)) : p := h
theorem qDoor13_7 {p : Prop} (h : p := by rw [hg]; exact Nat.ne_of_gt (blk_lt (g := gb182) (o := .cells #[.slice A0_0 l0_0.length c0_0, .slice (some ad183) l0_1.length c0_1] 25 (0, 0)) (by (with_reducible repeat (first | refine blk_drewN ?_ _ | refine blk_drew ?_ | refine blk_alloc ?_ _)); exact BK182.out))) : p := h
theorem qDoor13_6 {p : Prop} (h : p := by rw [hg]; exact Nat.ne_of_lt (blk_lt (g := gb182) (o := .cells #[.slice A0_0 l0_0.length c0_0, .slice (some ad183) l0_1.length c0_1] 25 (0, 0)) (by (with_reducible repeat (first | refine blk_drewN ?_ _ | refine blk_drew ?_ | refine blk_alloc ?_ _)); exact BK182.out))) : p := h
theorem qDoor13_5 {p : Prop} (h : p := by rw [hg]; exact (below_size (by repeat (first | (with_reducible first | exact HB.out | apply below_alloc | apply pw_below_drewN | apply below_drew1 | refine below_set ?_ GE182.out | refine below_set ?_ GE184.out) | exact HB.out)))) : p := h
theorem qDoor13_4 {p : Prop} (h : p := by repeat (first | (with_reducible first | exact HB.out | apply below_alloc | apply pw_below_drewN | apply below_drew1) | exact HB.out)) : p := h
theorem qDoor13_3 {p : Prop} (h : p := by (with_reducible repeat (first | refine blk_drewN ?_ _ | refine blk_drew ?_ | refine blk_alloc ?_ _)); exact BK182.out) : p := h
theorem qDoor13_2 {p : Prop} (h : p := by repeat (first | (with_reducible first | exact HB.out | apply below_alloc | apply pw_below_drewN | apply below_drew1 | refine below_set ?_ GE182.out | refine below_set ?_ GE184.out) | exact HB.out)) : p := h
theorem qDoor13_1 {p : Prop} (h : p := by (with_reducible repeat (first | refine blk_drewN ?_ _ | refine blk_drew ?_ | refine blk_alloc ?_ _)); refine blk_far ?_ NB184_186.out _; (with_reducible repeat (first | refine blk_drewN ?_ _ | refine blk_drew ?_ | refine blk_alloc ?_ _)); refine blk_far ?_ NB184_186.out _; (with_reducible repeat (first | refine blk_drewN ?_ _ | refine blk_drew ?_ | refine blk_alloc ?_ _)); refine blk_far ?_ NB184_186.out _; (with_reducible repeat (first | refine blk_drewN ?_ _ | refine blk_drew ?_ | refine blk_alloc ?_ _)); refine blk_far ?_ NB184_186.out _; (with_reducible repeat (first | refine blk_drewN ?_ _ | refine blk_drew ?_ | refine blk_alloc ?_ _)); refine blk_far ?_ NB184_186.out _; (with_reducible repeat (first | refine blk_drewN ?_ _ | refine blk_drew ?_ | refine blk_alloc ?_ _)); refine blk_far ?_ NB184_186.out _; (with_reducible repeat (first | refine blk_drewN ?_ _ | refine blk_drew ?_ | refine blk_alloc ?_ _)); refine blk_far ?_ NB184_186.out _; (with_reducible repeat (first | refine blk_drewN ?_ _ | refine blk_drew ?_ | refine blk_alloc ?_ _)); refine blk_far ?_ NB184_186.out _; (with_reducible repeat (first | refine blk_drewN ?_ _ | refine blk_drew ?_ | refine blk_alloc ?_ _)); refine blk_far ?_ NB184_186.out _; (with_reducible repeat (first | refine blk_drewN ?_ _ | refine blk_drew ?_ | refine blk_alloc ?_ _)); refine blk_far ?_ NB184_186.out _; (with_reducible repeat (first | refine blk_drewN ?_ _ | refine blk_drew ?_ | refine blk_alloc ?_ _)); exact BK184.out) : p := h
theorem qDoor13_0 {p : Prop} (h : p := by (with_reducible repeat (first | refine blk_drewN ?_ _ | refine blk_drew ?_ | refine blk_alloc ?_ _)); refine blk_far ?_ NB182_186.out _; (with_reducible repeat (first | refine blk_drewN ?_ _ | refine blk_drew ?_ | refine blk_alloc ?_ _)); refine blk_far ?_ NB182_186.out _; (with_reducible repeat (first | refine blk_drewN ?_ _ | refine blk_drew ?_ | refine blk_alloc ?_ _)); refine blk_far ?_ NB182_186.out _; (with_reducible repeat (first | refine blk_drewN ?_ _ | refine blk_drew ?_ | refine blk_alloc ?_ _)); refine blk_far ?_ NB182_186.out _; (with_reducible repeat (first | refine blk_drewN ?_ _ | refine blk_drew ?_ | refine blk_alloc ?_ _)); refine blk_far ?_ NB182_186.out _; (with_reducible repeat (first | refine blk_drewN ?_ _ | refine blk_drew ?_ | refine blk_alloc ?_ _)); refine blk_far ?_ NB182_186.out _; (with_reducible repeat (first | refine blk_drewN ?_ _ | refine blk_drew ?_ | refine blk_alloc ?_ _)); refine blk_far ?_ NB182_186.out _; (with_reducible repeat (first | refine blk_drewN ?_ _ | refine blk_drew ?_ | refine blk_alloc ?_ _)); refine blk_far ?_ NB182_186.out _; (with_reducible repeat (first | refine blk_drewN ?_ _ | refine blk_drew ?_ | refine blk_alloc ?_ _)); refine blk_far ?_ NB182_186.out _; (with_reducible repeat (first | refine blk_drewN ?_ _ | refine blk_drew ?_ | refine blk_alloc ?_ _)); refine blk_far ?_ NB182_186.out _; (with_reducible repeat (first | refine blk_drewN ?_ _ | refine blk_drew ?_ | refine blk_alloc ?_ _)); exact BK182.out) : p := h
mutual
def macro_Flat.l0 : Nat → List (S40) → Int → Int → Option (Bool)
 | 0, _, _, _ => none
 | k + 1, x8, x9, x10 => if x10 < x9 then (if 0 ≤ x10 then (if x10 < (x8.length : Int) then (if (((rd_T40 x8 x10).f1).length : Int) > 0 then (some false) else (macro_Flat.l1 k x8 x9 x10 ((rd_T40 x8 x10).f2) (((rd_T40 x8 x10).f2).length : Int) 0)) else (none)) else (none)) else (some true)
def macro_Flat.l1 : Nat → List (S40) → Int → Int → List (S51) → Int → Int → Option (Bool)
 | 0, _, _, _, _, _, _ => none
 | k + 1, x8, x9, x10, x19, x20, x21 => if x21 < x20 then (if 0 ≤ x21 then (if x21 < (x19.length : Int) then (if ((rd_T51 x19 x21).f0) = 4 then (if ((rd_T51 x19 x21).f1) > 0 then (some false) else (macro_Flat.l1 k x8 x9 x10 x19 x20 (wrap64 (x21 + 1)))) else (macro_Flat.l1 k x8 x9 x10 x19 x20 (wrap64 (x21 + 1)))) else (none)) else (none)) else (macro_Flat.l0 k x8 x9 (wrap64 (x10 + 1)))
end
def macro_Flat.f (k : Nat) (l0_0 : List (S79)) (l0_1 : List (S40)) : Option (Bool) := macro_Flat.l0 k l0_1 (l0_1.length : Int) 0
theorem macro_Flat.mono_l : ∀ k, (∀ y0 y1 y2, LeO (macro_Flat.l0 k y0 y1 y2) (macro_Flat.l0 (k + 1) y0 y1 y2)) ∧ (∀ y0 y1 y2 y3 y4 y5, LeO (macro_Flat.l1 k y0 y1 y2 y3 y4 y5) (macro_Flat.l1 (k + 1) y0 y1 y2 y3 y4 y5))
 | 0 => ⟨fun _ _ _ r h => by simp [macro_Flat.l0] at h, fun _ _ _ _ _ _ r h => by simp [macro_Flat.l1] at h⟩
 | k + 1 => by
  obtain ⟨ih0, ih1⟩ := macro_Flat.mono_l k
  refine ⟨?_, ?_⟩
  ·intro y0 y1 y2
   unfold macro_Flat.l0
   repeat' first
   | (with_reducible exact ih0 _ _ _)
   | (with_reducible exact ih1 _ _ _ _ _ _)
   | (with_reducible exact LeO.refl _)
   | (with_reducible exact LeO.none _)
   | (with_reducible refine LeO.ite ?_ ?_)
   | (with_reducible refine LeO.bind ?_ (fun _ => ?_))
   | exact ih0 _ _ _
   | exact ih1 _ _ _ _ _ _
   | exact LeO.none _
   | refine LeO.ite ?_ ?_
   | refine LeO.bind ?_ (fun _ => ?_)
  ·intro y0 y1 y2 y3 y4 y5
   unfold macro_Flat.l1
   repeat' first
   | (with_reducible exact ih0 _ _ _)
   | (with_reducible exact ih1 _ _ _ _ _ _)
   | (with_reducible exact LeO.refl _)
   | (with_reducible exact LeO.none _)
   | (with_reducible refine LeO.ite ?_ ?_)
   | (with_reducible refine LeO.bind ?_ (fun _ => ?_))
   | exact ih0 _ _ _
   | exact ih1 _ _ _ _ _ _
   | exact LeO.none _
   | refine LeO.ite ?_ ?_
   | refine LeO.bind ?_ (fun _ => ?_)
theorem macro_Flat.mono : ∀ a0 a1 k, LeO (macro_Flat.f k a0 a1) (macro_Flat.f (k + 1) a0 a1) := by
 intro a0 a1 k
 obtain ⟨ih0, ih1⟩ := macro_Flat.mono_l k
 unfold macro_Flat.f
 repeat' first
   | (with_reducible exact ih0 _ _ _)
   | (with_reducible exact ih1 _ _ _ _ _ _)
   | (with_reducible exact LeO.refl _)
   | (with_reducible exact LeO.none _)
   | (with_reducible refine LeO.ite ?_ ?_)
   | (with_reducible refine LeO.bind ?_ (fun _ => ?_))
   | exact ih0 _ _ _
   | exact ih1 _ _ _ _ _ _
   | exact LeO.none _
   | refine LeO.ite ?_ ?_
   | refine LeO.bind ?_ (fun _ => ?_)
set_option maxHeartbeats 8000000 in
set_option maxRecDepth 100000 in
theorem macro_Flat.calls (k : Nat) (A0_0 : Option Addr) (c0_0 : Nat) (l0_0 : List (S79)) (A0_1 : Option Addr) (c0_1 : Nat) (l0_1 : List (S40)) (r : Bool) (w : World) (hr0_0 : Kd.C k79 w A0_0 l0_0.length l0_0) (hc0_0 : l0_0.length ≤ c0_0) (hr0_1 : Kd.C k40 w A0_1 l0_1.length l0_1) (hc0_1 : l0_1.length ≤ c0_1) (h : macro_Flat.f k l0_0 l0_1 = some r) :
  Calls Tryd.prog 17 #[.agg #[.slice A0_0 l0_0.length c0_0, .slice A0_1 l0_1.length c0_1]] w fun e w' => e = .returned (.bool r) ∧ Below w.heap.size w w' := by
 have hu25 := Tryd.underlying25
 have hu40 := Tryd.underlying40
 have hu51 := Tryd.underlying51
 have HR0_0 := aK hr0_0; have HC0_0 := aK hc0_0; clear hr0_0 hc0_0; have HR0_1 := aK hr0_1; have HC0_1 := aK hc0_1; clear hr0_1 hc0_1
 have HB := aK (Below.refl w.heap.size w)
 have H : (macro_Flat.l0 k l0_1 (l0_1.length : Int) 0) = some r := h
 clear h
 have H' := aK H
 clear H
 go_enter Tryd.func17, Tryd.ntmps17
 go_wp2_with (first | ((with_reducible refine gate_dst (N := 1) rfl ?_); refine box_event ?hg (N := 1) ?hd (cs := #[.slice A0_0 l0_0.length c0_0, .slice A0_1 l0_1.length c0_1]) (t := 25) ?hr ?_; (case hd => rfl); (case hg => rfl); (case hr => first | (go_simp; done) | (go_simp; rfl)); intro gb182 hg w2 hbox hb; have n0_ := aK (below_step qDoor13_4 hb); have n1_ := aK (hbox); have n2_ := aK ((qDoor13_12 : w.heap.size ≤ gb182)); have n3_ := aK ((qDoor13_12 : w.heap.size ≤ gb182)); clear HB; have HB := n0_; have BK182 := n1_; have GW182 := n2_; have GE182 := n3_; clear n0_ n1_ n2_ n3_; clear hb hbox hg; have hcz3_0 : w2.cell? ⟨gb182, 0, none⟩ = some (.slice A0_0 l0_0.length c0_0) := (blk_cell BK182.out 0).trans rfl; have hcz3_1 : w2.cell? ⟨gb182, 1, none⟩ = some (.slice A0_1 l0_1.length c0_1) := (blk_cell BK182.out 1).trans rfl; have hfz3_0 := blk_frozen BK182.out 0; have hfz3_1 := blk_frozen BK182.out 1))
 go_loopg [10] k (fun kq v10 w' => ∃ (x10_1 : Int), v10 = .int .i64 x10_1 ∧ Aside0 (macro_Flat.l0 kq l0_1 (l0_1.length : Int) x10_1 = some r) ∧ Aside0 (kq ≤ k) ∧ Aside0 (w'.heap[gb182]? = some (.cells #[(.slice A0_0 l0_0.length c0_0), (.slice A0_1 l0_1.length c0_1)] 25 (0, 0))) ∧ Aside0 (Below w.heap.size w w'))
 case atStart => exact ⟨(0), qDoor13_15, H', ⟨Nat.le_refl _⟩, ⟨qDoor13_3⟩, ⟨qDoor13_8⟩⟩
 case round =>
  clear H'; (try clear c1); (try clear p2); (try clear hcz3_0); (try clear hcz3_1); (try clear hfz3_0); (try clear hfz3_1)
  obtain ⟨x10_1, rfl, HA, HK1, BK182, HB⟩ := hrel
  cases gk with
  | zero => exact absurd HA.out (by simp [macro_Flat.l0])
  | succ k1 =>
   have H := HA.out
   clear HA
   simp only [macro_Flat.l0] at H
   by_cases c4 : x10_1 < (l0_1.length : Int)
   ·rw [if_pos c4] at H
    have c4b0 : decide (x10_1 < (l0_1.length : Int)) = true := decide_eq_true c4
    clear c4
    by_cases c5 : 0 ≤ x10_1
    ·rw [if_pos c5] at H
     have c5b0 : decide (0 ≤ x10_1) = true := decide_eq_true c5
     clear c5
     by_cases c6 : x10_1 < (l0_1.length : Int)
     ·rw [if_pos c6] at H
      have c6b0 : decide (x10_1 < (l0_1.length : Int)) = true := decide_eq_true c6
      clear c6
      by_cases c7 : (((rd_T40 l0_1 x10_1).f1).length : Int) > 0
      ·rw [if_pos c7] at H
       have c7b0 : decide (0 < (((rd_T40 l0_1 x10_1).f1).length : Int)) = true := decide_eq_true c7
       have c7b1 : decide (0 < ((rd_T40 l0_1 x10_1).f1).length) = true := decide_eq_true (by omega)
       clear c7
       obtain rfl := Option.some.inj H
       have p183 : 0 ≤ (x10_1 : Int) := of_decide_eq_true qDoor13_17
       have q183 : x10_1 < (l0_1.length : Int) := of_decide_eq_true qDoor13_17
       obtain ⟨ad183, A183_1, c183_1, A183_2, c183_2, e183, hx183_0, hx183_1, hx183_2, hl183_1, hi183_1, hl183_2, hi183_2⟩ := at_T40 HR0_1.out x10_1 p183 q183
       cases e183
       replace hx183_0 := (HB.out.cell (World.block_lt_of_cell? w _ hx183_0)).trans hx183_0
       replace hx183_1 := (HB.out.cell (World.block_lt_of_cell? w _ hx183_1)).trans hx183_1
       replace hx183_2 := (HB.out.cell (World.block_lt_of_cell? w _ hx183_2)).trans hx183_2
       have HR183_1 := aK hi183_1; have HC183_1 := aK hl183_1; clear hi183_1 hl183_1; have HR183_2 := aK hi183_2; have HC183_2 := aK hl183_2; clear hi183_2 hl183_2
       replace p183 := eq_true p183
       replace q183 := eq_true q183
       go_wp2_with (first | ((with_reducible refine gate_dst (N := 4) rfl ?_); refine box_event ?hg (N := 4) ?hd (cs := #[.string (⟨#[]⟩ : ByteArray), .slice none 0 0, .slice none 0 0]) (t := 40) ?hr ?_; (case hd => rfl); (case hg => rfl); (case hr => first | (go_simp; done) | (go_simp; rfl)); intro gb184 hg w8 hbox hb; have n0_ := aK (blk_below (g := gb182) (o := .cells #[.slice A0_0 l0_0.length c0_0, .slice (some ad183) l0_1.length c0_1] 25 (0, 0)) qDoor13_3 hb); have n1_ := aK (below_step qDoor13_8 hb); have n2_ := aK (hbox); have n3_ := aK ((qDoor13_14 : w.heap.size ≤ gb184)); have n4_ := aK ((qDoor13_14 : w.heap.size ≤ gb184)); have n5_ := aK ((qDoor13_6 : gb182 ≠ gb184)); have n6_ := aK ((qDoor13_7 : gb184 ≠ gb182)); clear BK182; clear HB; have BK182 := n0_; have HB := n1_; have BK184 := n2_; have GW184 := n3_; have GE184 := n4_; have NB182_184 := n5_; have NB184_182 := n6_; clear n0_ n1_ n2_ n3_ n4_ n5_ n6_; clear hb hbox hg; have hnb9 := NB184_182.out; have hnc9 := NB182_184.out; have hcz10_0 : w8.cell? ⟨gb184, 0, none⟩ = some (.string (⟨#[]⟩ : ByteArray)) := (blk_cell BK184.out 0).trans rfl; have hcz10_1 : w8.cell? ⟨gb184, 1, none⟩ = some (.slice none 0 0) := (blk_cell BK184.out 1).trans rfl; have hcz10_2 : w8.cell? ⟨gb184, 2, none⟩ = some (.slice none 0 0) := (blk_cell BK184.out 2).trans rfl; have hfz10_0 := blk_frozen BK184.out 0; have hfz10_1 := blk_frozen BK184.out 1; have hfz10_2 := blk_frozen BK184.out 2))
       go_ret
       exact ⟨qDoor13_18, qDoor13_2⟩
      ·rw [if_neg c7] at H
       have c7b0 : decide (0 < (((rd_T40 l0_1 x10_1).f1).length : Int)) = false := decide_eq_false c7
       have c7b1 : decide (0 < ((rd_T40 l0_1 x10_1).f1).length) = false := decide_eq_false (by omega)
       clear c7
       have H' := aK H
       clear H
       have p183 : 0 ≤ (x10_1 : Int) := of_decide_eq_true qDoor13_17
       have q183 : x10_1 < (l0_1.length : Int) := of_decide_eq_true qDoor13_17
       obtain ⟨ad183, A183_1, c183_1, A183_2, c183_2, e183, hx183_0, hx183_1, hx183_2, hl183_1, hi183_1, hl183_2, hi183_2⟩ := at_T40 HR0_1.out x10_1 p183 q183
       cases e183
       replace hx183_0 := (HB.out.cell (World.block_lt_of_cell? w _ hx183_0)).trans hx183_0
       replace hx183_1 := (HB.out.cell (World.block_lt_of_cell? w _ hx183_1)).trans hx183_1
       replace hx183_2 := (HB.out.cell (World.block_lt_of_cell? w _ hx183_2)).trans hx183_2
       have HR183_1 := aK hi183_1; have HC183_1 := aK hl183_1; clear hi183_1 hl183_1; have HR183_2 := aK hi183_2; have HC183_2 := aK hl183_2; clear hi183_2 hl183_2
       replace p183 := eq_true p183
       replace q183 := eq_true q183
       go_wp2_with (first | ((with_reducible refine gate_dst (N := 4) rfl ?_); refine box_event ?hg (N := 4) ?hd (cs := #[.string (⟨#[]⟩ : ByteArray), .slice none 0 0, .slice none 0 0]) (t := 40) ?hr ?_; (case hd => rfl); (case hg => rfl); (case hr => first | (go_simp; done) | (go_simp; rfl)); intro gb184 hg w11 hbox hb; have n0_ := aK (blk_below (g := gb182) (o := .cells #[.slice A0_0 l0_0.length c0_0, .slice (some ad183) l0_1.length c0_1] 25 (0, 0)) qDoor13_3 hb); have n1_ := aK (below_step qDoor13_8 hb); have n2_ := aK (hbox); have n3_ := aK ((qDoor13_14 : w.heap.size ≤ gb184)); have n4_ := aK ((qDoor13_14 : w.heap.size ≤ gb184)); have n5_ := aK ((qDoor13_6 : gb182 ≠ gb184)); have n6_ := aK ((qDoor13_7 : gb184 ≠ gb182)); clear BK182; clear HB; have BK182 := n0_; have HB := n1_; have BK184 := n2_; have GW184 := n3_; have GE184 := n4_; have NB182_184 := n5_; have NB184_182 := n6_; clear n0_ n1_ n2_ n3_ n4_ n5_ n6_; clear hb hbox hg; have hnb12 := NB184_182.out; have hnc12 := NB182_184.out; have hcz13_0 : w11.cell? ⟨gb184, 0, none⟩ = some (.string (⟨#[]⟩ : ByteArray)) := (blk_cell BK184.out 0).trans rfl; have hcz13_1 : w11.cell? ⟨gb184, 1, none⟩ = some (.slice none 0 0) := (blk_cell BK184.out 1).trans rfl; have hcz13_2 : w11.cell? ⟨gb184, 2, none⟩ = some (.slice none 0 0) := (blk_cell BK184.out 2).trans rfl; have hfz13_0 := blk_frozen BK184.out 0; have hfz13_1 := blk_frozen BK184.out 1; have hfz13_2 := blk_frozen BK184.out 2))
       go_loopg [21] k1 (fun kq v21 w' => ∃ (x21_2 : Int), v21 = .int .i64 x21_2 ∧ Aside0 (macro_Flat.l1 kq l0_1 (l0_1.length : Int) x10_1 ((rd_T40 l0_1 x10_1).f2) (((rd_T40 l0_1 x10_1).f2).length : Int) x21_2 = some r) ∧ Aside0 (kq ≤ k1) ∧ Aside0 (w'.heap[gb182]? = some (.cells #[(.slice A0_0 l0_0.length c0_0), (.slice (some ad183) l0_1.length c0_1)] 25 (0, 0))) ∧ Aside0 (w'.heap[gb184]? = some (.cells #[.string ((rd_T40 l0_1 x10_1).f0), (.slice A183_1 ((rd_T40 l0_1 x10_1).f1).length c183_1), (.slice A183_2 ((rd_T40 l0_1 x10_1).f2).length c183_2)] 40 (0, 0))) ∧ Aside0 (Below w.heap.size w w'))
       case atStart => exact ⟨(0), qDoor13_15, H', ⟨Nat.le_refl _⟩, ⟨by (with_reducible repeat (first | refine blk_drewN ?_ _ | refine blk_drew ?_ | refine blk_alloc ?_ _)); refine blk_far ?_ NB182_184.out _; (with_reducible repeat (first | refine blk_drewN ?_ _ | refine blk_drew ?_ | refine blk_alloc ?_ _)); refine blk_far ?_ NB182_184.out _; (with_reducible repeat (first | refine blk_drewN ?_ _ | refine blk_drew ?_ | refine blk_alloc ?_ _)); refine blk_far ?_ NB182_184.out _; (with_reducible repeat (first | refine blk_drewN ?_ _ | refine blk_drew ?_ | refine blk_alloc ?_ _)); exact BK182.out⟩, ⟨by (with_reducible repeat (first | refine blk_drewN ?_ _ | refine blk_drew ?_ | refine blk_alloc ?_ _)); refine blk_put (cs := #[.string ((rd_T40 l0_1 x10_1).f0), .slice A183_1 ((rd_T40 l0_1 x10_1).f1).length c183_1, .slice none 0 0]) ?_ 2 _ rfl; (with_reducible repeat (first | refine blk_drewN ?_ _ | refine blk_drew ?_ | refine blk_alloc ?_ _)); refine blk_put (cs := #[.string ((rd_T40 l0_1 x10_1).f0), .slice none 0 0, .slice none 0 0]) ?_ 1 _ rfl; (with_reducible repeat (first | refine blk_drewN ?_ _ | refine blk_drew ?_ | refine blk_alloc ?_ _)); refine blk_put (cs := #[.string (⟨#[]⟩ : ByteArray), .slice none 0 0, .slice none 0 0]) ?_ 0 _ rfl; (with_reducible repeat (first | refine blk_drewN ?_ _ | refine blk_drew ?_ | refine blk_alloc ?_ _)); exact BK184.out⟩, ⟨qDoor13_2⟩⟩
       case round =>
        clear H'; (try clear c1); (try clear p1); (try clear q1); (try clear hx1); (try clear p2); (try clear c4); (try clear c4b0); (try clear c5); (try clear c5b0); (try clear c6); (try clear c6b0); (try clear c7); (try clear c7b0); (try clear c7b1); (try clear c9); (try clear c12); (try clear hcz10_0); (try clear hcz10_1); (try clear hcz10_2); (try clear hcz13_0); (try clear hcz13_1); (try clear hcz13_2); (try clear hcz3_0); (try clear hcz3_1); (try clear hfz10_0); (try clear hfz10_1); (try clear hfz10_2); (try clear hfz13_0); (try clear hfz13_1); (try clear hfz13_2); (try clear hfz3_0); (try clear hfz3_1); (try clear hx183_0); (try clear hx183_1); (try clear hx183_2); (try clear p183); (try clear p2); (try clear q183)
        obtain ⟨x21_2, rfl, HA, HK2, BK182, BK184, HB⟩ := hrel
        cases gk with
        | zero => exact absurd HA.out (by simp [macro_Flat.l1])
        | succ k2 =>
         have H := HA.out
         clear HA
         simp only [macro_Flat.l1] at H
         by_cases c14 : x21_2 < (((rd_T40 l0_1 x10_1).f2).length : Int)
         ·rw [if_pos c14] at H
          have c14b0 : decide (x21_2 < (((rd_T40 l0_1 x10_1).f2).length : Int)) = true := decide_eq_true c14
          clear c14
          by_cases c15 : 0 ≤ x21_2
          ·rw [if_pos c15] at H
           have c15b0 : decide (0 ≤ x21_2) = true := decide_eq_true c15
           clear c15
           by_cases c16 : x21_2 < (((rd_T40 l0_1 x10_1).f2).length : Int)
           ·rw [if_pos c16] at H
            have c16b0 : decide (x21_2 < (((rd_T40 l0_1 x10_1).f2).length : Int)) = true := decide_eq_true c16
            clear c16
            by_cases c17 : ((rd_T51 ((rd_T40 l0_1 x10_1).f2) x21_2).f0) = 4
            ·rw [if_pos c17] at H
             have c17b0 : (((rd_T51 ((rd_T40 l0_1 x10_1).f2) x21_2).f0) == 4) = true := beq_iff_eq.mpr c17
             have c17b1 : (((rd_T51 ((rd_T40 l0_1 x10_1).f2) x21_2).f0) != 4) = false := bne_eq_false_iff_eq.mpr c17
             clear c17
             by_cases c18 : ((rd_T51 ((rd_T40 l0_1 x10_1).f2) x21_2).f1) > 0
             ·rw [if_pos c18] at H
              have c18b0 : decide (0 < ((rd_T51 ((rd_T40 l0_1 x10_1).f2) x21_2).f1)) = true := decide_eq_true c18
              clear c18
              obtain rfl := Option.some.inj H
              have p185 : 0 ≤ (x21_2 : Int) := of_decide_eq_true qDoor13_17
              have q185 : x21_2 < (((rd_T40 l0_1 x10_1).f2).length : Int) := of_decide_eq_true qDoor13_17
              obtain ⟨ad185, e185, hx185_0, hx185_1, hx185_2, hx185_3, hx185_4, hx185_5, hx185_6, hx185_7, hx185_8, hx185_9⟩ := at_T51 HR183_2.out x21_2 p185 q185
              cases e185
              replace hx185_0 := (HB.out.cell (World.block_lt_of_cell? w _ hx185_0)).trans hx185_0
              replace hx185_1 := (HB.out.cell (World.block_lt_of_cell? w _ hx185_1)).trans hx185_1
              replace hx185_2 := (HB.out.cell (World.block_lt_of_cell? w _ hx185_2)).trans hx185_2
              replace hx185_3 := (HB.out.cell (World.block_lt_of_cell? w _ hx185_3)).trans hx185_3
              replace hx185_4 := (HB.out.cell (World.block_lt_of_cell? w _ hx185_4)).trans hx185_4
              replace hx185_5 := (HB.out.cell (World.block_lt_of_cell? w _ hx185_5)).trans hx185_5
              replace hx185_6 := (HB.out.cell (World.block_lt_of_cell? w _ hx185_6)).trans hx185_6
              replace hx185_7 := (HB.out.cell (World.block_lt_of_cell? w _ hx185_7)).trans hx185_7
              replace hx185_8 := (HB.out.cell (World.block_lt_of_cell? w _ hx185_8)).trans hx185_8
              replace hx185_9 := (HB.out.cell (World.block_lt_of_cell? w _ hx185_9)).trans hx185_9
              replace p185 := eq_true p185
              replace q185 := eq_true q185
              go_wp2_with (first | ((with_reducible refine gate_dst (N := 6) rfl ?_); refine box_event ?hg (N := 6) ?hd (cs := #[.int .i64 0, .int .i64 0, .string (⟨#[]⟩ : ByteArray), .bool false, .int .u64 0, .int .u64 0, .int .u64 0, .int .u64 0, .int .i64 0, .int .i64 0]) (t := 51) ?hr ?_; (case hd => rfl); (case hg => rfl); (case hr => first | (go_simp; done) | (go_simp; rfl)); intro gb186 hg w19 hbox hb; have n0_ := aK (blk_below (g := gb182) (o := .cells #[.slice A0_0 l0_0.length c0_0, .slice (some ad183) l0_1.length c0_1] 25 (0, 0)) qDoor13_3 hb); have n1_ := aK (blk_below (g := gb184) (o := .cells #[.string ((rd_T40 l0_1 x10_1).f0), .slice A183_1 ((rd_T40 l0_1 x10_1).f1).length c183_1, .slice (some ad185) ((rd_T40 l0_1 x10_1).f2).length c183_2] 40 (0, 0)) qDoor13_9 hb); have n2_ := aK (below_step qDoor13_2 hb); have n3_ := aK (hbox); have n4_ := aK ((qDoor13_5 : w.heap.size ≤ gb186)); have n5_ := aK ((qDoor13_5 : w.heap.size ≤ gb186)); have n6_ := aK ((qDoor13_6 : gb182 ≠ gb186)); have n7_ := aK ((qDoor13_7 : gb186 ≠ gb182)); have n8_ := aK ((qDoor13_10 : gb184 ≠ gb186)); have n9_ := aK ((qDoor13_11 : gb186 ≠ gb184)); clear BK182; clear BK184; clear HB; have BK182 := n0_; have BK184 := n1_; have HB := n2_; have BK186 := n3_; have GW186 := n4_; have GE186 := n5_; have NB182_186 := n6_; have NB186_182 := n7_; have NB184_186 := n8_; have NB186_184 := n9_; clear n0_ n1_ n2_ n3_ n4_ n5_ n6_ n7_ n8_ n9_; clear hb hbox hg; have hnb20 := NB186_182.out; have hnc20 := NB182_186.out; have hnb21 := NB186_184.out; have hnc21 := NB184_186.out; have hcz22_0 : w19.cell? ⟨gb186, 0, none⟩ = some (.int .i64 0) := (blk_cell BK186.out 0).trans rfl; have hcz22_1 : w19.cell? ⟨gb186, 1, none⟩ = some (.int .i64 0) := (blk_cell BK186.out 1).trans rfl; have hcz22_2 : w19.cell? ⟨gb186, 2, none⟩ = some (.string (⟨#[]⟩ : ByteArray)) := (blk_cell BK186.out 2).trans rfl; have hcz22_3 : w19.cell? ⟨gb186, 3, none⟩ = some (.bool false) := (blk_cell BK186.out 3).trans rfl; have hcz22_4 : w19.cell? ⟨gb186, 4, none⟩ = some (.int .u64 0) := (blk_cell BK186.out 4).trans rfl; have hcz22_5 : w19.cell? ⟨gb186, 5, none⟩ = some (.int .u64 0) := (blk_cell BK186.out 5).trans rfl; have hcz22_6 : w19.cell? ⟨gb186, 6, none⟩ = some (.int .u64 0) := (blk_cell BK186.out 6).trans rfl; have hcz22_7 : w19.cell? ⟨gb186, 7, none⟩ = some (.int .u64 0) := (blk_cell BK186.out 7).trans rfl; have hcz22_8 : w19.cell? ⟨gb186, 8, none⟩ = some (.int .i64 0) := (blk_cell BK186.out 8).trans rfl; have hcz22_9 : w19.cell? ⟨gb186, 9, none⟩ = some (.int .i64 0) := (blk_cell BK186.out 9).trans rfl; have hfz22_0 := blk_frozen BK186.out 0; have hfz22_1 := blk_frozen BK186.out 1; have hfz22_2 := blk_frozen BK186.out 2; have hfz22_3 := blk_frozen BK186.out 3; have hfz22_4 := blk_frozen BK186.out 4; have hfz22_5 := blk_frozen BK186.out 5; have hfz22_6 := blk_frozen BK186.out 6; have hfz22_7 := blk_frozen BK186.out 7; have hfz22_8 := blk_frozen BK186.out 8; have hfz22_9 := blk_frozen BK186.out 9))
              go_ret
              exact ⟨qDoor13_18, qDoor13_16⟩
             ·rw [if_neg c18] at H
              have c18b0 : decide (0 < ((rd_T51 ((rd_T40 l0_1 x10_1).f2) x21_2).f1)) = false := decide_eq_false c18
              clear c18
              have H' := aK H
              clear H
              have p185 : 0 ≤ (x21_2 : Int) := of_decide_eq_true qDoor13_17
              have q185 : x21_2 < (((rd_T40 l0_1 x10_1).f2).length : Int) := of_decide_eq_true qDoor13_17
              obtain ⟨ad185, e185, hx185_0, hx185_1, hx185_2, hx185_3, hx185_4, hx185_5, hx185_6, hx185_7, hx185_8, hx185_9⟩ := at_T51 HR183_2.out x21_2 p185 q185
              cases e185
              replace hx185_0 := (HB.out.cell (World.block_lt_of_cell? w _ hx185_0)).trans hx185_0
              replace hx185_1 := (HB.out.cell (World.block_lt_of_cell? w _ hx185_1)).trans hx185_1
              replace hx185_2 := (HB.out.cell (World.block_lt_of_cell? w _ hx185_2)).trans hx185_2
              replace hx185_3 := (HB.out.cell (World.block_lt_of_cell? w _ hx185_3)).trans hx185_3
              replace hx185_4 := (HB.out.cell (World.block_lt_of_cell? w _ hx185_4)).trans hx185_4
              replace hx185_5 := (HB.out.cell (World.block_lt_of_cell? w _ hx185_5)).trans hx185_5
              replace hx185_6 := (HB.out.cell (World.block_lt_of_cell? w _ hx185_6)).trans hx185_6
              replace hx185_7 := (HB.out.cell (World.block_lt_of_cell? w _ hx185_7)).trans hx185_7
              replace hx185_8 := (HB.out.cell (World.block_lt_of_cell? w _ hx185_8)).trans hx185_8
              replace hx185_9 := (HB.out.cell (World.block_lt_of_cell? w _ hx185_9)).trans hx185_9
              replace p185 := eq_true p185
              replace q185 := eq_true q185
              go_wp2_with (first | ((with_reducible refine gate_dst (N := 6) rfl ?_); refine box_event ?hg (N := 6) ?hd (cs := #[.int .i64 0, .int .i64 0, .string (⟨#[]⟩ : ByteArray), .bool false, .int .u64 0, .int .u64 0, .int .u64 0, .int .u64 0, .int .i64 0, .int .i64 0]) (t := 51) ?hr ?_; (case hd => rfl); (case hg => rfl); (case hr => first | (go_simp; done) | (go_simp; rfl)); intro gb186 hg w23 hbox hb; have n0_ := aK (blk_below (g := gb182) (o := .cells #[.slice A0_0 l0_0.length c0_0, .slice (some ad183) l0_1.length c0_1] 25 (0, 0)) qDoor13_3 hb); have n1_ := aK (blk_below (g := gb184) (o := .cells #[.string ((rd_T40 l0_1 x10_1).f0), .slice A183_1 ((rd_T40 l0_1 x10_1).f1).length c183_1, .slice (some ad185) ((rd_T40 l0_1 x10_1).f2).length c183_2] 40 (0, 0)) qDoor13_9 hb); have n2_ := aK (below_step qDoor13_2 hb); have n3_ := aK (hbox); have n4_ := aK ((qDoor13_5 : w.heap.size ≤ gb186)); have n5_ := aK ((qDoor13_5 : w.heap.size ≤ gb186)); have n6_ := aK ((qDoor13_6 : gb182 ≠ gb186)); have n7_ := aK ((qDoor13_7 : gb186 ≠ gb182)); have n8_ := aK ((qDoor13_10 : gb184 ≠ gb186)); have n9_ := aK ((qDoor13_11 : gb186 ≠ gb184)); clear BK182; clear BK184; clear HB; have BK182 := n0_; have BK184 := n1_; have HB := n2_; have BK186 := n3_; have GW186 := n4_; have GE186 := n5_; have NB182_186 := n6_; have NB186_182 := n7_; have NB184_186 := n8_; have NB186_184 := n9_; clear n0_ n1_ n2_ n3_ n4_ n5_ n6_ n7_ n8_ n9_; clear hb hbox hg; have hnb24 := NB186_182.out; have hnc24 := NB182_186.out; have hnb25 := NB186_184.out; have hnc25 := NB184_186.out; have hcz26_0 : w23.cell? ⟨gb186, 0, none⟩ = some (.int .i64 0) := (blk_cell BK186.out 0).trans rfl; have hcz26_1 : w23.cell? ⟨gb186, 1, none⟩ = some (.int .i64 0) := (blk_cell BK186.out 1).trans rfl; have hcz26_2 : w23.cell? ⟨gb186, 2, none⟩ = some (.string (⟨#[]⟩ : ByteArray)) := (blk_cell BK186.out 2).trans rfl; have hcz26_3 : w23.cell? ⟨gb186, 3, none⟩ = some (.bool false) := (blk_cell BK186.out 3).trans rfl; have hcz26_4 : w23.cell? ⟨gb186, 4, none⟩ = some (.int .u64 0) := (blk_cell BK186.out 4).trans rfl; have hcz26_5 : w23.cell? ⟨gb186, 5, none⟩ = some (.int .u64 0) := (blk_cell BK186.out 5).trans rfl; have hcz26_6 : w23.cell? ⟨gb186, 6, none⟩ = some (.int .u64 0) := (blk_cell BK186.out 6).trans rfl; have hcz26_7 : w23.cell? ⟨gb186, 7, none⟩ = some (.int .u64 0) := (blk_cell BK186.out 7).trans rfl; have hcz26_8 : w23.cell? ⟨gb186, 8, none⟩ = some (.int .i64 0) := (blk_cell BK186.out 8).trans rfl; have hcz26_9 : w23.cell? ⟨gb186, 9, none⟩ = some (.int .i64 0) := (blk_cell BK186.out 9).trans rfl; have hfz26_0 := blk_frozen BK186.out 0; have hfz26_1 := blk_frozen BK186.out 1; have hfz26_2 := blk_frozen BK186.out 2; have hfz26_3 := blk_frozen BK186.out 3; have hfz26_4 := blk_frozen BK186.out 4; have hfz26_5 := blk_frozen BK186.out 5; have hfz26_6 := blk_frozen BK186.out 6; have hfz26_7 := blk_frozen BK186.out 7; have hfz26_8 := blk_frozen BK186.out 8; have hfz26_9 := blk_frozen BK186.out 9))
              go_roundg k2
              case measure => have := HK1.out; have := HK2.out; omega
              case rel => exact ⟨(wrap64 (x21_2 + 1)), qDoor13_15, H', ⟨qDoor13_23⟩, ⟨qDoor13_0⟩, ⟨qDoor13_1⟩, ⟨qDoor13_16⟩⟩
            ·rw [if_neg c17] at H
             have c17b0 : (((rd_T51 ((rd_T40 l0_1 x10_1).f2) x21_2).f0) == 4) = false := beq_eq_false_iff_ne.mpr c17
             have c17b1 : (((rd_T51 ((rd_T40 l0_1 x10_1).f2) x21_2).f0) != 4) = true := bne_iff_ne.mpr c17
             have H' := aK H
             clear H
             have p185 : 0 ≤ (x21_2 : Int) := of_decide_eq_true qDoor13_17
             have q185 : x21_2 < (((rd_T40 l0_1 x10_1).f2).length : Int) := of_decide_eq_true qDoor13_17
             obtain ⟨ad185, e185, hx185_0, hx185_1, hx185_2, hx185_3, hx185_4, hx185_5, hx185_6, hx185_7, hx185_8, hx185_9⟩ := at_T51 HR183_2.out x21_2 p185 q185
             cases e185
             replace hx185_0 := (HB.out.cell (World.block_lt_of_cell? w _ hx185_0)).trans hx185_0
             replace hx185_1 := (HB.out.cell (World.block_lt_of_cell? w _ hx185_1)).trans hx185_1
             replace hx185_2 := (HB.out.cell (World.block_lt_of_cell? w _ hx185_2)).trans hx185_2
             replace hx185_3 := (HB.out.cell (World.block_lt_of_cell? w _ hx185_3)).trans hx185_3
             replace hx185_4 := (HB.out.cell (World.block_lt_of_cell? w _ hx185_4)).trans hx185_4
             replace hx185_5 := (HB.out.cell (World.block_lt_of_cell? w _ hx185_5)).trans hx185_5
             replace hx185_6 := (HB.out.cell (World.block_lt_of_cell? w _ hx185_6)).trans hx185_6
             replace hx185_7 := (HB.out.cell (World.block_lt_of_cell? w _ hx185_7)).trans hx185_7
             replace hx185_8 := (HB.out.cell (World.block_lt_of_cell? w _ hx185_8)).trans hx185_8
             replace hx185_9 := (HB.out.cell (World.block_lt_of_cell? w _ hx185_9)).trans hx185_9
             replace p185 := eq_true p185
             replace q185 := eq_true q185
             go_wp2_with (first | ((with_reducible refine gate_dst (N := 6) rfl ?_); refine box_event ?hg (N := 6) ?hd (cs := #[.int .i64 0, .int .i64 0, .string (⟨#[]⟩ : ByteArray), .bool false, .int .u64 0, .int .u64 0, .int .u64 0, .int .u64 0, .int .i64 0, .int .i64 0]) (t := 51) ?hr ?_; (case hd => rfl); (case hg => rfl); (case hr => first | (go_simp; done) | (go_simp; rfl)); intro gb186 hg w27 hbox hb; have n0_ := aK (blk_below (g := gb182) (o := .cells #[.slice A0_0 l0_0.length c0_0, .slice (some ad183) l0_1.length c0_1] 25 (0, 0)) qDoor13_3 hb); have n1_ := aK (blk_below (g := gb184) (o := .cells #[.string ((rd_T40 l0_1 x10_1).f0), .slice A183_1 ((rd_T40 l0_1 x10_1).f1).length c183_1, .slice (some ad185) ((rd_T40 l0_1 x10_1).f2).length c183_2] 40 (0, 0)) qDoor13_9 hb); have n2_ := aK (below_step qDoor13_2 hb); have n3_ := aK (hbox); have n4_ := aK ((qDoor13_5 : w.heap.size ≤ gb186)); have n5_ := aK ((qDoor13_5 : w.heap.size ≤ gb186)); have n6_ := aK ((qDoor13_6 : gb182 ≠ gb186)); have n7_ := aK ((qDoor13_7 : gb186 ≠ gb182)); have n8_ := aK ((qDoor13_10 : gb184 ≠ gb186)); have n9_ := aK ((qDoor13_11 : gb186 ≠ gb184)); clear BK182; clear BK184; clear HB; have BK182 := n0_; have BK184 := n1_; have HB := n2_; have BK186 := n3_; have GW186 := n4_; have GE186 := n5_; have NB182_186 := n6_; have NB186_182 := n7_; have NB184_186 := n8_; have NB186_184 := n9_; clear n0_ n1_ n2_ n3_ n4_ n5_ n6_ n7_ n8_ n9_; clear hb hbox hg; have hnb28 := NB186_182.out; have hnc28 := NB182_186.out; have hnb29 := NB186_184.out; have hnc29 := NB184_186.out; have hcz30_0 : w27.cell? ⟨gb186, 0, none⟩ = some (.int .i64 0) := (blk_cell BK186.out 0).trans rfl; have hcz30_1 : w27.cell? ⟨gb186, 1, none⟩ = some (.int .i64 0) := (blk_cell BK186.out 1).trans rfl; have hcz30_2 : w27.cell? ⟨gb186, 2, none⟩ = some (.string (⟨#[]⟩ : ByteArray)) := (blk_cell BK186.out 2).trans rfl; have hcz30_3 : w27.cell? ⟨gb186, 3, none⟩ = some (.bool false) := (blk_cell BK186.out 3).trans rfl; have hcz30_4 : w27.cell? ⟨gb186, 4, none⟩ = some (.int .u64 0) := (blk_cell BK186.out 4).trans rfl; have hcz30_5 : w27.cell? ⟨gb186, 5, none⟩ = some (.int .u64 0) := (blk_cell BK186.out 5).trans rfl; have hcz30_6 : w27.cell? ⟨gb186, 6, none⟩ = some (.int .u64 0) := (blk_cell BK186.out 6).trans rfl; have hcz30_7 : w27.cell? ⟨gb186, 7, none⟩ = some (.int .u64 0) := (blk_cell BK186.out 7).trans rfl; have hcz30_8 : w27.cell? ⟨gb186, 8, none⟩ = some (.int .i64 0) := (blk_cell BK186.out 8).trans rfl; have hcz30_9 : w27.cell? ⟨gb186, 9, none⟩ = some (.int .i64 0) := (blk_cell BK186.out 9).trans rfl; have hfz30_0 := blk_frozen BK186.out 0; have hfz30_1 := blk_frozen BK186.out 1; have hfz30_2 := blk_frozen BK186.out 2; have hfz30_3 := blk_frozen BK186.out 3; have hfz30_4 := blk_frozen BK186.out 4; have hfz30_5 := blk_frozen BK186.out 5; have hfz30_6 := blk_frozen BK186.out 6; have hfz30_7 := blk_frozen BK186.out 7; have hfz30_8 := blk_frozen BK186.out 8; have hfz30_9 := blk_frozen BK186.out 9))
             go_roundg k2
             case measure => have := HK1.out; have := HK2.out; omega
             case rel => exact ⟨(wrap64 (x21_2 + 1)), qDoor13_15, H', ⟨qDoor13_23⟩, ⟨qDoor13_0⟩, ⟨qDoor13_1⟩, ⟨qDoor13_16⟩⟩
           ·rw [if_neg c16] at H
            exact absurd H (by simp)
          ·rw [if_neg c15] at H
           exact absurd H (by simp)
         ·rw [if_neg c14] at H
          have c14b0 : decide (x21_2 < (((rd_T40 l0_1 x10_1).f2).length : Int)) = false := decide_eq_false c14
          clear c14
          have H' := aK H
          clear H
          go_wp2
          go_roundg k2
          case measure => have := HK1.out; have := HK2.out; omega
          case rel => exact ⟨(wrap64 (x10_1 + 1)), qDoor13_15, H', ⟨qDoor13_23⟩, ⟨qDoor13_3⟩, ⟨qDoor13_2⟩⟩
     ·rw [if_neg c6] at H
      exact absurd H (by simp)
    ·rw [if_neg c5] at H
     exact absurd H (by simp)
   ·rw [if_neg c4] at H
    have c4b0 : decide (x10_1 < (l0_1.length : Int)) = false := decide_eq_false c4
    clear c4
    obtain rfl := Option.some.inj H
    go_wp2
    go_ret
    exact ⟨qDoor13_18, qDoor13_8⟩
def core_op.f (a0 : Int) : Option ((List (S55))) := some (([(⟨a0, (⟨0, 0, 0, 0⟩ : S49), 0, (⟨#[]⟩ : ByteArray)⟩ : S55)] : List (S55)))
set_option maxHeartbeats 8000000 in
set_option maxRecDepth 100000 in
theorem core_op.calls (a0 : Int) (r : List (S55)) (w : World) (h : core_op.f a0 = some r) :
  Calls Tryd.prog 41 #[.int .i64 a0] w fun e w' => ∃ v0_ : Value, e = .returned (v0_) ∧ Kd.R k55 55 w' w.heap.size (fun _ => True) v0_ r ∧ Below w.heap.size w w' := by
 have hu55 := Tryd.underlying55
 have HB := aK (Below.refl w.heap.size w)
 have H : (some (([(⟨a0, (⟨0, 0, 0, 0⟩ : S49), 0, (⟨#[]⟩ : ByteArray)⟩ : S55)] : List (S55)))) = some r := h
 clear h
 obtain ⟨y187, hy187⟩ : ∃ y_ : List (S55), y_ = (([(⟨a0, (⟨0, 0, 0, 0⟩ : S49), 0, (⟨#[]⟩ : ByteArray)⟩ : S55)] : List (S55))) := ⟨_, rfl⟩
 replace H : (some y187) = some r := by first | (rw [hy187]; with_reducible exact H) | (have H2_ := (Option.bind_some _ _).symm.trans H; rw [hy187]; with_reducible exact H2_) | (have H2_ := (Option.bind_some _ _).symm.trans H; with_reducible exact H2_) | with_reducible exact H | (rw [hy187]; exact H) | exact H
 have Ny187 := aK hy187; clear hy187
 obtain rfl := Option.some.inj H
 go_enter Tryd.func41, Tryd.ntmps41
 go_wp2_with (first | ((with_reducible refine gate_dst (N := 5) rfl ?_); refine Kd.R_lit k55 _ 55 ?hg (N := 5) ?hd (xs := ([(⟨a0, (⟨0, 0, 0, 0⟩ : S49), 0, (⟨#[]⟩ : ByteArray)⟩ : S55)] : List (S55))) (inner := [.int .i64 a0, .int .u64 0, .int .u64 0, .int .u64 0, .int .u64 0, .int .i64 0, .string (⟨#[]⟩ : ByteArray)]) (ok := fun _ => True) (okp := fun _ => True) ?hr ?hp (fun _ hk => hk) trivial (Below.refl _ _) (Nat.le_refl _) (by simp) ?_; (case hd => rfl); (case hg => rfl); (case hr => first | (go_simp; done) | (go_simp; rfl)); (case hp => exact (Reps.c7 (show Kd.M k55 _ _ _ (⟨a0, (⟨0, 0, 0, 0⟩ : S49), 0, (⟨#[]⟩ : ByteArray)⟩ : S55) [.int .i64 a0, .int .u64 0, .int .u64 0, .int .u64 0, .int .u64 0, .int .i64 0, .string (⟨#[]⟩ : ByteArray)] from (k55_mkM _ _ _ (⟨a0, (⟨0, 0, 0, 0⟩ : S49), 0, (⟨#[]⟩ : ByteArray)⟩ : S55) )) (Reps.none _ _))); intro v188 w2 ho3 hb hg_ hnew_; clear hg_ hnew_; (first | rw [← Ny187.out] at ho3 | (simp only [Int.reduceToNat] at ho3; rw [← Ny187.out] at ho3)); have n0_ := aK (Kd.R_lower ho3 (below_size qDoor13_4)); have n1_ := aK (below_step qDoor13_4 hb); clear HB; have HO189 := n0_; have HB := n1_; clear n0_ n1_; clear hb ho3))
 go_ret
 exact ⟨_, qDoor13_18, by (with_reducible repeat (first | apply Kd.R_alloc | apply Kd.R_drewN | apply Kd.R_drew)); exact HO189.out, qDoor13_4⟩
def core_set.f (a0_0 : Int) (a0_1 : Int) (a0_2 : Int) (a0_3 : Int) : Option ((List (S55))) := some (([(⟨1, (⟨a0_0, a0_1, a0_2, a0_3⟩ : S49), 0, (⟨#[]⟩ : ByteArray)⟩ : S55)] : List (S55)))
set_option maxHeartbeats 8000000 in
set_option maxRecDepth 100000 in
theorem core_set.calls (a0_0 : Int) (a0_1 : Int) (a0_2 : Int) (a0_3 : Int) (r : List (S55)) (w : World) (h : core_set.f a0_0 a0_1 a0_2 a0_3 = some r) :
  Calls Tryd.prog 45 #[.agg #[.int .u64 a0_0, .int .u64 a0_1, .int .u64 a0_2, .int .u64 a0_3]] w fun e w' => ∃ v0_ : Value, e = .returned (v0_) ∧ Kd.R k55 55 w' w.heap.size (fun _ => True) v0_ r ∧ Below w.heap.size w w' := by
 have hu49 := Tryd.underlying49
 have hu55 := Tryd.underlying55
 have HB := aK (Below.refl w.heap.size w)
 have H : (some (([(⟨1, (⟨a0_0, a0_1, a0_2, a0_3⟩ : S49), 0, (⟨#[]⟩ : ByteArray)⟩ : S55)] : List (S55)))) = some r := h
 clear h
 obtain ⟨y191, hy191⟩ : ∃ y_ : List (S55), y_ = (([(⟨1, (⟨a0_0, a0_1, a0_2, a0_3⟩ : S49), 0, (⟨#[]⟩ : ByteArray)⟩ : S55)] : List (S55))) := ⟨_, rfl⟩
 replace H : (some y191) = some r := by first | (rw [hy191]; with_reducible exact H) | (have H2_ := (Option.bind_some _ _).symm.trans H; rw [hy191]; with_reducible exact H2_) | (have H2_ := (Option.bind_some _ _).symm.trans H; with_reducible exact H2_) | with_reducible exact H | (rw [hy191]; exact H) | exact H
 have Ny191 := aK hy191; clear hy191
 obtain rfl := Option.some.inj H
 go_enter Tryd.func45, Tryd.ntmps45
 go_wp2_with (first | ((with_reducible refine gate_dst (N := 1) rfl ?_); refine box_event ?hg (N := 1) ?hd (cs := #[.int .u64 a0_0, .int .u64 a0_1, .int .u64 a0_2, .int .u64 a0_3]) (t := 49) ?hr ?_; (case hd => rfl); (case hg => rfl); (case hr => first | (go_simp; done) | (go_simp; rfl)); intro gb190 hg w2 hbox hb; have n0_ := aK (below_step qDoor13_4 hb); have n1_ := aK (hbox); have n2_ := aK ((qDoor13_12 : w.heap.size ≤ gb190)); have n3_ := aK ((qDoor13_12 : w.heap.size ≤ gb190)); clear HB; have HB := n0_; have BK190 := n1_; have GW190 := n2_; have GE190 := n3_; clear n0_ n1_ n2_ n3_; clear hb hbox hg; have hcz3_0 : w2.cell? ⟨gb190, 0, none⟩ = some (.int .u64 a0_0) := (blk_cell BK190.out 0).trans rfl; have hcz3_1 : w2.cell? ⟨gb190, 1, none⟩ = some (.int .u64 a0_1) := (blk_cell BK190.out 1).trans rfl; have hcz3_2 : w2.cell? ⟨gb190, 2, none⟩ = some (.int .u64 a0_2) := (blk_cell BK190.out 2).trans rfl; have hcz3_3 : w2.cell? ⟨gb190, 3, none⟩ = some (.int .u64 a0_3) := (blk_cell BK190.out 3).trans rfl; have hfz3_0 := blk_frozen BK190.out 0; have hfz3_1 := blk_frozen BK190.out 1; have hfz3_2 := blk_frozen BK190.out 2; have hfz3_3 := blk_frozen BK190.out 3) | ((with_reducible refine gate_dst (N := 5) rfl ?_); refine Kd.R_lit k55 _ 55 ?hg (N := 5) ?hd (xs := ([(⟨1, (⟨a0_0, a0_1, a0_2, a0_3⟩ : S49), 0, (⟨#[]⟩ : ByteArray)⟩ : S55)] : List (S55))) (inner := [.int .i64 1, .int .u64 a0_0, .int .u64 a0_1, .int .u64 a0_2, .int .u64 a0_3, .int .i64 0, .string (⟨#[]⟩ : ByteArray)]) (ok := fun _ => True) (okp := fun _ => True) ?hr ?hp (fun _ hk => hk) trivial (Below.refl _ _) (Nat.le_refl _) (by simp) ?_; (case hd => rfl); (case hg => rfl); (case hr => first | (go_simp; done) | (go_simp; rfl)); (case hp => exact (Reps.c7 (show Kd.M k55 _ _ _ (⟨1, (⟨a0_0, a0_1, a0_2, a0_3⟩ : S49), 0, (⟨#[]⟩ : ByteArray)⟩ : S55) [.int .i64 1, .int .u64 a0_0, .int .u64 a0_1, .int .u64 a0_2, .int .u64 a0_3, .int .i64 0, .string (⟨#[]⟩ : ByteArray)] from (k55_mkM _ _ _ (⟨1, (⟨a0_0, a0_1, a0_2, a0_3⟩ : S49), 0, (⟨#[]⟩ : ByteArray)⟩ : S55) )) (Reps.none _ _))); intro v192 w4 ho5 hb hg_ hnew_; clear hg_ hnew_; (first | rw [← Ny191.out] at ho5 | (simp only [Int.reduceToNat] at ho5; rw [← Ny191.out] at ho5)); have n0_ := aK (Kd.R_lower ho5 (below_size qDoor13_19)); have n1_ := aK (blk_below (g := gb190) (o := .cells #[.int .u64 a0_0, .int .u64 a0_1, .int .u64 a0_2, .int .u64 a0_3] 49 (0, 0)) (by (with_reducible repeat (first | refine blk_drewN ?_ _ | refine blk_drew ?_ | refine blk_alloc ?_ _)); exact BK190.out) hb); have n2_ := aK (below_step qDoor13_19 hb); clear BK190; clear HB; have HO193 := n0_; have BK190 := n1_; have HB := n2_; clear n0_ n1_ n2_; clear hb ho5))
 go_ret
 exact ⟨_, qDoor13_18, by (with_reducible repeat (first | apply Kd.R_alloc | apply Kd.R_drewN | apply Kd.R_drew)); exact HO193.out, qDoor13_19⟩
def core_Size.l0 : Nat → Int → List (S44) → Int → Int → Option (Int)
 | 0, _, _, _, _ => none
 | k + 1, x3, x7, x8, x9 => if x9 < x8 then (if 0 ≤ x9 then (if x9 < (x7.length : Int) then (core_Size.l0 k (wrap64 (x3 + (((rd_T44 x7 x9).f1).length : Int))) x7 x8 (wrap64 (x9 + 1))) else (none)) else (none)) else (some x3)
def core_Size.f (k : Nat) (l0_0 : List (S44)) (a0_1 : Int) : Option (Int) := core_Size.l0 k 0 l0_0 (l0_0.length : Int) 0
theorem core_Size.mono_l : ∀ k, (∀ y0 y1 y2 y3, LeO (core_Size.l0 k y0 y1 y2 y3) (core_Size.l0 (k + 1) y0 y1 y2 y3))
 | 0 => fun _ _ _ _ r h => by simp [core_Size.l0] at h
 | k + 1 => by
  have ih0 := core_Size.mono_l k
  ·intro y0 y1 y2 y3
   unfold core_Size.l0
   repeat' first
   | (with_reducible exact ih0 _ _ _ _)
   | (with_reducible exact LeO.refl _)
   | (with_reducible exact LeO.none _)
   | (with_reducible refine LeO.ite ?_ ?_)
   | (with_reducible refine LeO.bind ?_ (fun _ => ?_))
   | exact ih0 _ _ _ _
   | exact LeO.none _
   | refine LeO.ite ?_ ?_
   | refine LeO.bind ?_ (fun _ => ?_)
theorem core_Size.mono : ∀ a0 a1 k, LeO (core_Size.f k a0 a1) (core_Size.f (k + 1) a0 a1) := by
 intro a0 a1 k
 have ih0 := core_Size.mono_l k
 unfold core_Size.f
 repeat' first
   | (with_reducible exact ih0 _ _ _ _)
   | (with_reducible exact LeO.refl _)
   | (with_reducible exact LeO.none _)
   | (with_reducible refine LeO.ite ?_ ?_)
   | (with_reducible refine LeO.bind ?_ (fun _ => ?_))
   | exact ih0 _ _ _ _
   | exact LeO.none _
   | refine LeO.ite ?_ ?_
   | refine LeO.bind ?_ (fun _ => ?_)
set_option maxHeartbeats 8000000 in
set_option maxRecDepth 100000 in
theorem core_Size.calls (k : Nat) (A0_0 : Option Addr) (c0_0 : Nat) (l0_0 : List (S44)) (a0_1 : Int) (r : Int) (w : World) (hr0_0 : Kd.C k44 w A0_0 l0_0.length l0_0) (hc0_0 : l0_0.length ≤ c0_0) (h : core_Size.f k l0_0 a0_1 = some r) :
  Calls Tryd.prog 10 #[.agg #[.slice A0_0 l0_0.length c0_0, .int .i64 a0_1]] w fun e w' => e = .returned (.int .i64 r) ∧ Below w.heap.size w w' := by
 have hu29 := Tryd.underlying29
 have hu44 := Tryd.underlying44
 have HR0_0 := aK hr0_0; have HC0_0 := aK hc0_0; clear hr0_0 hc0_0
 have HB := aK (Below.refl w.heap.size w)
 have H : (core_Size.l0 k 0 l0_0 (l0_0.length : Int) 0) = some r := h
 clear h
 have H' := aK H
 clear H
 go_enter Tryd.func10, Tryd.ntmps10
 go_wp2_with (first | ((with_reducible refine gate_dst (N := 1) rfl ?_); refine box_event ?hg (N := 1) ?hd (cs := #[.slice A0_0 l0_0.length c0_0, .int .i64 a0_1]) (t := 29) ?hr ?_; (case hd => rfl); (case hg => rfl); (case hr => first | (go_simp; done) | (go_simp; rfl)); intro gb199 hg w2 hbox hb; have n0_ := aK (below_step qDoor13_4 hb); have n1_ := aK (hbox); have n2_ := aK ((qDoor13_12 : w.heap.size ≤ gb199)); have n3_ := aK ((qDoor13_12 : w.heap.size ≤ gb199)); clear HB; have HB := n0_; have BK199 := n1_; have GW199 := n2_; have GE199 := n3_; clear n0_ n1_ n2_ n3_; clear hb hbox hg; have hcz3_0 : w2.cell? ⟨gb199, 0, none⟩ = some (.slice A0_0 l0_0.length c0_0) := (blk_cell BK199.out 0).trans rfl; have hcz3_1 : w2.cell? ⟨gb199, 1, none⟩ = some (.int .i64 a0_1) := (blk_cell BK199.out 1).trans rfl; have hfz3_0 := blk_frozen BK199.out 0; have hfz3_1 := blk_frozen BK199.out 1))
 go_loopg [3, 9] k (fun kq v3 v9 w' => ∃ (x3_1 : Int) (x9_1 : Int), v3 = .int .i64 x3_1 ∧ v9 = .int .i64 x9_1 ∧ Aside0 (core_Size.l0 kq x3_1 l0_0 (l0_0.length : Int) x9_1 = some r) ∧ Aside0 (kq ≤ k) ∧ Aside0 (w'.heap[gb199]? = some (.cells #[(.slice A0_0 l0_0.length c0_0), .int .i64 a0_1] 29 (0, 0))) ∧ Aside0 (Below w.heap.size w w'))
 case atStart => exact ⟨(0), (0), qDoor13_15, qDoor13_15, H', ⟨Nat.le_refl _⟩, ⟨qDoor13_20⟩, ⟨qDoor13_13⟩⟩
 case round =>
  clear H'; (try clear c1); (try clear p2); (try clear hcz3_0); (try clear hcz3_1); (try clear hfz3_0); (try clear hfz3_1)
  obtain ⟨x3_1, x9_1, rfl, rfl, HA, HK1, BK199, HB⟩ := hrel
  cases gk with
  | zero => exact absurd HA.out (by simp [core_Size.l0])
  | succ k1 =>
   have H := HA.out
   clear HA
   simp only [core_Size.l0] at H
   by_cases c4 : x9_1 < (l0_0.length : Int)
   ·rw [if_pos c4] at H
    have c4b0 : decide (x9_1 < (l0_0.length : Int)) = true := decide_eq_true c4
    clear c4
    by_cases c5 : 0 ≤ x9_1
    ·rw [if_pos c5] at H
     have c5b0 : decide (0 ≤ x9_1) = true := decide_eq_true c5
     clear c5
     by_cases c6 : x9_1 < (l0_0.length : Int)
     ·rw [if_pos c6] at H
      have c6b0 : decide (x9_1 < (l0_0.length : Int)) = true := decide_eq_true c6
      clear c6
      have H' := aK H
      clear H
      have p200 : 0 ≤ (x9_1 : Int) := of_decide_eq_true qDoor13_17
      have q200 : x9_1 < (l0_0.length : Int) := of_decide_eq_true qDoor13_17
      obtain ⟨ad200, A200_1, c200_1, e200, hx200_0, hx200_1, hl200_1, hi200_1⟩ := at_T44 HR0_0.out x9_1 p200 q200
      cases e200
      replace hx200_0 := (HB.out.cell (World.block_lt_of_cell? w _ hx200_0)).trans hx200_0
      replace hx200_1 := (HB.out.cell (World.block_lt_of_cell? w _ hx200_1)).trans hx200_1
      have HR200_1 := aK hi200_1; have HC200_1 := aK hl200_1; clear hi200_1 hl200_1
      replace p200 := eq_true p200
      replace q200 := eq_true q200
      go_wp2_with (first | ((with_reducible refine gate_dst (N := 5) rfl ?_); refine box_event ?hg (N := 5) ?hd (cs := #[.string (⟨#[]⟩ : ByteArray), .slice none 0 0]) (t := 44) ?hr ?_; (case hd => rfl); (case hg => rfl); (case hr => first | (go_simp; done) | (go_simp; rfl)); intro gb201 hg w7 hbox hb; have n0_ := aK (blk_below (g := gb199) (o := .cells #[.slice (some ad200) l0_0.length c0_0, .int .i64 a0_1] 29 (0, 0)) qDoor13_20 hb); have n1_ := aK (below_step qDoor13_13 hb); have n2_ := aK (hbox); have n3_ := aK ((qDoor13_21 : w.heap.size ≤ gb201)); have n4_ := aK ((qDoor13_21 : w.heap.size ≤ gb201)); have n5_ := aK ((by rw [hg]; exact Nat.ne_of_lt (blk_lt (g := gb199) (o := .cells #[.slice (some ad200) l0_0.length c0_0, .int .i64 a0_1] 29 (0, 0)) qDoor13_20) : gb199 ≠ gb201)); have n6_ := aK ((by rw [hg]; exact Nat.ne_of_gt (blk_lt (g := gb199) (o := .cells #[.slice (some ad200) l0_0.length c0_0, .int .i64 a0_1] 29 (0, 0)) qDoor13_20) : gb201 ≠ gb199)); clear BK199; clear HB; have BK199 := n0_; have HB := n1_; have BK201 := n2_; have GW201 := n3_; have GE201 := n4_; have NB199_201 := n5_; have NB201_199 := n6_; clear n0_ n1_ n2_ n3_ n4_ n5_ n6_; clear hb hbox hg; have hnb8 := NB201_199.out; have hnc8 := NB199_201.out; have hcz9_0 : w7.cell? ⟨gb201, 0, none⟩ = some (.string (⟨#[]⟩ : ByteArray)) := (blk_cell BK201.out 0).trans rfl; have hcz9_1 : w7.cell? ⟨gb201, 1, none⟩ = some (.slice none 0 0) := (blk_cell BK201.out 1).trans rfl; have hfz9_0 := blk_frozen BK201.out 0; have hfz9_1 := blk_frozen BK201.out 1))
      go_roundg k1
      case measure => have := HK1.out; omega
      case rel => exact ⟨(wrap64 (x3_1 + (((rd_T44 l0_0 x9_1).f1).length : Int))), (wrap64 (x9_1 + 1)), qDoor13_15, qDoor13_15, H', ⟨by have := HK1.out; omega⟩, ⟨by (with_reducible repeat (first | refine blk_drewN ?_ _ | refine blk_drew ?_ | refine blk_alloc ?_ _)); refine blk_far ?_ NB199_201.out _; (with_reducible repeat (first | refine blk_drewN ?_ _ | refine blk_drew ?_ | refine blk_alloc ?_ _)); refine blk_far ?_ NB199_201.out _; (with_reducible repeat (first | refine blk_drewN ?_ _ | refine blk_drew ?_ | refine blk_alloc ?_ _)); exact BK199.out⟩, ⟨by repeat (first | (with_reducible first | exact HB.out | apply below_alloc | apply pw_below_drewN | apply below_drew1 | refine below_set ?_ GE199.out | refine below_set ?_ GE201.out) | exact HB.out)⟩⟩
     ·rw [if_neg c6] at H
      exact absurd H (by simp)
    ·rw [if_neg c5] at H
     exact absurd H (by simp)
   ·rw [if_neg c4] at H
    have c4b0 : decide (x9_1 < (l0_0.length : Int)) = false := decide_eq_false c4
    clear c4
    obtain rfl := Option.some.inj H
    go_wp2
    go_ret
    exact ⟨qDoor13_18, qDoor13_13⟩
def core_arity.j0 : Nat → Int → Bool → Option (Int)
 | 0, _, _ => none
 | k + 1, x3, x4 => if x4 = true then (some 2) else (if x3 = 6 then (some 1) else (if x3 = 7 then (some 1) else (if x3 = 8 then (some 1) else (some 0))))
def core_arity.f (k : Nat) (a0 : Int) : Option (Int) := if a0 = 4 then (core_arity.j0 k a0 (a0 == 4)) else (core_arity.j0 k a0 (a0 == 5))
theorem core_arity.mono_l : ∀ k, (∀ y0 y1, LeO (core_arity.j0 k y0 y1) (core_arity.j0 (k + 1) y0 y1))
 | 0 => fun _ _ r h => by simp [core_arity.j0] at h
 | k + 1 => by
  have ih0 := core_arity.mono_l k
  ·intro y0 y1
   unfold core_arity.j0
   repeat' first
   | (with_reducible exact ih0 _ _)
   | (with_reducible exact LeO.refl _)
   | (with_reducible exact LeO.none _)
   | (with_reducible refine LeO.ite ?_ ?_)
   | (with_reducible refine LeO.bind ?_ (fun _ => ?_))
   | exact ih0 _ _
   | exact LeO.none _
   | refine LeO.ite ?_ ?_
   | refine LeO.bind ?_ (fun _ => ?_)
theorem core_arity.mono : ∀ a0 k, LeO (core_arity.f k a0) (core_arity.f (k + 1) a0) := by
 intro a0 k
 have ih0 := core_arity.mono_l k
 unfold core_arity.f
 repeat' first
   | (with_reducible exact ih0 _ _)
   | (with_reducible exact LeO.refl _)
   | (with_reducible exact LeO.none _)
   | (with_reducible refine LeO.ite ?_ ?_)
   | (with_reducible refine LeO.bind ?_ (fun _ => ?_))
   | exact ih0 _ _
   | exact LeO.none _
   | refine LeO.ite ?_ ?_
   | refine LeO.bind ?_ (fun _ => ?_)
set_option maxHeartbeats 8000000 in
set_option maxRecDepth 100000 in
theorem core_arity.calls (k : Nat) (a0 : Int) (r : Int) (w : World) (h : core_arity.f k a0 = some r) :
  Calls Tryd.prog 24 #[.int .i64 a0] w fun e w' => e = .returned (.int .i64 r) ∧ Drawn0 w w' := by
 have H : (if a0 = 4 then (core_arity.j0 k a0 (a0 == 4)) else (core_arity.j0 k a0 (a0 == 5))) = some r := h
 clear h; have HC2 := aK H; clear H
 go_enter Tryd.func24, Tryd.ntmps24
 go_upto_if 4 with (fail)
 go_cut [4] (fun v4 wc => ∃ (kq : Nat) (x4_1 : Bool), v4 = .bool x4_1 ∧ Aside0 (core_arity.j0 kq a0 x4_1 = some r) ∧ Aside0 (kq ≤ k) ∧ Drawn0 w wc)
 case first =>
  have H := HC2.out
  clear HC2
  by_cases c3 : a0 = 4
  ·rw [if_pos c3] at H
   have c3b0 : (a0 == 4) = true := beq_iff_eq.mpr c3
   have c3b1 : (a0 != 4) = false := bne_eq_false_iff_eq.mpr c3
   clear c3
   (first | rw [c3b0] | (simp only [i64_w, i32_w]; rw [c3b0]) | skip)
   have H' := aK H
   clear H
   go_wp2
   go_meet
   case rel => exact ⟨_, ((a0 == 4)), qDoor13_15, H', ⟨by first | omega | exact Nat.le_refl _⟩, qDoor13_22⟩
  ·rw [if_neg c3] at H
   have c3b0 : (a0 == 4) = false := beq_eq_false_iff_ne.mpr c3
   have c3b1 : (a0 != 4) = true := bne_iff_ne.mpr c3
   (first | rw [c3b0] | (simp only [i64_w, i32_w]; rw [c3b0]) | skip)
   have H' := aK H
   clear H
   go_wp2
   go_meet
   case rel => exact ⟨_, ((a0 == 5)), qDoor13_15, H', ⟨by first | omega | exact Nat.le_refl _⟩, qDoor13_22⟩
 case rest =>
  clear HC2; (try clear c2); (try clear p2); (try clear c3); (try clear c3b0); (try clear c3b1)
  obtain ⟨kq, x4_1, rfl, HA, HJ1, ⟨mc1, rfl⟩⟩ := hcut
  cases kq with
  | zero => exact absurd HA.out (by simp [core_arity.j0])
  | succ kj1 =>
   have H := HA.out
   clear HA
   simp only [core_arity.j0] at H
   by_cases c4 : x4_1 = true
   ·subst c4
    have H1 : (some 2) = some r := by rw [if_pos rfl] at H; exact H
    clear H
    have H := H1
    clear H1
    obtain rfl := Option.some.inj H
    go_wp2
    go_ret
    exact ⟨qDoor13_15, qDoor13_22⟩
   ·replace c4 := Bool.eq_false_iff.mpr c4
    subst c4
    have H1 : (if a0 = 6 then (some 1) else (if a0 = 7 then (some 1) else (if a0 = 8 then (some 1) else (some 0)))) = some r := by rw [if_neg (show ¬ (false = true) by decide)] at H; exact H
    clear H
    have H := H1
    clear H1
    by_cases c5 : a0 = 6
    ·rw [if_pos c5] at H
     have c5b0 : (a0 == 6) = true := beq_iff_eq.mpr c5
     have c5b1 : (a0 != 6) = false := bne_eq_false_iff_eq.mpr c5
     clear c5
     obtain rfl := Option.some.inj H
     go_wp2
     go_ret
     exact ⟨qDoor13_15, qDoor13_22⟩
    ·rw [if_neg c5] at H
     have c5b0 : (a0 == 6) = false := beq_eq_false_iff_ne.mpr c5
     have c5b1 : (a0 != 6) = true := bne_iff_ne.mpr c5
     by_cases c6 : a0 = 7
     ·rw [if_pos c6] at H
      have c6b0 : (a0 == 7) = true := beq_iff_eq.mpr c6
      have c6b1 : (a0 != 7) = false := bne_eq_false_iff_eq.mpr c6
      clear c6
      obtain rfl := Option.some.inj H
      go_wp2
      go_ret
      exact ⟨qDoor13_15, qDoor13_22⟩
     ·rw [if_neg c6] at H
      have c6b0 : (a0 == 7) = false := beq_eq_false_iff_ne.mpr c6
      have c6b1 : (a0 != 7) = true := bne_iff_ne.mpr c6
      by_cases c7 : a0 = 8
      ·rw [if_pos c7] at H
       have c7b0 : (a0 == 8) = true := beq_iff_eq.mpr c7
       have c7b1 : (a0 != 8) = false := bne_eq_false_iff_eq.mpr c7
       clear c7
       obtain rfl := Option.some.inj H
       go_wp2
       go_ret
       exact ⟨qDoor13_15, qDoor13_22⟩
      ·rw [if_neg c7] at H
       have c7b0 : (a0 == 8) = false := beq_eq_false_iff_ne.mpr c7
       have c7b1 : (a0 != 8) = true := bne_iff_ne.mpr c7
       obtain rfl := Option.some.inj H
       go_wp2
       go_ret
       exact ⟨qDoor13_15, qDoor13_22⟩
end Go.Proofs.YtihiicjnjhideaaDoor.PAll
end
