/- Parts of the proof of coreOrder: PAllx12. No condition beyond each lemma's own. -/
import Derived.Test.YtihiicjnjhideaaDoorTO5
import Derived.Test.YtihiicjnjhideaaDoorTO6
import Derived.Test.YtihiicjnjhideaaDoorTO14
import Derived.Test.YtihiicjnjhideaaDoorTO15
import Derived.Test.YtihiicjnjhideaaDoorTO16
section
namespace Go.Proofs.YtihiicjnjhideaaDoor.PAll
open Go.RowKit Go.Proofs.YtihiicjnjhideaaDoorW.PrintWords Go.Proofs.YtihiicjnjhideaaDoorW.PrintLast Go.Proofs.YtihiicjnjhideaaDoorW.PrintMore
attribute [local go_sem] max2_int max_two
set_option linter.unusedVariables false
set_option linter.unusedSimpArgs false
theorem qDoor12_22 {p : Prop} (h : p := by (with_reducible repeat (first | refine blk_drewN ?_ _ | refine blk_drew ?_ | refine blk_alloc ?_ _)); exact BK176.out) : p := h
theorem qDoor12_21 {p : Prop} (h : p := by first | rfl | (simp; done) | (simp [*]; done)) : p := h
theorem qDoor12_20 {p : Prop} (h : p := by rw [hg]; exact Nat.ne_of_gt (blk_lt (g := gb170) (o := .cells #[.slice A0_0 l0_0.length c0_0, .slice (some ad179) l0_1.length c0_1] 25 (0, 0)) (by (with_reducible repeat (first | refine blk_drewN ?_ _ | refine blk_drew ?_ | refine blk_alloc ?_ _)); exact BK170.out))) : p := h
theorem qDoor12_19 {p : Prop} (h : p := by rw [hg]; exact Nat.ne_of_lt (blk_lt (g := gb170) (o := .cells #[.slice A0_0 l0_0.length c0_0, .slice (some ad179) l0_1.length c0_1] 25 (0, 0)) (by (with_reducible repeat (first | refine blk_drewN ?_ _ | refine blk_drew ?_ | refine blk_alloc ?_ _)); exact BK170.out))) : p := h
theorem qDoor12_18 {p : Prop} (h : p := by repeat (first | (with_reducible first | exact HB.out | apply below_alloc | apply pw_below_drewN | apply below_drew1 | refine below_set ?_ GE170.out | refine below_set ?_ GE173.out) | exact HB.out)) : p := h
theorem qDoor12_17 {p : Prop} (h : p := by rw [hg]; exact Nat.ne_of_gt (blk_lt (g := gb170) (o := .cells #[.slice A0_0 l0_0.length c0_0, .slice (some ad175) l0_1.length c0_1] 25 (0, 0)) (by (with_reducible repeat (first | refine blk_drewN ?_ _ | refine blk_drew ?_ | refine blk_alloc ?_ _)); exact BK170.out))) : p := h
theorem qDoor12_16 {p : Prop} (h : p := by rw [hg]; exact Nat.ne_of_lt (blk_lt (g := gb170) (o := .cells #[.slice A0_0 l0_0.length c0_0, .slice (some ad175) l0_1.length c0_1] 25 (0, 0)) (by (with_reducible repeat (first | refine blk_drewN ?_ _ | refine blk_drew ?_ | refine blk_alloc ?_ _)); exact BK170.out))) : p := h
theorem qDoor12_15 {p : Prop} (h : p := by first | rfl | (simp [errW_none, errW_some] <;> rfl) | (simp [*, errW_none, errW_some] <;> rfl)) : p := h
theorem qDoor12_14 {p : Prop} (h : p := by first | (with_reducible assumption) | assumption) : p := h
theorem qDoor12_13 {p : Prop} (h : p := by rw [hg]; exact (below_size (by repeat (first | (with_reducible first | exact HB.out | apply below_alloc | apply pw_below_drewN | apply below_drew1) | exact HB.out)))) : p := h
theorem qDoor12_12 {p : Prop} (h : p := by (with_reducible repeat (first | refine blk_drewN ?_ _ | refine blk_drew ?_ | refine blk_alloc ?_ _)); refine blk_far ?_ NB170_180.out _; (with_reducible repeat (first | refine blk_drewN ?_ _ | refine blk_drew ?_ | refine blk_alloc ?_ _)); refine blk_far ?_ NB170_180.out _; (with_reducible repeat (first | refine blk_drewN ?_ _ | refine blk_drew ?_ | refine blk_alloc ?_ _)); refine blk_far ?_ NB170_180.out _; (with_reducible repeat (first | refine blk_drewN ?_ _ | refine blk_drew ?_ | refine blk_alloc ?_ _)); exact BK170.out) : p := h
theorem qDoor12_11 {p : Prop} (h : p := by rw [hg]; exact Nat.ne_of_gt (blk_lt (g := gb170) (o := .cells #[.slice (some ad172) l0_0.length c0_0, .slice A0_1 l0_1.length c0_1] 25 (0, 0)) (by (with_reducible repeat (first | refine blk_drewN ?_ _ | refine blk_drew ?_ | refine blk_alloc ?_ _)); exact BK170.out))) : p := h
theorem qDoor12_10 {p : Prop} (h : p := by rw [hg]; exact Nat.ne_of_lt (blk_lt (g := gb170) (o := .cells #[.slice (some ad172) l0_0.length c0_0, .slice A0_1 l0_1.length c0_1] 25 (0, 0)) (by (with_reducible repeat (first | refine blk_drewN ?_ _ | refine blk_drew ?_ | refine blk_alloc ?_ _)); exact BK170.out))) : p := h
theorem qDoor12_9 {p : Prop} (h : p := by repeat (first | (with_reducible first | exact HB.out | apply below_alloc | apply pw_below_drewN | apply below_drew1 | refine below_set ?_ GE170.out | refine below_set ?_ GE180.out) | exact HB.out)) : p := h
theorem qDoor12_8 {p : Prop} (h : p := by repeat (first | (with_reducible first | exact HB.out | apply below_alloc | apply pw_below_drewN | apply below_drew1) | exact HB.out)) : p := h
theorem qDoor12_7 {p : Prop} (h : p := by (with_reducible repeat (first | refine blk_drewN ?_ _ | refine blk_drew ?_ | refine blk_alloc ?_ _)); refine blk_put (cs := #[.string ((rd_T40 l0_1 x59_3).f0), .slice A179_1 ((rd_T40 l0_1 x59_3).f1).length c179_1, .slice none 0 0]) ?_ 2 _ rfl; (with_reducible repeat (first | refine blk_drewN ?_ _ | refine blk_drew ?_ | refine blk_alloc ?_ _)); refine blk_put (cs := #[.string ((rd_T40 l0_1 x59_3).f0), .slice none 0 0, .slice none 0 0]) ?_ 1 _ rfl; (with_reducible repeat (first | refine blk_drewN ?_ _ | refine blk_drew ?_ | refine blk_alloc ?_ _)); refine blk_put (cs := #[.string (⟨#[]⟩ : ByteArray), .slice none 0 0, .slice none 0 0]) ?_ 0 _ rfl; (with_reducible repeat (first | refine blk_drewN ?_ _ | refine blk_drew ?_ | refine blk_alloc ?_ _)); exact BK180.out) : p := h
theorem qDoor12_6 {p : Prop} (h : p := by (with_reducible repeat (first | refine blk_drewN ?_ _ | refine blk_drew ?_ | refine blk_alloc ?_ _)); refine blk_far ?_ NB170_176.out _; (with_reducible repeat (first | refine blk_drewN ?_ _ | refine blk_drew ?_ | refine blk_alloc ?_ _)); refine blk_far ?_ NB170_176.out _; (with_reducible repeat (first | refine blk_drewN ?_ _ | refine blk_drew ?_ | refine blk_alloc ?_ _)); refine blk_far ?_ NB170_176.out _; (with_reducible repeat (first | refine blk_drewN ?_ _ | refine blk_drew ?_ | refine blk_alloc ?_ _)); exact BK170.out) : p := h
theorem qDoor12_5 {p : Prop} (h : p := by (try simp only [List.map_toArray, List.map_cons, List.map_nil]); first | done | rfl | (simp only [List.length_drop, List.length_take]; rfl)) : p := h
theorem qDoor12_4 {p : Prop} (h : p := by (with_reducible repeat (first | refine blk_drewN ?_ _ | refine blk_drew ?_ | refine blk_alloc ?_ _)); refine blk_put (cs := #[.string ((rd_T40 l0_1 x42_2).f0), .slice A175_1 ((rd_T40 l0_1 x42_2).f1).length c175_1, .slice none 0 0]) ?_ 2 _ rfl; (with_reducible repeat (first | refine blk_drewN ?_ _ | refine blk_drew ?_ | refine blk_alloc ?_ _)); refine blk_put (cs := #[.string ((rd_T40 l0_1 x42_2).f0), .slice none 0 0, .slice none 0 0]) ?_ 1 _ rfl; (with_reducible repeat (first | refine blk_drewN ?_ _ | refine blk_drew ?_ | refine blk_alloc ?_ _)); refine blk_put (cs := #[.string (⟨#[]⟩ : ByteArray), .slice none 0 0, .slice none 0 0]) ?_ 0 _ rfl; (with_reducible repeat (first | refine blk_drewN ?_ _ | refine blk_drew ?_ | refine blk_alloc ?_ _)); exact BK176.out) : p := h
theorem qDoor12_3 {p : Prop} (h : p := by repeat (first | (with_reducible first | exact HB.out | apply below_alloc | apply pw_below_drewN | apply below_drew1 | refine below_set ?_ GE170.out | refine below_set ?_ GE176.out) | exact HB.out)) : p := h
theorem qDoor12_2 {p : Prop} (h : p := by rw [hg]; exact (below_size (by repeat (first | (with_reducible first | exact HB.out | apply below_alloc | apply pw_below_drewN | apply below_drew1 | refine below_set ?_ GE170.out) | exact HB.out)))) : p := h
theorem qDoor12_1 {p : Prop} (h : p := by (with_reducible repeat (first | refine blk_drewN ?_ _ | refine blk_drew ?_ | refine blk_alloc ?_ _)); exact BK170.out) : p := h
theorem qDoor12_0 {p : Prop} (h : p := by repeat (first | (with_reducible first | exact HB.out | apply below_alloc | apply pw_below_drewN | apply below_drew1 | refine below_set ?_ GE170.out) | exact HB.out)) : p := h
mutual
def script_Check.l0 : Nat → List (S79) → Int → Int → List (S79) → List (S40) → Option (Int)
 | 0, _, _, _, _, _ => none
 | k + 1, x16, x17, x18, x171000, x171001 => if x18 < x17 then (if 0 ≤ x18 then (if x18 < (x16.length : Int) then ((script_own.f k ((rd_T79 x16 x18).f0)).bind fun t174 => (if t174 = true then (if (((rd_T79 x16 x18).f1).size : Int) < 1 then (some 6) else (if (((rd_T79 x16 x18).f1).size : Int) > 64 then (some 6) else (script_Check.l0 k x16 x17 (wrap64 (x18 + 1)) x171000 x171001))) else (some 6))) else (none)) else (none)) else (script_Check.l1 k x171001 (x171001.length : Int) 0 x171000 x171001)
def script_Check.l1 : Nat → List (S40) → Int → Int → List (S79) → List (S40) → Option (Int)
 | 0, _, _, _, _, _ => none
 | k + 1, x40, x41, x42, x171000, x171001 => if x42 < x41 then (if 0 ≤ x42 then (if x42 < (x40.length : Int) then ((script_headed.f k ((rd_T40 x40 x42).f0) ((rd_T40 x40 x42).f1) ((rd_T40 x40 x42).f2)).bind fun t177 => (if t177 = true then ((script_shaped.f k ((rd_T40 x40 x42).f2)).bind fun t178 => (if t178 = true then (script_Check.l1 k x40 x41 (wrap64 (x42 + 1)) x171000 x171001) else (some 6))) else (some 6))) else (none)) else (none)) else (script_Check.l2 k x171001 (x171001.length : Int) 0)
def script_Check.l2 : Nat → List (S40) → Int → Int → Option (Int)
 | 0, _, _, _ => none
 | k + 1, x57, x58, x59 => if x59 < x58 then (if 0 ≤ x59 then (if x59 < (x57.length : Int) then ((script_Nest.f k ((rd_T40 x57 x59).f2)).bind fun t181 => (if t181 > 100 then (some 3) else (script_Check.l2 k x57 x58 (wrap64 (x59 + 1))))) else (none)) else (none)) else (some 0)
end
def script_Check.f (k : Nat) (l0_0 : List (S79)) (l0_1 : List (S40)) : Option (Int) := (script_long.f k l0_0 l0_1).bind fun t171 => (if t171 = true then (some 1) else (if (l0_1.length : Int) = 0 then (some 6) else (script_Check.l0 k l0_0 (l0_0.length : Int) 0 l0_0 l0_1)))
theorem script_Check.mono_l : ∀ k, (∀ y0 y1 y2 y3 y4, LeO (script_Check.l0 k y0 y1 y2 y3 y4) (script_Check.l0 (k + 1) y0 y1 y2 y3 y4)) ∧ (∀ y0 y1 y2 y3 y4, LeO (script_Check.l1 k y0 y1 y2 y3 y4) (script_Check.l1 (k + 1) y0 y1 y2 y3 y4)) ∧ (∀ y0 y1 y2, LeO (script_Check.l2 k y0 y1 y2) (script_Check.l2 (k + 1) y0 y1 y2))
 | 0 => ⟨fun _ _ _ _ _ r h => by simp [script_Check.l0] at h, fun _ _ _ _ _ r h => by simp [script_Check.l1] at h, fun _ _ _ r h => by simp [script_Check.l2] at h⟩
 | k + 1 => by
  obtain ⟨ih0, ih1, ih2⟩ := script_Check.mono_l k
  refine ⟨?_, ?_, ?_⟩
  ·intro y0 y1 y2 y3 y4
   unfold script_Check.l0
   repeat' first
   | (with_reducible exact ih0 _ _ _ _ _)
   | (with_reducible exact ih1 _ _ _ _ _)
   | (with_reducible exact ih2 _ _ _)
   | (with_reducible exact script_Nest.mono _ _)
   | (with_reducible exact script_headed.mono _ _ _ _)
   | (with_reducible exact script_long.mono _ _ _)
   | (with_reducible exact script_own.mono _ _)
   | (with_reducible exact script_shaped.mono _ _)
   | (with_reducible exact LeO.refl _)
   | (with_reducible exact LeO.none _)
   | (with_reducible refine LeO.ite ?_ ?_)
   | (with_reducible refine LeO.bind ?_ (fun _ => ?_))
   | exact ih0 _ _ _ _ _
   | exact ih1 _ _ _ _ _
   | exact ih2 _ _ _
   | exact script_Nest.mono _ _
   | exact script_headed.mono _ _ _ _
   | exact script_long.mono _ _ _
   | exact script_own.mono _ _
   | exact script_shaped.mono _ _
   | exact LeO.none _
   | refine LeO.ite ?_ ?_
   | refine LeO.bind ?_ (fun _ => ?_)
  ·intro y0 y1 y2 y3 y4
   unfold script_Check.l1
   repeat' first
   | (with_reducible exact ih0 _ _ _ _ _)
   | (with_reducible exact ih1 _ _ _ _ _)
   | (with_reducible exact ih2 _ _ _)
   | (with_reducible exact script_Nest.mono _ _)
   | (with_reducible exact script_headed.mono _ _ _ _)
   | (with_reducible exact script_long.mono _ _ _)
   | (with_reducible exact script_own.mono _ _)
   | (with_reducible exact script_shaped.mono _ _)
   | (with_reducible exact LeO.refl _)
   | (with_reducible exact LeO.none _)
   | (with_reducible refine LeO.ite ?_ ?_)
   | (with_reducible refine LeO.bind ?_ (fun _ => ?_))
   | exact ih0 _ _ _ _ _
   | exact ih1 _ _ _ _ _
   | exact ih2 _ _ _
   | exact script_Nest.mono _ _
   | exact script_headed.mono _ _ _ _
   | exact script_long.mono _ _ _
   | exact script_own.mono _ _
   | exact script_shaped.mono _ _
   | exact LeO.none _
   | refine LeO.ite ?_ ?_
   | refine LeO.bind ?_ (fun _ => ?_)
  ·intro y0 y1 y2
   unfold script_Check.l2
   repeat' first
   | (with_reducible exact ih0 _ _ _ _ _)
   | (with_reducible exact ih1 _ _ _ _ _)
   | (with_reducible exact ih2 _ _ _)
   | (with_reducible exact script_Nest.mono _ _)
   | (with_reducible exact script_headed.mono _ _ _ _)
   | (with_reducible exact script_long.mono _ _ _)
   | (with_reducible exact script_own.mono _ _)
   | (with_reducible exact script_shaped.mono _ _)
   | (with_reducible exact LeO.refl _)
   | (with_reducible exact LeO.none _)
   | (with_reducible refine LeO.ite ?_ ?_)
   | (with_reducible refine LeO.bind ?_ (fun _ => ?_))
   | exact ih0 _ _ _ _ _
   | exact ih1 _ _ _ _ _
   | exact ih2 _ _ _
   | exact script_Nest.mono _ _
   | exact script_headed.mono _ _ _ _
   | exact script_long.mono _ _ _
   | exact script_own.mono _ _
   | exact script_shaped.mono _ _
   | exact LeO.none _
   | refine LeO.ite ?_ ?_
   | refine LeO.bind ?_ (fun _ => ?_)
theorem script_Check.mono : ∀ a0 a1 k, LeO (script_Check.f k a0 a1) (script_Check.f (k + 1) a0 a1) := by
 intro a0 a1 k
 obtain ⟨ih0, ih1, ih2⟩ := script_Check.mono_l k
 unfold script_Check.f
 repeat' first
   | (with_reducible exact ih0 _ _ _ _ _)
   | (with_reducible exact ih1 _ _ _ _ _)
   | (with_reducible exact ih2 _ _ _)
   | (with_reducible exact script_Nest.mono _ _)
   | (with_reducible exact script_headed.mono _ _ _ _)
   | (with_reducible exact script_long.mono _ _ _)
   | (with_reducible exact script_own.mono _ _)
   | (with_reducible exact script_shaped.mono _ _)
   | (with_reducible exact LeO.refl _)
   | (with_reducible exact LeO.none _)
   | (with_reducible refine LeO.ite ?_ ?_)
   | (with_reducible refine LeO.bind ?_ (fun _ => ?_))
   | exact ih0 _ _ _ _ _
   | exact ih1 _ _ _ _ _
   | exact ih2 _ _ _
   | exact script_Nest.mono _ _
   | exact script_headed.mono _ _ _ _
   | exact script_long.mono _ _ _
   | exact script_own.mono _ _
   | exact script_shaped.mono _ _
   | exact LeO.none _
   | refine LeO.ite ?_ ?_
   | refine LeO.bind ?_ (fun _ => ?_)
set_option maxHeartbeats 8000000 in
set_option maxRecDepth 100000 in
theorem script_Check.calls (k : Nat) (A0_0 : Option Addr) (c0_0 : Nat) (l0_0 : List (S79)) (A0_1 : Option Addr) (c0_1 : Nat) (l0_1 : List (S40)) (r : Int) (w : World) (hr0_0 : Kd.C k79 w A0_0 l0_0.length l0_0) (hc0_0 : l0_0.length ≤ c0_0) (hr0_1 : Kd.C k40 w A0_1 l0_1.length l0_1) (hc0_1 : l0_1.length ≤ c0_1) (h : script_Check.f k l0_0 l0_1 = some r) :
  Calls Tryd.prog 16 #[.agg #[.slice A0_0 l0_0.length c0_0, .slice A0_1 l0_1.length c0_1]] w fun e w' => e = .returned (.int .i64 r) ∧ Below w.heap.size w w' := by
 have hu25 := Tryd.underlying25
 have hu79 := Tryd.underlying79
 have hu40 := Tryd.underlying40
 have HR0_0 := aK hr0_0; have HC0_0 := aK hc0_0; clear hr0_0 hc0_0; have HR0_1 := aK hr0_1; have HC0_1 := aK hc0_1; clear hr0_1 hc0_1
 have HB := aK (Below.refl w.heap.size w)
 have H : ((script_long.f k l0_0 l0_1).bind fun t171 => (if t171 = true then (some 1) else (if (l0_1.length : Int) = 0 then (some 6) else (script_Check.l0 k l0_0 (l0_0.length : Int) 0 l0_0 l0_1)))) = some r := h
 clear h
 replace H := Option.bind_eq_some_iff.mp H
 obtain ⟨t171, A20, H⟩ := H
 replace H : (if t171 = true then (some 1) else (if (l0_1.length : Int) = 0 then (some 6) else (script_Check.l0 k l0_0 (l0_0.length : Int) 0 l0_0 l0_1))) = some r := H
 have A2 := aK A20; clear A20
 by_cases c3 : t171 = true
 ·subst c3
  have H1 : (some 1) = some r := by rw [if_pos rfl] at H; exact H
  clear H
  have H := H1
  clear H1
  obtain rfl := Option.some.inj H
  go_enter Tryd.func16, Tryd.ntmps16
  go_wp2_with (first | ((with_reducible refine gate_dst (N := 1) rfl ?_); (try (refine gate_guard (by rfl) ?_; dsimp only)); refine box_event ?hg (N := 1) ?hd (cs := #[.slice A0_0 l0_0.length c0_0, .slice A0_1 l0_1.length c0_1]) (t := 25) ?hr ?_; (case hd => rfl); (case hg => rfl); (case hr => first | (go_simp; done) | (go_simp; rfl)); intro gb170 hg w4 hbox hb; have n0_ := aK (below_step qDoor12_8 hb); have n1_ := aK (hbox); have n2_ := aK ((qDoor12_13 : w.heap.size ≤ gb170)); have n3_ := aK ((qDoor12_13 : w.heap.size ≤ gb170)); clear HB; have HB := n0_; have BK170 := n1_; have GW170 := n2_; have GE170 := n3_; clear n0_ n1_ n2_ n3_; clear hb hbox hg; have hcz5_0 : w4.cell? ⟨gb170, 0, none⟩ = some (.slice A0_0 l0_0.length c0_0) := (blk_cell BK170.out 0).trans rfl; have hcz5_1 : w4.cell? ⟨gb170, 1, none⟩ = some (.slice A0_1 l0_1.length c0_1) := (blk_cell BK170.out 1).trans rfl; have hfz5_0 := blk_frozen BK170.out 0; have hfz5_1 := blk_frozen BK170.out 1) | ((with_reducible refine gate_callee (f := 25) rfl ?_); refine goesL_ (some 10) rfl rfl Tryd.func25 (by kernel_rfl) rfl #[.agg #[.slice A0_0 l0_0.length c0_0, .slice A0_1 l0_1.length c0_1]] rfl qDoor12_5 ?_; (with_reducible refine (script_long.calls k _ _ l0_0 _ _ l0_1 true _ ?side1 ?side2 ?side3 ?side4 A2.out).mono ?_); (case side1 => repeat (first | exact (Kd.C_below HR0_0.out HB.out) | (with_reducible refine Kd.C_alloc ?_ _) | (with_reducible refine Kd.C_drewN ?_ _) | (with_reducible refine Kd.C_drew ?_))); (case side2 => exact HC0_0.out); (case side3 => repeat (first | exact (Kd.C_below HR0_1.out HB.out) | (with_reducible refine Kd.C_alloc ?_ _) | (with_reducible refine Kd.C_drewN ?_ _) | (with_reducible refine Kd.C_drew ?_))); (case side4 => exact HC0_1.out); rintro e w6 ⟨rfl, hb⟩; refine ⟨_, rfl, ?_⟩; have n0_ := aK (blk_below (g := gb170) (o := .cells #[.slice A0_0 l0_0.length c0_0, .slice A0_1 l0_1.length c0_1] 25 (0, 0)) qDoor12_1 hb); have n1_ := aK (below_step qDoor12_0 hb); clear BK170; clear HB; have BK170 := n0_; have HB := n1_; clear n0_ n1_; (try clear hb); (try clear hb2); (try clear hk); (try clear hi)))
  go_ret
  exact ⟨qDoor12_15, qDoor12_0⟩
 ·replace c3 := Bool.eq_false_iff.mpr c3
  subst c3
  have H1 : (if (l0_1.length : Int) = 0 then (some 6) else (script_Check.l0 k l0_0 (l0_0.length : Int) 0 l0_0 l0_1)) = some r := by rw [if_neg (show ¬ (false = true) by decide)] at H; exact H
  clear H
  have H := H1
  clear H1
  by_cases c7 : (l0_1.length : Int) = 0
  ·rw [if_pos c7] at H
   have c7b0 : ((l0_1.length : Int) == 0) = true := beq_iff_eq.mpr c7
   have c7b1 : ((l0_1.length : Int) != 0) = false := bne_eq_false_iff_eq.mpr c7
   clear c7
   obtain rfl := Option.some.inj H
   go_enter Tryd.func16, Tryd.ntmps16
   go_wp2_with (first | ((with_reducible refine gate_dst (N := 1) rfl ?_); (try (refine gate_guard (by rfl) ?_; dsimp only)); refine box_event ?hg (N := 1) ?hd (cs := #[.slice A0_0 l0_0.length c0_0, .slice A0_1 l0_1.length c0_1]) (t := 25) ?hr ?_; (case hd => rfl); (case hg => rfl); (case hr => first | (go_simp; done) | (go_simp; rfl)); intro gb170 hg w8 hbox hb; have n0_ := aK (below_step qDoor12_8 hb); have n1_ := aK (hbox); have n2_ := aK ((qDoor12_13 : w.heap.size ≤ gb170)); have n3_ := aK ((qDoor12_13 : w.heap.size ≤ gb170)); clear HB; have HB := n0_; have BK170 := n1_; have GW170 := n2_; have GE170 := n3_; clear n0_ n1_ n2_ n3_; clear hb hbox hg; have hcz9_0 : w8.cell? ⟨gb170, 0, none⟩ = some (.slice A0_0 l0_0.length c0_0) := (blk_cell BK170.out 0).trans rfl; have hcz9_1 : w8.cell? ⟨gb170, 1, none⟩ = some (.slice A0_1 l0_1.length c0_1) := (blk_cell BK170.out 1).trans rfl; have hfz9_0 := blk_frozen BK170.out 0; have hfz9_1 := blk_frozen BK170.out 1) | ((with_reducible refine gate_callee (f := 25) rfl ?_); refine goesL_ (some 10) rfl rfl Tryd.func25 (by kernel_rfl) rfl #[.agg #[.slice A0_0 l0_0.length c0_0, .slice A0_1 l0_1.length c0_1]] rfl qDoor12_5 ?_; (with_reducible refine (script_long.calls k _ _ l0_0 _ _ l0_1 false _ ?side1 ?side2 ?side3 ?side4 A2.out).mono ?_); (case side1 => repeat (first | exact (Kd.C_below HR0_0.out HB.out) | (with_reducible refine Kd.C_alloc ?_ _) | (with_reducible refine Kd.C_drewN ?_ _) | (with_reducible refine Kd.C_drew ?_))); (case side2 => exact HC0_0.out); (case side3 => repeat (first | exact (Kd.C_below HR0_1.out HB.out) | (with_reducible refine Kd.C_alloc ?_ _) | (with_reducible refine Kd.C_drewN ?_ _) | (with_reducible refine Kd.C_drew ?_))); (case side4 => exact HC0_1.out); rintro e w10 ⟨rfl, hb⟩; refine ⟨_, rfl, ?_⟩; have n0_ := aK (blk_below (g := gb170) (o := .cells #[.slice A0_0 l0_0.length c0_0, .slice A0_1 l0_1.length c0_1] 25 (0, 0)) qDoor12_1 hb); have n1_ := aK (below_step qDoor12_0 hb); clear BK170; clear HB; have BK170 := n0_; have HB := n1_; clear n0_ n1_; (try clear hb); (try clear hb2); (try clear hk); (try clear hi); have hcz11_0 : w10.cell? ⟨gb170, 0, none⟩ = some (.slice A0_0 l0_0.length c0_0) := (blk_cell BK170.out 0).trans rfl; have hcz11_1 : w10.cell? ⟨gb170, 1, none⟩ = some (.slice A0_1 l0_1.length c0_1) := (blk_cell BK170.out 1).trans rfl; have hfz11_0 := blk_frozen BK170.out 0; have hfz11_1 := blk_frozen BK170.out 1))
   go_ret
   exact ⟨qDoor12_15, qDoor12_0⟩
  ·rw [if_neg c7] at H
   have c7b0 : ((l0_1.length : Int) == 0) = false := beq_eq_false_iff_ne.mpr c7
   have c7b1 : ((l0_1.length : Int) != 0) = true := bne_iff_ne.mpr c7
   have c7b2 : ¬ (l0_1 = []) := fun h_ => c7 (by rw [h_]; rfl)
   have H' := aK H
   clear H
   go_enter Tryd.func16, Tryd.ntmps16
   go_wp2_with (first | ((with_reducible refine gate_dst (N := 1) rfl ?_); (try (refine gate_guard (by rfl) ?_; dsimp only)); refine box_event ?hg (N := 1) ?hd (cs := #[.slice A0_0 l0_0.length c0_0, .slice A0_1 l0_1.length c0_1]) (t := 25) ?hr ?_; (case hd => rfl); (case hg => rfl); (case hr => first | (go_simp; done) | (go_simp; rfl)); intro gb170 hg w12 hbox hb; have n0_ := aK (below_step qDoor12_8 hb); have n1_ := aK (hbox); have n2_ := aK ((qDoor12_13 : w.heap.size ≤ gb170)); have n3_ := aK ((qDoor12_13 : w.heap.size ≤ gb170)); clear HB; have HB := n0_; have BK170 := n1_; have GW170 := n2_; have GE170 := n3_; clear n0_ n1_ n2_ n3_; clear hb hbox hg; have hcz13_0 : w12.cell? ⟨gb170, 0, none⟩ = some (.slice A0_0 l0_0.length c0_0) := (blk_cell BK170.out 0).trans rfl; have hcz13_1 : w12.cell? ⟨gb170, 1, none⟩ = some (.slice A0_1 l0_1.length c0_1) := (blk_cell BK170.out 1).trans rfl; have hfz13_0 := blk_frozen BK170.out 0; have hfz13_1 := blk_frozen BK170.out 1) | ((with_reducible refine gate_callee (f := 25) rfl ?_); refine goesL_ (some 10) rfl rfl Tryd.func25 (by kernel_rfl) rfl #[.agg #[.slice A0_0 l0_0.length c0_0, .slice A0_1 l0_1.length c0_1]] rfl qDoor12_5 ?_; (with_reducible refine (script_long.calls k _ _ l0_0 _ _ l0_1 false _ ?side1 ?side2 ?side3 ?side4 A2.out).mono ?_); (case side1 => repeat (first | exact (Kd.C_below HR0_0.out HB.out) | (with_reducible refine Kd.C_alloc ?_ _) | (with_reducible refine Kd.C_drewN ?_ _) | (with_reducible refine Kd.C_drew ?_))); (case side2 => exact HC0_0.out); (case side3 => repeat (first | exact (Kd.C_below HR0_1.out HB.out) | (with_reducible refine Kd.C_alloc ?_ _) | (with_reducible refine Kd.C_drewN ?_ _) | (with_reducible refine Kd.C_drew ?_))); (case side4 => exact HC0_1.out); rintro e w14 ⟨rfl, hb⟩; refine ⟨_, rfl, ?_⟩; have n0_ := aK (blk_below (g := gb170) (o := .cells #[.slice A0_0 l0_0.length c0_0, .slice A0_1 l0_1.length c0_1] 25 (0, 0)) qDoor12_1 hb); have n1_ := aK (below_step qDoor12_0 hb); clear BK170; clear HB; have BK170 := n0_; have HB := n1_; clear n0_ n1_; (try clear hb); (try clear hb2); (try clear hk); (try clear hi); have hcz15_0 : w14.cell? ⟨gb170, 0, none⟩ = some (.slice A0_0 l0_0.length c0_0) := (blk_cell BK170.out 0).trans rfl; have hcz15_1 : w14.cell? ⟨gb170, 1, none⟩ = some (.slice A0_1 l0_1.length c0_1) := (blk_cell BK170.out 1).trans rfl; have hfz15_0 := blk_frozen BK170.out 0; have hfz15_1 := blk_frozen BK170.out 1))
   go_loopg [18] k (fun kq v18 w' => ∃ (x18_1 : Int), v18 = .int .i64 x18_1 ∧ Aside0 (script_Check.l0 kq l0_0 (l0_0.length : Int) x18_1 l0_0 l0_1 = some r) ∧ Aside0 (kq ≤ k) ∧ Aside0 (w'.heap[gb170]? = some (.cells #[(.slice A0_0 l0_0.length c0_0), (.slice A0_1 l0_1.length c0_1)] 25 (0, 0))) ∧ Aside0 (Below w.heap.size w w'))
   case atStart => exact ⟨(0), qDoor12_21, H', ⟨Nat.le_refl _⟩, ⟨qDoor12_1⟩, ⟨qDoor12_0⟩⟩
   case round =>
    clear H'; (try clear c1); (try clear c2); (try clear p2); (try clear c3); (try clear c7); (try clear c7b0); (try clear c7b1); (try clear c7b2); (try clear hcz11_0); (try clear hcz11_1); (try clear hcz13_0); (try clear hcz13_1); (try clear hcz15_0); (try clear hcz15_1); (try clear hcz5_0); (try clear hcz5_1); (try clear hcz9_0); (try clear hcz9_1); (try clear hfz11_0); (try clear hfz11_1); (try clear hfz13_0); (try clear hfz13_1); (try clear hfz15_0); (try clear hfz15_1); (try clear hfz5_0); (try clear hfz5_1); (try clear hfz9_0); (try clear hfz9_1)
    obtain ⟨x18_1, rfl, HA, HK1, BK170, HB⟩ := hrel
    cases gk with
    | zero => exact absurd HA.out (by simp [script_Check.l0])
    | succ k1 =>
     have H := HA.out
     clear HA
     simp only [script_Check.l0] at H
     by_cases c16 : x18_1 < (l0_0.length : Int)
     ·rw [if_pos c16] at H
      have c16b0 : decide (x18_1 < (l0_0.length : Int)) = true := decide_eq_true c16
      clear c16
      by_cases c17 : 0 ≤ x18_1
      ·rw [if_pos c17] at H
       have c17b0 : decide (0 ≤ x18_1) = true := decide_eq_true c17
       clear c17
       by_cases c18 : x18_1 < (l0_0.length : Int)
       ·rw [if_pos c18] at H
        have c18b0 : decide (x18_1 < (l0_0.length : Int)) = true := decide_eq_true c18
        clear c18
        replace H := Option.bind_eq_some_iff.mp H
        obtain ⟨t174, A190, H⟩ := H
        replace H : (if t174 = true then (if (((rd_T79 l0_0 x18_1).f1).size : Int) < 1 then (some 6) else (if (((rd_T79 l0_0 x18_1).f1).size : Int) > 64 then (some 6) else (script_Check.l0 k1 l0_0 (l0_0.length : Int) (wrap64 (x18_1 + 1)) l0_0 l0_1))) else (some 6)) = some r := H
        have A19 := aK A190; clear A190
        by_cases c20 : t174 = true
        ·subst c20
         have H1 : (if (((rd_T79 l0_0 x18_1).f1).size : Int) < 1 then (some 6) else (if (((rd_T79 l0_0 x18_1).f1).size : Int) > 64 then (some 6) else (script_Check.l0 k1 l0_0 (l0_0.length : Int) (wrap64 (x18_1 + 1)) l0_0 l0_1))) = some r := by rw [if_pos rfl] at H; exact H
         clear H
         have H := H1
         clear H1
         by_cases c21 : (((rd_T79 l0_0 x18_1).f1).size : Int) < 1
         ·rw [if_pos c21] at H
          have c21b0 : decide ((((rd_T79 l0_0 x18_1).f1).size : Int) < 1) = true := decide_eq_true c21
          have c21b1 : decide (((rd_T79 l0_0 x18_1).f1).size < 1) = true := decide_eq_true (by omega)
          clear c21
          obtain rfl := Option.some.inj H
          have p172 : 0 ≤ (x18_1 : Int) := of_decide_eq_true qDoor12_14
          have q172 : x18_1 < (l0_0.length : Int) := of_decide_eq_true qDoor12_14
          obtain ⟨ad172, e172, hx172_0, hx172_1⟩ := at_T79 HR0_0.out x18_1 p172 q172
          cases e172
          replace hx172_0 := (HB.out.cell (World.block_lt_of_cell? w _ hx172_0)).trans hx172_0
          replace hx172_1 := (HB.out.cell (World.block_lt_of_cell? w _ hx172_1)).trans hx172_1
          replace p172 := eq_true p172
          replace q172 := eq_true q172
          go_wp2_with (first | ((with_reducible refine gate_dst (N := 4) rfl ?_); (try (refine gate_guard (by rfl) ?_; dsimp only)); refine box_event ?hg (N := 4) ?hd (cs := #[.string (⟨#[]⟩ : ByteArray), .string (⟨#[]⟩ : ByteArray)]) (t := 79) ?hr ?_; (case hd => rfl); (case hg => rfl); (case hr => first | (go_simp; done) | (go_simp; rfl)); intro gb173 hg w22 hbox hb; have n0_ := aK (blk_below (g := gb170) (o := .cells #[.slice (some ad172) l0_0.length c0_0, .slice A0_1 l0_1.length c0_1] 25 (0, 0)) qDoor12_1 hb); have n1_ := aK (below_step qDoor12_0 hb); have n2_ := aK (hbox); have n3_ := aK ((qDoor12_2 : w.heap.size ≤ gb173)); have n4_ := aK ((qDoor12_2 : w.heap.size ≤ gb173)); have n5_ := aK ((qDoor12_10 : gb170 ≠ gb173)); have n6_ := aK ((qDoor12_11 : gb173 ≠ gb170)); clear BK170; clear HB; have BK170 := n0_; have HB := n1_; have BK173 := n2_; have GW173 := n3_; have GE173 := n4_; have NB170_173 := n5_; have NB173_170 := n6_; clear n0_ n1_ n2_ n3_ n4_ n5_ n6_; clear hb hbox hg; have hnb23 := NB173_170.out; have hnc23 := NB170_173.out; have hcz24_0 : w22.cell? ⟨gb173, 0, none⟩ = some (.string (⟨#[]⟩ : ByteArray)) := (blk_cell BK173.out 0).trans rfl; have hcz24_1 : w22.cell? ⟨gb173, 1, none⟩ = some (.string (⟨#[]⟩ : ByteArray)) := (blk_cell BK173.out 1).trans rfl; have hfz24_0 := blk_frozen BK173.out 0; have hfz24_1 := blk_frozen BK173.out 1) | ((with_reducible refine gate_callee (f := 26) rfl ?_); refine goesL_ (some 24) rfl rfl Tryd.func26 (by kernel_rfl) rfl #[.string ((rd_T79 l0_0 x18_1).f0)] rfl qDoor12_5 ?_; (with_reducible refine (script_own.calls k1 ((rd_T79 l0_0 x18_1).f0) true _ A19.out).mono ?_); rintro e w' ⟨rfl, ⟨nd, rfl⟩⟩; refine ⟨_, rfl, ?_⟩))
          go_ret
          exact ⟨qDoor12_15, qDoor12_18⟩
         ·rw [if_neg c21] at H
          have c21b0 : decide ((((rd_T79 l0_0 x18_1).f1).size : Int) < 1) = false := decide_eq_false c21
          have c21b1 : decide (((rd_T79 l0_0 x18_1).f1).size < 1) = false := decide_eq_false (by omega)
          clear c21
          by_cases c25 : (((rd_T79 l0_0 x18_1).f1).size : Int) > 64
          ·rw [if_pos c25] at H
           have c25b0 : decide (64 < (((rd_T79 l0_0 x18_1).f1).size : Int)) = true := decide_eq_true c25
           have c25b1 : decide (64 < ((rd_T79 l0_0 x18_1).f1).size) = true := decide_eq_true (by omega)
           clear c25
           obtain rfl := Option.some.inj H
           have p172 : 0 ≤ (x18_1 : Int) := of_decide_eq_true qDoor12_14
           have q172 : x18_1 < (l0_0.length : Int) := of_decide_eq_true qDoor12_14
           obtain ⟨ad172, e172, hx172_0, hx172_1⟩ := at_T79 HR0_0.out x18_1 p172 q172
           cases e172
           replace hx172_0 := (HB.out.cell (World.block_lt_of_cell? w _ hx172_0)).trans hx172_0
           replace hx172_1 := (HB.out.cell (World.block_lt_of_cell? w _ hx172_1)).trans hx172_1
           replace p172 := eq_true p172
           replace q172 := eq_true q172
           go_wp2_with (first | ((with_reducible refine gate_dst (N := 4) rfl ?_); (try (refine gate_guard (by rfl) ?_; dsimp only)); refine box_event ?hg (N := 4) ?hd (cs := #[.string (⟨#[]⟩ : ByteArray), .string (⟨#[]⟩ : ByteArray)]) (t := 79) ?hr ?_; (case hd => rfl); (case hg => rfl); (case hr => first | (go_simp; done) | (go_simp; rfl)); intro gb173 hg w26 hbox hb; have n0_ := aK (blk_below (g := gb170) (o := .cells #[.slice (some ad172) l0_0.length c0_0, .slice A0_1 l0_1.length c0_1] 25 (0, 0)) qDoor12_1 hb); have n1_ := aK (below_step qDoor12_0 hb); have n2_ := aK (hbox); have n3_ := aK ((qDoor12_2 : w.heap.size ≤ gb173)); have n4_ := aK ((qDoor12_2 : w.heap.size ≤ gb173)); have n5_ := aK ((qDoor12_10 : gb170 ≠ gb173)); have n6_ := aK ((qDoor12_11 : gb173 ≠ gb170)); clear BK170; clear HB; have BK170 := n0_; have HB := n1_; have BK173 := n2_; have GW173 := n3_; have GE173 := n4_; have NB170_173 := n5_; have NB173_170 := n6_; clear n0_ n1_ n2_ n3_ n4_ n5_ n6_; clear hb hbox hg; have hnb27 := NB173_170.out; have hnc27 := NB170_173.out; have hcz28_0 : w26.cell? ⟨gb173, 0, none⟩ = some (.string (⟨#[]⟩ : ByteArray)) := (blk_cell BK173.out 0).trans rfl; have hcz28_1 : w26.cell? ⟨gb173, 1, none⟩ = some (.string (⟨#[]⟩ : ByteArray)) := (blk_cell BK173.out 1).trans rfl; have hfz28_0 := blk_frozen BK173.out 0; have hfz28_1 := blk_frozen BK173.out 1) | ((with_reducible refine gate_callee (f := 26) rfl ?_); refine goesL_ (some 24) rfl rfl Tryd.func26 (by kernel_rfl) rfl #[.string ((rd_T79 l0_0 x18_1).f0)] rfl qDoor12_5 ?_; (with_reducible refine (script_own.calls k1 ((rd_T79 l0_0 x18_1).f0) true _ A19.out).mono ?_); rintro e w' ⟨rfl, ⟨nd, rfl⟩⟩; refine ⟨_, rfl, ?_⟩))
           go_ret
           exact ⟨qDoor12_15, qDoor12_18⟩
          ·rw [if_neg c25] at H
           have c25b0 : decide (64 < (((rd_T79 l0_0 x18_1).f1).size : Int)) = false := decide_eq_false c25
           have c25b1 : decide (64 < ((rd_T79 l0_0 x18_1).f1).size) = false := decide_eq_false (by omega)
           clear c25
           have H' := aK H
           clear H
           have p172 : 0 ≤ (x18_1 : Int) := of_decide_eq_true qDoor12_14
           have q172 : x18_1 < (l0_0.length : Int) := of_decide_eq_true qDoor12_14
           obtain ⟨ad172, e172, hx172_0, hx172_1⟩ := at_T79 HR0_0.out x18_1 p172 q172
           cases e172
           replace hx172_0 := (HB.out.cell (World.block_lt_of_cell? w _ hx172_0)).trans hx172_0
           replace hx172_1 := (HB.out.cell (World.block_lt_of_cell? w _ hx172_1)).trans hx172_1
           replace p172 := eq_true p172
           replace q172 := eq_true q172
           go_wp2_with (first | ((with_reducible refine gate_dst (N := 4) rfl ?_); (try (refine gate_guard (by rfl) ?_; dsimp only)); refine box_event ?hg (N := 4) ?hd (cs := #[.string (⟨#[]⟩ : ByteArray), .string (⟨#[]⟩ : ByteArray)]) (t := 79) ?hr ?_; (case hd => rfl); (case hg => rfl); (case hr => first | (go_simp; done) | (go_simp; rfl)); intro gb173 hg w29 hbox hb; have n0_ := aK (blk_below (g := gb170) (o := .cells #[.slice (some ad172) l0_0.length c0_0, .slice A0_1 l0_1.length c0_1] 25 (0, 0)) qDoor12_1 hb); have n1_ := aK (below_step qDoor12_0 hb); have n2_ := aK (hbox); have n3_ := aK ((qDoor12_2 : w.heap.size ≤ gb173)); have n4_ := aK ((qDoor12_2 : w.heap.size ≤ gb173)); have n5_ := aK ((qDoor12_10 : gb170 ≠ gb173)); have n6_ := aK ((qDoor12_11 : gb173 ≠ gb170)); clear BK170; clear HB; have BK170 := n0_; have HB := n1_; have BK173 := n2_; have GW173 := n3_; have GE173 := n4_; have NB170_173 := n5_; have NB173_170 := n6_; clear n0_ n1_ n2_ n3_ n4_ n5_ n6_; clear hb hbox hg; have hnb30 := NB173_170.out; have hnc30 := NB170_173.out; have hcz31_0 : w29.cell? ⟨gb173, 0, none⟩ = some (.string (⟨#[]⟩ : ByteArray)) := (blk_cell BK173.out 0).trans rfl; have hcz31_1 : w29.cell? ⟨gb173, 1, none⟩ = some (.string (⟨#[]⟩ : ByteArray)) := (blk_cell BK173.out 1).trans rfl; have hfz31_0 := blk_frozen BK173.out 0; have hfz31_1 := blk_frozen BK173.out 1) | ((with_reducible refine gate_callee (f := 26) rfl ?_); refine goesL_ (some 24) rfl rfl Tryd.func26 (by kernel_rfl) rfl #[.string ((rd_T79 l0_0 x18_1).f0)] rfl qDoor12_5 ?_; (with_reducible refine (script_own.calls k1 ((rd_T79 l0_0 x18_1).f0) true _ A19.out).mono ?_); rintro e w' ⟨rfl, ⟨nd, rfl⟩⟩; refine ⟨_, rfl, ?_⟩))
           go_roundg k1
           case measure => have := HK1.out; omega
           case rel => exact ⟨(wrap64 (x18_1 + 1)), qDoor12_21, H', ⟨by have := HK1.out; omega⟩, ⟨by (with_reducible repeat (first | refine blk_drewN ?_ _ | refine blk_drew ?_ | refine blk_alloc ?_ _)); refine blk_far ?_ NB170_173.out _; (with_reducible repeat (first | refine blk_drewN ?_ _ | refine blk_drew ?_ | refine blk_alloc ?_ _)); refine blk_far ?_ NB170_173.out _; (with_reducible repeat (first | refine blk_drewN ?_ _ | refine blk_drew ?_ | refine blk_alloc ?_ _)); exact BK170.out⟩, ⟨qDoor12_18⟩⟩
        ·replace c20 := Bool.eq_false_iff.mpr c20
         subst c20
         have H1 : (some 6) = some r := by rw [if_neg (show ¬ (false = true) by decide)] at H; exact H
         clear H
         have H := H1
         clear H1
         obtain rfl := Option.some.inj H
         have p172 : 0 ≤ (x18_1 : Int) := of_decide_eq_true qDoor12_14
         have q172 : x18_1 < (l0_0.length : Int) := of_decide_eq_true qDoor12_14
         obtain ⟨ad172, e172, hx172_0, hx172_1⟩ := at_T79 HR0_0.out x18_1 p172 q172
         cases e172
         replace hx172_0 := (HB.out.cell (World.block_lt_of_cell? w _ hx172_0)).trans hx172_0
         replace hx172_1 := (HB.out.cell (World.block_lt_of_cell? w _ hx172_1)).trans hx172_1
         replace p172 := eq_true p172
         replace q172 := eq_true q172
         go_wp2_with (first | ((with_reducible refine gate_dst (N := 4) rfl ?_); (try (refine gate_guard (by rfl) ?_; dsimp only)); refine box_event ?hg (N := 4) ?hd (cs := #[.string (⟨#[]⟩ : ByteArray), .string (⟨#[]⟩ : ByteArray)]) (t := 79) ?hr ?_; (case hd => rfl); (case hg => rfl); (case hr => first | (go_simp; done) | (go_simp; rfl)); intro gb173 hg w32 hbox hb; have n0_ := aK (blk_below (g := gb170) (o := .cells #[.slice (some ad172) l0_0.length c0_0, .slice A0_1 l0_1.length c0_1] 25 (0, 0)) qDoor12_1 hb); have n1_ := aK (below_step qDoor12_0 hb); have n2_ := aK (hbox); have n3_ := aK ((qDoor12_2 : w.heap.size ≤ gb173)); have n4_ := aK ((qDoor12_2 : w.heap.size ≤ gb173)); have n5_ := aK ((qDoor12_10 : gb170 ≠ gb173)); have n6_ := aK ((qDoor12_11 : gb173 ≠ gb170)); clear BK170; clear HB; have BK170 := n0_; have HB := n1_; have BK173 := n2_; have GW173 := n3_; have GE173 := n4_; have NB170_173 := n5_; have NB173_170 := n6_; clear n0_ n1_ n2_ n3_ n4_ n5_ n6_; clear hb hbox hg; have hnb33 := NB173_170.out; have hnc33 := NB170_173.out; have hcz34_0 : w32.cell? ⟨gb173, 0, none⟩ = some (.string (⟨#[]⟩ : ByteArray)) := (blk_cell BK173.out 0).trans rfl; have hcz34_1 : w32.cell? ⟨gb173, 1, none⟩ = some (.string (⟨#[]⟩ : ByteArray)) := (blk_cell BK173.out 1).trans rfl; have hfz34_0 := blk_frozen BK173.out 0; have hfz34_1 := blk_frozen BK173.out 1) | ((with_reducible refine gate_callee (f := 26) rfl ?_); refine goesL_ (some 24) rfl rfl Tryd.func26 (by kernel_rfl) rfl #[.string ((rd_T79 l0_0 x18_1).f0)] rfl qDoor12_5 ?_; (with_reducible refine (script_own.calls k1 ((rd_T79 l0_0 x18_1).f0) false _ A19.out).mono ?_); rintro e w' ⟨rfl, ⟨nd, rfl⟩⟩; refine ⟨_, rfl, ?_⟩))
         go_ret
         exact ⟨qDoor12_15, qDoor12_18⟩
       ·rw [if_neg c18] at H
        exact absurd H (by simp)
      ·rw [if_neg c17] at H
       exact absurd H (by simp)
     ·rw [if_neg c16] at H
      have c16b0 : decide (x18_1 < (l0_0.length : Int)) = false := decide_eq_false c16
      clear c16
      have H' := aK H
      clear H
      have hcz35_0 : wr.cell? ⟨gb170, 0, none⟩ = some (.slice A0_0 l0_0.length c0_0) := (blk_cell BK170.out 0).trans rfl
      have hcz35_1 : wr.cell? ⟨gb170, 1, none⟩ = some (.slice A0_1 l0_1.length c0_1) := (blk_cell BK170.out 1).trans rfl
      have hfz35_0 := blk_frozen BK170.out 0
      have hfz35_1 := blk_frozen BK170.out 1
      go_wp2
      go_loopg [42] k1 (fun kq v42 w' => ∃ (x42_2 : Int), v42 = .int .i64 x42_2 ∧ Aside0 (script_Check.l1 kq l0_1 (l0_1.length : Int) x42_2 l0_0 l0_1 = some r) ∧ Aside0 (kq ≤ k1) ∧ Aside0 (w'.heap[gb170]? = some (.cells #[(.slice A0_0 l0_0.length c0_0), (.slice A0_1 l0_1.length c0_1)] 25 (0, 0))) ∧ Aside0 (Below w.heap.size w w'))
      case atStart => exact ⟨(0), qDoor12_21, H', ⟨Nat.le_refl _⟩, ⟨qDoor12_1⟩, ⟨qDoor12_0⟩⟩
      case round =>
       clear H'; (try clear c1); (try clear p1); (try clear q1); (try clear hx1); (try clear c2); (try clear p2); (try clear c3); (try clear p6); (try clear c7); (try clear c7b0); (try clear c7b1); (try clear c7b2); (try clear c16); (try clear c16b0); (try clear c17); (try clear c17b0); (try clear p17); (try clear q17); (try clear hx17); (try clear c18); (try clear c18b0); (try clear c20); (try clear c21); (try clear c21b0); (try clear c21b1); (try clear c23); (try clear c25); (try clear c25b0); (try clear c25b1); (try clear c26); (try clear c27); (try clear c30); (try clear c33); (try clear hcz11_0); (try clear hcz11_1); (try clear hcz13_0); (try clear hcz13_1); (try clear hcz15_0); (try clear hcz15_1); (try clear hcz24_0); (try clear hcz24_1); (try clear hcz28_0); (try clear hcz28_1); (try clear hcz31_0); (try clear hcz31_1); (try clear hcz34_0); (try clear hcz34_1); (try clear hcz35_0); (try clear hcz35_1); (try clear hcz5_0); (try clear hcz5_1); (try clear hcz9_0); (try clear hcz9_1); (try clear hfz11_0); (try clear hfz11_1); (try clear hfz13_0); (try clear hfz13_1); (try clear hfz15_0); (try clear hfz15_1); (try clear hfz24_0); (try clear hfz24_1); (try clear hfz28_0); (try clear hfz28_1); (try clear hfz31_0); (try clear hfz31_1); (try clear hfz34_0); (try clear hfz34_1); (try clear hfz35_0); (try clear hfz35_1); (try clear hfz5_0); (try clear hfz5_1); (try clear hfz9_0); (try clear hfz9_1); (try clear hx172_0); (try clear hx172_1); (try clear p172); (try clear p2); (try clear q172)
       obtain ⟨x42_2, rfl, HA, HK2, BK170, HB⟩ := hrel
       cases gk with
       | zero => exact absurd HA.out (by simp [script_Check.l1])
       | succ k2 =>
        have H := HA.out
        clear HA
        simp only [script_Check.l1] at H
        by_cases c36 : x42_2 < (l0_1.length : Int)
        ·rw [if_pos c36] at H
         have c36b0 : decide (x42_2 < (l0_1.length : Int)) = true := decide_eq_true c36
         clear c36
         by_cases c37 : 0 ≤ x42_2
         ·rw [if_pos c37] at H
          have c37b0 : decide (0 ≤ x42_2) = true := decide_eq_true c37
          clear c37
          by_cases c38 : x42_2 < (l0_1.length : Int)
          ·rw [if_pos c38] at H
           have c38b0 : decide (x42_2 < (l0_1.length : Int)) = true := decide_eq_true c38
           clear c38
           replace H := Option.bind_eq_some_iff.mp H
           obtain ⟨t177, A390, H⟩ := H
           replace H : (if t177 = true then ((script_shaped.f k2 ((rd_T40 l0_1 x42_2).f2)).bind fun t178 => (if t178 = true then (script_Check.l1 k2 l0_1 (l0_1.length : Int) (wrap64 (x42_2 + 1)) l0_0 l0_1) else (some 6))) else (some 6)) = some r := H
           have A39 := aK A390; clear A390
           by_cases c40 : t177 = true
           ·subst c40
            have H1 : ((script_shaped.f k2 ((rd_T40 l0_1 x42_2).f2)).bind fun t178 => (if t178 = true then (script_Check.l1 k2 l0_1 (l0_1.length : Int) (wrap64 (x42_2 + 1)) l0_0 l0_1) else (some 6))) = some r := by rw [if_pos rfl] at H; exact H
            clear H
            have H := H1
            clear H1
            replace H := Option.bind_eq_some_iff.mp H
            obtain ⟨t178, A410, H⟩ := H
            replace H : (if t178 = true then (script_Check.l1 k2 l0_1 (l0_1.length : Int) (wrap64 (x42_2 + 1)) l0_0 l0_1) else (some 6)) = some r := H
            have A41 := aK A410; clear A410
            by_cases c42 : t178 = true
            ·subst c42
             have H1 : (script_Check.l1 k2 l0_1 (l0_1.length : Int) (wrap64 (x42_2 + 1)) l0_0 l0_1) = some r := by rw [if_pos rfl] at H; exact H
             clear H
             have H := H1
             clear H1
             have H' := aK H
             clear H
             have p175 : 0 ≤ (x42_2 : Int) := of_decide_eq_true qDoor12_14
             have q175 : x42_2 < (l0_1.length : Int) := of_decide_eq_true qDoor12_14
             obtain ⟨ad175, A175_1, c175_1, A175_2, c175_2, e175, hx175_0, hx175_1, hx175_2, hl175_1, hi175_1, hl175_2, hi175_2⟩ := at_T40 HR0_1.out x42_2 p175 q175
             cases e175
             replace hx175_0 := (HB.out.cell (World.block_lt_of_cell? w _ hx175_0)).trans hx175_0
             replace hx175_1 := (HB.out.cell (World.block_lt_of_cell? w _ hx175_1)).trans hx175_1
             replace hx175_2 := (HB.out.cell (World.block_lt_of_cell? w _ hx175_2)).trans hx175_2
             have HR175_1 := aK hi175_1; have HC175_1 := aK hl175_1; clear hi175_1 hl175_1; have HR175_2 := aK hi175_2; have HC175_2 := aK hl175_2; clear hi175_2 hl175_2
             replace p175 := eq_true p175
             replace q175 := eq_true q175
             go_wp2_with (first | ((with_reducible refine gate_dst (N := 6) rfl ?_); (try (refine gate_guard (by rfl) ?_; dsimp only)); refine box_event ?hg (N := 6) ?hd (cs := #[.string (⟨#[]⟩ : ByteArray), .slice none 0 0, .slice none 0 0]) (t := 40) ?hr ?_; (case hd => rfl); (case hg => rfl); (case hr => first | (go_simp; done) | (go_simp; rfl)); intro gb176 hg w43 hbox hb; have n0_ := aK (blk_below (g := gb170) (o := .cells #[.slice A0_0 l0_0.length c0_0, .slice (some ad175) l0_1.length c0_1] 25 (0, 0)) qDoor12_1 hb); have n1_ := aK (below_step qDoor12_0 hb); have n2_ := aK (hbox); have n3_ := aK ((qDoor12_2 : w.heap.size ≤ gb176)); have n4_ := aK ((qDoor12_2 : w.heap.size ≤ gb176)); have n5_ := aK ((qDoor12_16 : gb170 ≠ gb176)); have n6_ := aK ((qDoor12_17 : gb176 ≠ gb170)); clear BK170; clear HB; have BK170 := n0_; have HB := n1_; have BK176 := n2_; have GW176 := n3_; have GE176 := n4_; have NB170_176 := n5_; have NB176_170 := n6_; clear n0_ n1_ n2_ n3_ n4_ n5_ n6_; clear hb hbox hg; have hnb44 := NB176_170.out; have hnc44 := NB170_176.out; have hcz45_0 : w43.cell? ⟨gb176, 0, none⟩ = some (.string (⟨#[]⟩ : ByteArray)) := (blk_cell BK176.out 0).trans rfl; have hcz45_1 : w43.cell? ⟨gb176, 1, none⟩ = some (.slice none 0 0) := (blk_cell BK176.out 1).trans rfl; have hcz45_2 : w43.cell? ⟨gb176, 2, none⟩ = some (.slice none 0 0) := (blk_cell BK176.out 2).trans rfl; have hfz45_0 := blk_frozen BK176.out 0; have hfz45_1 := blk_frozen BK176.out 1; have hfz45_2 := blk_frozen BK176.out 2) | ((with_reducible refine gate_callee (f := 27) rfl ?_); refine goesL_ (some 47) rfl rfl Tryd.func27 (by kernel_rfl) rfl #[.agg #[.string ((rd_T40 l0_1 x42_2).f0), .slice A175_1 ((rd_T40 l0_1 x42_2).f1).length c175_1, .slice A175_2 ((rd_T40 l0_1 x42_2).f2).length c175_2]] rfl qDoor12_5 ?_; (with_reducible refine (script_headed.calls k2 ((rd_T40 l0_1 x42_2).f0) _ _ ((rd_T40 l0_1 x42_2).f1) _ _ ((rd_T40 l0_1 x42_2).f2) true _ ?side1 ?side2 ?side3 ?side4 A39.out).mono ?_); (case side1 => exact Kd.C_below HR175_1.out qDoor12_3); (case side2 => exact HC175_1.out); (case side3 => exact Kd.C_below HR175_2.out qDoor12_3); (case side4 => exact HC175_2.out); rintro e w46 ⟨rfl, hb⟩; refine ⟨_, rfl, ?_⟩; have n0_ := aK (blk_below (g := gb170) (o := .cells #[.slice A0_0 l0_0.length c0_0, .slice (some ad175) l0_1.length c0_1] 25 (0, 0)) qDoor12_6 hb); have n1_ := aK (blk_below (g := gb176) (o := .cells #[.string ((rd_T40 l0_1 x42_2).f0), .slice A175_1 ((rd_T40 l0_1 x42_2).f1).length c175_1, .slice A175_2 ((rd_T40 l0_1 x42_2).f2).length c175_2] 40 (0, 0)) qDoor12_4 hb); have n2_ := aK (below_step qDoor12_3 hb); clear BK170; clear BK176; clear HB; have BK170 := n0_; have BK176 := n1_; have HB := n2_; clear n0_ n1_ n2_; (try clear hb); (try clear hb2); (try clear hk); (try clear hi); have hcz47_0 : w46.cell? ⟨gb176, 0, none⟩ = some (.string ((rd_T40 l0_1 x42_2).f0)) := (blk_cell BK176.out 0).trans rfl; have hcz47_1 : w46.cell? ⟨gb176, 1, none⟩ = some (.slice A175_1 ((rd_T40 l0_1 x42_2).f1).length c175_1) := (blk_cell BK176.out 1).trans rfl; have hcz47_2 : w46.cell? ⟨gb176, 2, none⟩ = some (.slice A175_2 ((rd_T40 l0_1 x42_2).f2).length c175_2) := (blk_cell BK176.out 2).trans rfl; have hfz47_0 := blk_frozen BK176.out 0; have hfz47_1 := blk_frozen BK176.out 1; have hfz47_2 := blk_frozen BK176.out 2) | (go_at_call 28; (with_reducible refine (script_shaped.calls k2 _ _ ((rd_T40 l0_1 x42_2).f2) true _ ?side1 ?side2 A41.out).mono ?_); (case side1 => repeat (first | exact (Kd.C_below HR175_2.out HB.out) | (with_reducible refine Kd.C_alloc ?_ _) | (with_reducible refine Kd.C_drewN ?_ _) | (with_reducible refine Kd.C_drew ?_))); (case side2 => exact HC175_2.out); rintro e w48 ⟨rfl, hb⟩; have n0_ := aK (blk_below (g := gb170) (o := .cells #[.slice A0_0 l0_0.length c0_0, .slice (some ad175) l0_1.length c0_1] 25 (0, 0)) qDoor12_1 hb); have n1_ := aK (blk_below (g := gb176) (o := .cells #[.string ((rd_T40 l0_1 x42_2).f0), .slice A175_1 ((rd_T40 l0_1 x42_2).f1).length c175_1, .slice A175_2 ((rd_T40 l0_1 x42_2).f2).length c175_2] 40 (0, 0)) qDoor12_22 hb); have n2_ := aK (below_step qDoor12_3 hb); clear BK170; clear BK176; clear HB; have BK170 := n0_; have BK176 := n1_; have HB := n2_; clear n0_ n1_ n2_; (try clear hb); (try clear hb2); (try clear hk); (try clear hi)))
             go_roundg k2
             case measure => have := HK1.out; have := HK2.out; omega
             case rel => exact ⟨(wrap64 (x42_2 + 1)), qDoor12_21, H', ⟨by have := HK1.out; have := HK2.out; omega⟩, ⟨qDoor12_1⟩, ⟨qDoor12_3⟩⟩
            ·replace c42 := Bool.eq_false_iff.mpr c42
             subst c42
             have H1 : (some 6) = some r := by rw [if_neg (show ¬ (false = true) by decide)] at H; exact H
             clear H
             have H := H1
             clear H1
             obtain rfl := Option.some.inj H
             have p175 : 0 ≤ (x42_2 : Int) := of_decide_eq_true qDoor12_14
             have q175 : x42_2 < (l0_1.length : Int) := of_decide_eq_true qDoor12_14
             obtain ⟨ad175, A175_1, c175_1, A175_2, c175_2, e175, hx175_0, hx175_1, hx175_2, hl175_1, hi175_1, hl175_2, hi175_2⟩ := at_T40 HR0_1.out x42_2 p175 q175
             cases e175
             replace hx175_0 := (HB.out.cell (World.block_lt_of_cell? w _ hx175_0)).trans hx175_0
             replace hx175_1 := (HB.out.cell (World.block_lt_of_cell? w _ hx175_1)).trans hx175_1
             replace hx175_2 := (HB.out.cell (World.block_lt_of_cell? w _ hx175_2)).trans hx175_2
             have HR175_1 := aK hi175_1; have HC175_1 := aK hl175_1; clear hi175_1 hl175_1; have HR175_2 := aK hi175_2; have HC175_2 := aK hl175_2; clear hi175_2 hl175_2
             replace p175 := eq_true p175
             replace q175 := eq_true q175
             go_wp2_with (first | ((with_reducible refine gate_dst (N := 6) rfl ?_); (try (refine gate_guard (by rfl) ?_; dsimp only)); refine box_event ?hg (N := 6) ?hd (cs := #[.string (⟨#[]⟩ : ByteArray), .slice none 0 0, .slice none 0 0]) (t := 40) ?hr ?_; (case hd => rfl); (case hg => rfl); (case hr => first | (go_simp; done) | (go_simp; rfl)); intro gb176 hg w49 hbox hb; have n0_ := aK (blk_below (g := gb170) (o := .cells #[.slice A0_0 l0_0.length c0_0, .slice (some ad175) l0_1.length c0_1] 25 (0, 0)) qDoor12_1 hb); have n1_ := aK (below_step qDoor12_0 hb); have n2_ := aK (hbox); have n3_ := aK ((qDoor12_2 : w.heap.size ≤ gb176)); have n4_ := aK ((qDoor12_2 : w.heap.size ≤ gb176)); have n5_ := aK ((qDoor12_16 : gb170 ≠ gb176)); have n6_ := aK ((qDoor12_17 : gb176 ≠ gb170)); clear BK170; clear HB; have BK170 := n0_; have HB := n1_; have BK176 := n2_; have GW176 := n3_; have GE176 := n4_; have NB170_176 := n5_; have NB176_170 := n6_; clear n0_ n1_ n2_ n3_ n4_ n5_ n6_; clear hb hbox hg; have hnb50 := NB176_170.out; have hnc50 := NB170_176.out; have hcz51_0 : w49.cell? ⟨gb176, 0, none⟩ = some (.string (⟨#[]⟩ : ByteArray)) := (blk_cell BK176.out 0).trans rfl; have hcz51_1 : w49.cell? ⟨gb176, 1, none⟩ = some (.slice none 0 0) := (blk_cell BK176.out 1).trans rfl; have hcz51_2 : w49.cell? ⟨gb176, 2, none⟩ = some (.slice none 0 0) := (blk_cell BK176.out 2).trans rfl; have hfz51_0 := blk_frozen BK176.out 0; have hfz51_1 := blk_frozen BK176.out 1; have hfz51_2 := blk_frozen BK176.out 2) | ((with_reducible refine gate_callee (f := 27) rfl ?_); refine goesL_ (some 47) rfl rfl Tryd.func27 (by kernel_rfl) rfl #[.agg #[.string ((rd_T40 l0_1 x42_2).f0), .slice A175_1 ((rd_T40 l0_1 x42_2).f1).length c175_1, .slice A175_2 ((rd_T40 l0_1 x42_2).f2).length c175_2]] rfl qDoor12_5 ?_; (with_reducible refine (script_headed.calls k2 ((rd_T40 l0_1 x42_2).f0) _ _ ((rd_T40 l0_1 x42_2).f1) _ _ ((rd_T40 l0_1 x42_2).f2) true _ ?side1 ?side2 ?side3 ?side4 A39.out).mono ?_); (case side1 => exact Kd.C_below HR175_1.out qDoor12_3); (case side2 => exact HC175_1.out); (case side3 => exact Kd.C_below HR175_2.out qDoor12_3); (case side4 => exact HC175_2.out); rintro e w52 ⟨rfl, hb⟩; refine ⟨_, rfl, ?_⟩; have n0_ := aK (blk_below (g := gb170) (o := .cells #[.slice A0_0 l0_0.length c0_0, .slice (some ad175) l0_1.length c0_1] 25 (0, 0)) qDoor12_6 hb); have n1_ := aK (blk_below (g := gb176) (o := .cells #[.string ((rd_T40 l0_1 x42_2).f0), .slice A175_1 ((rd_T40 l0_1 x42_2).f1).length c175_1, .slice A175_2 ((rd_T40 l0_1 x42_2).f2).length c175_2] 40 (0, 0)) qDoor12_4 hb); have n2_ := aK (below_step qDoor12_3 hb); clear BK170; clear BK176; clear HB; have BK170 := n0_; have BK176 := n1_; have HB := n2_; clear n0_ n1_ n2_; (try clear hb); (try clear hb2); (try clear hk); (try clear hi); have hcz53_0 : w52.cell? ⟨gb176, 0, none⟩ = some (.string ((rd_T40 l0_1 x42_2).f0)) := (blk_cell BK176.out 0).trans rfl; have hcz53_1 : w52.cell? ⟨gb176, 1, none⟩ = some (.slice A175_1 ((rd_T40 l0_1 x42_2).f1).length c175_1) := (blk_cell BK176.out 1).trans rfl; have hcz53_2 : w52.cell? ⟨gb176, 2, none⟩ = some (.slice A175_2 ((rd_T40 l0_1 x42_2).f2).length c175_2) := (blk_cell BK176.out 2).trans rfl; have hfz53_0 := blk_frozen BK176.out 0; have hfz53_1 := blk_frozen BK176.out 1; have hfz53_2 := blk_frozen BK176.out 2) | (go_at_call 28; (with_reducible refine (script_shaped.calls k2 _ _ ((rd_T40 l0_1 x42_2).f2) false _ ?side1 ?side2 A41.out).mono ?_); (case side1 => repeat (first | exact (Kd.C_below HR175_2.out HB.out) | (with_reducible refine Kd.C_alloc ?_ _) | (with_reducible refine Kd.C_drewN ?_ _) | (with_reducible refine Kd.C_drew ?_))); (case side2 => exact HC175_2.out); rintro e w54 ⟨rfl, hb⟩; have n0_ := aK (blk_below (g := gb170) (o := .cells #[.slice A0_0 l0_0.length c0_0, .slice (some ad175) l0_1.length c0_1] 25 (0, 0)) qDoor12_1 hb); have n1_ := aK (blk_below (g := gb176) (o := .cells #[.string ((rd_T40 l0_1 x42_2).f0), .slice A175_1 ((rd_T40 l0_1 x42_2).f1).length c175_1, .slice A175_2 ((rd_T40 l0_1 x42_2).f2).length c175_2] 40 (0, 0)) qDoor12_22 hb); have n2_ := aK (below_step qDoor12_3 hb); clear BK170; clear BK176; clear HB; have BK170 := n0_; have BK176 := n1_; have HB := n2_; clear n0_ n1_ n2_; (try clear hb); (try clear hb2); (try clear hk); (try clear hi)))
             go_ret
             exact ⟨qDoor12_15, qDoor12_3⟩
           ·replace c40 := Bool.eq_false_iff.mpr c40
            subst c40
            have H1 : (some 6) = some r := by rw [if_neg (show ¬ (false = true) by decide)] at H; exact H
            clear H
            have H := H1
            clear H1
            obtain rfl := Option.some.inj H
            have p175 : 0 ≤ (x42_2 : Int) := of_decide_eq_true qDoor12_14
            have q175 : x42_2 < (l0_1.length : Int) := of_decide_eq_true qDoor12_14
            obtain ⟨ad175, A175_1, c175_1, A175_2, c175_2, e175, hx175_0, hx175_1, hx175_2, hl175_1, hi175_1, hl175_2, hi175_2⟩ := at_T40 HR0_1.out x42_2 p175 q175
            cases e175
            replace hx175_0 := (HB.out.cell (World.block_lt_of_cell? w _ hx175_0)).trans hx175_0
            replace hx175_1 := (HB.out.cell (World.block_lt_of_cell? w _ hx175_1)).trans hx175_1
            replace hx175_2 := (HB.out.cell (World.block_lt_of_cell? w _ hx175_2)).trans hx175_2
            have HR175_1 := aK hi175_1; have HC175_1 := aK hl175_1; clear hi175_1 hl175_1; have HR175_2 := aK hi175_2; have HC175_2 := aK hl175_2; clear hi175_2 hl175_2
            replace p175 := eq_true p175
            replace q175 := eq_true q175
            go_wp2_with (first | ((with_reducible refine gate_dst (N := 6) rfl ?_); (try (refine gate_guard (by rfl) ?_; dsimp only)); refine box_event ?hg (N := 6) ?hd (cs := #[.string (⟨#[]⟩ : ByteArray), .slice none 0 0, .slice none 0 0]) (t := 40) ?hr ?_; (case hd => rfl); (case hg => rfl); (case hr => first | (go_simp; done) | (go_simp; rfl)); intro gb176 hg w55 hbox hb; have n0_ := aK (blk_below (g := gb170) (o := .cells #[.slice A0_0 l0_0.length c0_0, .slice (some ad175) l0_1.length c0_1] 25 (0, 0)) qDoor12_1 hb); have n1_ := aK (below_step qDoor12_0 hb); have n2_ := aK (hbox); have n3_ := aK ((qDoor12_2 : w.heap.size ≤ gb176)); have n4_ := aK ((qDoor12_2 : w.heap.size ≤ gb176)); have n5_ := aK ((qDoor12_16 : gb170 ≠ gb176)); have n6_ := aK ((qDoor12_17 : gb176 ≠ gb170)); clear BK170; clear HB; have BK170 := n0_; have HB := n1_; have BK176 := n2_; have GW176 := n3_; have GE176 := n4_; have NB170_176 := n5_; have NB176_170 := n6_; clear n0_ n1_ n2_ n3_ n4_ n5_ n6_; clear hb hbox hg; have hnb56 := NB176_170.out; have hnc56 := NB170_176.out; have hcz57_0 : w55.cell? ⟨gb176, 0, none⟩ = some (.string (⟨#[]⟩ : ByteArray)) := (blk_cell BK176.out 0).trans rfl; have hcz57_1 : w55.cell? ⟨gb176, 1, none⟩ = some (.slice none 0 0) := (blk_cell BK176.out 1).trans rfl; have hcz57_2 : w55.cell? ⟨gb176, 2, none⟩ = some (.slice none 0 0) := (blk_cell BK176.out 2).trans rfl; have hfz57_0 := blk_frozen BK176.out 0; have hfz57_1 := blk_frozen BK176.out 1; have hfz57_2 := blk_frozen BK176.out 2) | ((with_reducible refine gate_callee (f := 27) rfl ?_); refine goesL_ (some 47) rfl rfl Tryd.func27 (by kernel_rfl) rfl #[.agg #[.string ((rd_T40 l0_1 x42_2).f0), .slice A175_1 ((rd_T40 l0_1 x42_2).f1).length c175_1, .slice A175_2 ((rd_T40 l0_1 x42_2).f2).length c175_2]] rfl qDoor12_5 ?_; (with_reducible refine (script_headed.calls k2 ((rd_T40 l0_1 x42_2).f0) _ _ ((rd_T40 l0_1 x42_2).f1) _ _ ((rd_T40 l0_1 x42_2).f2) false _ ?side1 ?side2 ?side3 ?side4 A39.out).mono ?_); (case side1 => exact Kd.C_below HR175_1.out qDoor12_3); (case side2 => exact HC175_1.out); (case side3 => exact Kd.C_below HR175_2.out qDoor12_3); (case side4 => exact HC175_2.out); rintro e w58 ⟨rfl, hb⟩; refine ⟨_, rfl, ?_⟩; have n0_ := aK (blk_below (g := gb170) (o := .cells #[.slice A0_0 l0_0.length c0_0, .slice (some ad175) l0_1.length c0_1] 25 (0, 0)) qDoor12_6 hb); have n1_ := aK (blk_below (g := gb176) (o := .cells #[.string ((rd_T40 l0_1 x42_2).f0), .slice A175_1 ((rd_T40 l0_1 x42_2).f1).length c175_1, .slice A175_2 ((rd_T40 l0_1 x42_2).f2).length c175_2] 40 (0, 0)) qDoor12_4 hb); have n2_ := aK (below_step qDoor12_3 hb); clear BK170; clear BK176; clear HB; have BK170 := n0_; have BK176 := n1_; have HB := n2_; clear n0_ n1_ n2_; (try clear hb); (try clear hb2); (try clear hk); (try clear hi)))
            go_ret
            exact ⟨qDoor12_15, qDoor12_3⟩
          ·rw [if_neg c38] at H
           exact absurd H (by simp)
         ·rw [if_neg c37] at H
          exact absurd H (by simp)
        ·rw [if_neg c36] at H
         have c36b0 : decide (x42_2 < (l0_1.length : Int)) = false := decide_eq_false c36
         clear c36
         have H' := aK H
         clear H
         have hcz59_0 : wr.cell? ⟨gb170, 0, none⟩ = some (.slice A0_0 l0_0.length c0_0) := (blk_cell BK170.out 0).trans rfl
         have hcz59_1 : wr.cell? ⟨gb170, 1, none⟩ = some (.slice A0_1 l0_1.length c0_1) := (blk_cell BK170.out 1).trans rfl
         have hfz59_0 := blk_frozen BK170.out 0
         have hfz59_1 := blk_frozen BK170.out 1
         go_wp2
         go_loopg [59] k2 (fun kq v59 w' => ∃ (x59_3 : Int), v59 = .int .i64 x59_3 ∧ Aside0 (script_Check.l2 kq l0_1 (l0_1.length : Int) x59_3 = some r) ∧ Aside0 (kq ≤ k2) ∧ Aside0 (w'.heap[gb170]? = some (.cells #[(.slice A0_0 l0_0.length c0_0), (.slice A0_1 l0_1.length c0_1)] 25 (0, 0))) ∧ Aside0 (Below w.heap.size w w'))
         case atStart => exact ⟨(0), qDoor12_21, H', ⟨Nat.le_refl _⟩, ⟨qDoor12_1⟩, ⟨qDoor12_0⟩⟩
         case round =>
          clear H'; (try clear c1); (try clear p1); (try clear q1); (try clear hx1); (try clear c2); (try clear p2); (try clear c3); (try clear c4); (try clear c5); (try clear p6); (try clear c7); (try clear c7b0); (try clear c7b1); (try clear c7b2); (try clear c16); (try clear c16b0); (try clear c17); (try clear c17b0); (try clear p17); (try clear q17); (try clear hx17); (try clear c18); (try clear c18b0); (try clear c20); (try clear c21); (try clear c21b0); (try clear c21b1); (try clear c23); (try clear c25); (try clear c25b0); (try clear c25b1); (try clear c26); (try clear c27); (try clear c30); (try clear c33); (try clear c36); (try clear c36b0); (try clear c37); (try clear c37b0); (try clear c38); (try clear c38b0); (try clear c40); (try clear c42); (try clear c44); (try clear c50); (try clear c56); (try clear hcz11_0); (try clear hcz11_1); (try clear hcz13_0); (try clear hcz13_1); (try clear hcz15_0); (try clear hcz15_1); (try clear hcz24_0); (try clear hcz24_1); (try clear hcz28_0); (try clear hcz28_1); (try clear hcz31_0); (try clear hcz31_1); (try clear hcz34_0); (try clear hcz34_1); (try clear hcz35_0); (try clear hcz35_1); (try clear hcz45_0); (try clear hcz45_1); (try clear hcz45_2); (try clear hcz47_0); (try clear hcz47_1); (try clear hcz47_2); (try clear hcz51_0); (try clear hcz51_1); (try clear hcz51_2); (try clear hcz53_0); (try clear hcz53_1); (try clear hcz53_2); (try clear hcz57_0); (try clear hcz57_1); (try clear hcz57_2); (try clear hcz59_0); (try clear hcz59_1); (try clear hcz5_0); (try clear hcz5_1); (try clear hcz9_0); (try clear hcz9_1); (try clear hfz11_0); (try clear hfz11_1); (try clear hfz13_0); (try clear hfz13_1); (try clear hfz15_0); (try clear hfz15_1); (try clear hfz24_0); (try clear hfz24_1); (try clear hfz28_0); (try clear hfz28_1); (try clear hfz31_0); (try clear hfz31_1); (try clear hfz34_0); (try clear hfz34_1); (try clear hfz35_0); (try clear hfz35_1); (try clear hfz45_0); (try clear hfz45_1); (try clear hfz45_2); (try clear hfz47_0); (try clear hfz47_1); (try clear hfz47_2); (try clear hfz51_0); (try clear hfz51_1); (try clear hfz51_2); (try clear hfz53_0); (try clear hfz53_1); (try clear hfz53_2); (try clear hfz57_0); (try clear hfz57_1); (try clear hfz57_2); (try clear hfz59_0); (try clear hfz59_1); (try clear hfz5_0); (try clear hfz5_1); (try clear hfz9_0); (try clear hfz9_1); (try clear hx172_0); (try clear hx172_1); (try clear hx175_0); (try clear hx175_1); (try clear hx175_2); (try clear p1); (try clear p17); (try clear p172); (try clear p175); (try clear p2); (try clear p6); (try clear q1); (try clear q17); (try clear q172); (try clear q175)
          obtain ⟨x59_3, rfl, HA, HK3, BK170, HB⟩ := hrel
          cases gk with
          | zero => exact absurd HA.out (by simp [script_Check.l2])
          | succ k3 =>
           have H := HA.out
           clear HA
           simp only [script_Check.l2] at H
           by_cases c60 : x59_3 < (l0_1.length : Int)
           ·rw [if_pos c60] at H
            have c60b0 : decide (x59_3 < (l0_1.length : Int)) = true := decide_eq_true c60
            clear c60
            by_cases c61 : 0 ≤ x59_3
            ·rw [if_pos c61] at H
             have c61b0 : decide (0 ≤ x59_3) = true := decide_eq_true c61
             clear c61
             by_cases c62 : x59_3 < (l0_1.length : Int)
             ·rw [if_pos c62] at H
              have c62b0 : decide (x59_3 < (l0_1.length : Int)) = true := decide_eq_true c62
              clear c62
              replace H := Option.bind_eq_some_iff.mp H
              obtain ⟨t181, A630, H⟩ := H
              replace H : (if t181 > 100 then (some 3) else (script_Check.l2 k3 l0_1 (l0_1.length : Int) (wrap64 (x59_3 + 1)))) = some r := H
              have A63 := aK A630; clear A630
              by_cases c64 : t181 > 100
              ·rw [if_pos c64] at H
               have c64b0 : decide (100 < t181) = true := decide_eq_true c64
               clear c64
               obtain rfl := Option.some.inj H
               have p179 : 0 ≤ (x59_3 : Int) := of_decide_eq_true qDoor12_14
               have q179 : x59_3 < (l0_1.length : Int) := of_decide_eq_true qDoor12_14
               obtain ⟨ad179, A179_1, c179_1, A179_2, c179_2, e179, hx179_0, hx179_1, hx179_2, hl179_1, hi179_1, hl179_2, hi179_2⟩ := at_T40 HR0_1.out x59_3 p179 q179
               cases e179
               replace hx179_0 := (HB.out.cell (World.block_lt_of_cell? w _ hx179_0)).trans hx179_0
               replace hx179_1 := (HB.out.cell (World.block_lt_of_cell? w _ hx179_1)).trans hx179_1
               replace hx179_2 := (HB.out.cell (World.block_lt_of_cell? w _ hx179_2)).trans hx179_2
               have HR179_1 := aK hi179_1; have HC179_1 := aK hl179_1; clear hi179_1 hl179_1; have HR179_2 := aK hi179_2; have HC179_2 := aK hl179_2; clear hi179_2 hl179_2
               replace p179 := eq_true p179
               replace q179 := eq_true q179
               go_wp2_with (first | ((with_reducible refine gate_dst (N := 8) rfl ?_); (try (refine gate_guard (by rfl) ?_; dsimp only)); refine box_event ?hg (N := 8) ?hd (cs := #[.string (⟨#[]⟩ : ByteArray), .slice none 0 0, .slice none 0 0]) (t := 40) ?hr ?_; (case hd => rfl); (case hg => rfl); (case hr => first | (go_simp; done) | (go_simp; rfl)); intro gb180 hg w65 hbox hb; have n0_ := aK (blk_below (g := gb170) (o := .cells #[.slice A0_0 l0_0.length c0_0, .slice (some ad179) l0_1.length c0_1] 25 (0, 0)) qDoor12_1 hb); have n1_ := aK (below_step qDoor12_0 hb); have n2_ := aK (hbox); have n3_ := aK ((qDoor12_2 : w.heap.size ≤ gb180)); have n4_ := aK ((qDoor12_2 : w.heap.size ≤ gb180)); have n5_ := aK ((qDoor12_19 : gb170 ≠ gb180)); have n6_ := aK ((qDoor12_20 : gb180 ≠ gb170)); clear BK170; clear HB; have BK170 := n0_; have HB := n1_; have BK180 := n2_; have GW180 := n3_; have GE180 := n4_; have NB170_180 := n5_; have NB180_170 := n6_; clear n0_ n1_ n2_ n3_ n4_ n5_ n6_; clear hb hbox hg; have hnb66 := NB180_170.out; have hnc66 := NB170_180.out; have hcz67_0 : w65.cell? ⟨gb180, 0, none⟩ = some (.string (⟨#[]⟩ : ByteArray)) := (blk_cell BK180.out 0).trans rfl; have hcz67_1 : w65.cell? ⟨gb180, 1, none⟩ = some (.slice none 0 0) := (blk_cell BK180.out 1).trans rfl; have hcz67_2 : w65.cell? ⟨gb180, 2, none⟩ = some (.slice none 0 0) := (blk_cell BK180.out 2).trans rfl; have hfz67_0 := blk_frozen BK180.out 0; have hfz67_1 := blk_frozen BK180.out 1; have hfz67_2 := blk_frozen BK180.out 2) | ((with_reducible refine gate_callee (f := 29) rfl ?_); refine goesL_ (some 65) rfl rfl Tryd.func29 (by kernel_rfl) rfl #[.slice A179_2 ((rd_T40 l0_1 x59_3).f2).length c179_2] rfl qDoor12_5 ?_; (with_reducible refine (script_Nest.calls k3 _ _ ((rd_T40 l0_1 x59_3).f2) t181 _ ?side1 ?side2 A63.out).mono ?_); (case side1 => exact Kd.C_below HR179_2.out qDoor12_9); (case side2 => exact HC179_2.out); rintro e w68 ⟨rfl, hb⟩; refine ⟨_, rfl, ?_⟩; have n0_ := aK (blk_below (g := gb170) (o := .cells #[.slice A0_0 l0_0.length c0_0, .slice (some ad179) l0_1.length c0_1] 25 (0, 0)) qDoor12_12 hb); have n1_ := aK (blk_below (g := gb180) (o := .cells #[.string ((rd_T40 l0_1 x59_3).f0), .slice A179_1 ((rd_T40 l0_1 x59_3).f1).length c179_1, .slice A179_2 ((rd_T40 l0_1 x59_3).f2).length c179_2] 40 (0, 0)) qDoor12_7 hb); have n2_ := aK (below_step qDoor12_9 hb); clear BK170; clear BK180; clear HB; have BK170 := n0_; have BK180 := n1_; have HB := n2_; clear n0_ n1_ n2_; (try clear hb); (try clear hb2); (try clear hk); (try clear hi)))
               go_ret
               exact ⟨qDoor12_15, qDoor12_9⟩
              ·rw [if_neg c64] at H
               have c64b0 : decide (100 < t181) = false := decide_eq_false c64
               clear c64
               have H' := aK H
               clear H
               have p179 : 0 ≤ (x59_3 : Int) := of_decide_eq_true qDoor12_14
               have q179 : x59_3 < (l0_1.length : Int) := of_decide_eq_true qDoor12_14
               obtain ⟨ad179, A179_1, c179_1, A179_2, c179_2, e179, hx179_0, hx179_1, hx179_2, hl179_1, hi179_1, hl179_2, hi179_2⟩ := at_T40 HR0_1.out x59_3 p179 q179
               cases e179
               replace hx179_0 := (HB.out.cell (World.block_lt_of_cell? w _ hx179_0)).trans hx179_0
               replace hx179_1 := (HB.out.cell (World.block_lt_of_cell? w _ hx179_1)).trans hx179_1
               replace hx179_2 := (HB.out.cell (World.block_lt_of_cell? w _ hx179_2)).trans hx179_2
               have HR179_1 := aK hi179_1; have HC179_1 := aK hl179_1; clear hi179_1 hl179_1; have HR179_2 := aK hi179_2; have HC179_2 := aK hl179_2; clear hi179_2 hl179_2
               replace p179 := eq_true p179
               replace q179 := eq_true q179
               go_wp2_with (first | ((with_reducible refine gate_dst (N := 8) rfl ?_); (try (refine gate_guard (by rfl) ?_; dsimp only)); refine box_event ?hg (N := 8) ?hd (cs := #[.string (⟨#[]⟩ : ByteArray), .slice none 0 0, .slice none 0 0]) (t := 40) ?hr ?_; (case hd => rfl); (case hg => rfl); (case hr => first | (go_simp; done) | (go_simp; rfl)); intro gb180 hg w69 hbox hb; have n0_ := aK (blk_below (g := gb170) (o := .cells #[.slice A0_0 l0_0.length c0_0, .slice (some ad179) l0_1.length c0_1] 25 (0, 0)) qDoor12_1 hb); have n1_ := aK (below_step qDoor12_0 hb); have n2_ := aK (hbox); have n3_ := aK ((qDoor12_2 : w.heap.size ≤ gb180)); have n4_ := aK ((qDoor12_2 : w.heap.size ≤ gb180)); have n5_ := aK ((qDoor12_19 : gb170 ≠ gb180)); have n6_ := aK ((qDoor12_20 : gb180 ≠ gb170)); clear BK170; clear HB; have BK170 := n0_; have HB := n1_; have BK180 := n2_; have GW180 := n3_; have GE180 := n4_; have NB170_180 := n5_; have NB180_170 := n6_; clear n0_ n1_ n2_ n3_ n4_ n5_ n6_; clear hb hbox hg; have hnb70 := NB180_170.out; have hnc70 := NB170_180.out; have hcz71_0 : w69.cell? ⟨gb180, 0, none⟩ = some (.string (⟨#[]⟩ : ByteArray)) := (blk_cell BK180.out 0).trans rfl; have hcz71_1 : w69.cell? ⟨gb180, 1, none⟩ = some (.slice none 0 0) := (blk_cell BK180.out 1).trans rfl; have hcz71_2 : w69.cell? ⟨gb180, 2, none⟩ = some (.slice none 0 0) := (blk_cell BK180.out 2).trans rfl; have hfz71_0 := blk_frozen BK180.out 0; have hfz71_1 := blk_frozen BK180.out 1; have hfz71_2 := blk_frozen BK180.out 2) | ((with_reducible refine gate_callee (f := 29) rfl ?_); refine goesL_ (some 65) rfl rfl Tryd.func29 (by kernel_rfl) rfl #[.slice A179_2 ((rd_T40 l0_1 x59_3).f2).length c179_2] rfl qDoor12_5 ?_; (with_reducible refine (script_Nest.calls k3 _ _ ((rd_T40 l0_1 x59_3).f2) t181 _ ?side1 ?side2 A63.out).mono ?_); (case side1 => exact Kd.C_below HR179_2.out qDoor12_9); (case side2 => exact HC179_2.out); rintro e w72 ⟨rfl, hb⟩; refine ⟨_, rfl, ?_⟩; have n0_ := aK (blk_below (g := gb170) (o := .cells #[.slice A0_0 l0_0.length c0_0, .slice (some ad179) l0_1.length c0_1] 25 (0, 0)) qDoor12_12 hb); have n1_ := aK (blk_below (g := gb180) (o := .cells #[.string ((rd_T40 l0_1 x59_3).f0), .slice A179_1 ((rd_T40 l0_1 x59_3).f1).length c179_1, .slice A179_2 ((rd_T40 l0_1 x59_3).f2).length c179_2] 40 (0, 0)) qDoor12_7 hb); have n2_ := aK (below_step qDoor12_9 hb); clear BK170; clear BK180; clear HB; have BK170 := n0_; have BK180 := n1_; have HB := n2_; clear n0_ n1_ n2_; (try clear hb); (try clear hb2); (try clear hk); (try clear hi)))
               go_roundg k3
               case measure => have := HK1.out; have := HK2.out; have := HK3.out; omega
               case rel => exact ⟨(wrap64 (x59_3 + 1)), qDoor12_21, H', ⟨by have := HK1.out; have := HK2.out; have := HK3.out; omega⟩, ⟨qDoor12_1⟩, ⟨qDoor12_9⟩⟩
             ·rw [if_neg c62] at H
              exact absurd H (by simp)
            ·rw [if_neg c61] at H
             exact absurd H (by simp)
           ·rw [if_neg c60] at H
            have c60b0 : decide (x59_3 < (l0_1.length : Int)) = false := decide_eq_false c60
            clear c60
            obtain rfl := Option.some.inj H
            go_wp2
            go_ret
            exact ⟨qDoor12_15, qDoor12_0⟩
end Go.Proofs.YtihiicjnjhideaaDoor.PAll
end
