/- Parts of the proof of coreGrammars: PAllx32. No condition beyond each lemma's own. -/
import Derived.Test.YtebiogaacikphaaTG4
import Derived.Test.YtebiogaacikphaaTG5
import Derived.Test.YtebiogaacikphaaTG22
section
namespace Go.Proofs.Ytebiogaacikphaa.PAll
open Go.RowKit Go.Proofs.YtebiogaacikphaaW.PrintWords Go.Proofs.YtebiogaacikphaaW.PrintLast Go.Proofs.YtebiogaacikphaaW.PrintMore
attribute [local go_sem] max2_int max_two
set_option linter.unusedVariables false
set_option linter.unusedSimpArgs false
theorem q32_25 {p : Prop} (h : p := by first | rfl | (simp; done) | (simp [*]; done)) : p := h
theorem q32_24 {p : Prop} (h : p := by have := HJ2.out; have := HK2.out; have := HK3.out; first | omega | exact Nat.le_refl _) : p := h
theorem q32_23 {p : Prop} (h : p := by first | rfl | (simp [errW_none, errW_some] <;> rfl) | (simp [*, errW_none, errW_some] <;> rfl)) : p := h
theorem q32_22 {p : Prop} (h : p := by (with_reducible repeat (first | refine blk_drewN ?_ _ | refine blk_drew ?_ | refine blk_alloc ?_ _)); exact BK478.out) : p := h
theorem q32_21 {p : Prop} (h : p := by repeat (first | (with_reducible first | exact HB.out | apply below_alloc | apply pw_below_drewN | apply below_drew1 | refine below_set ?_ GE477.out | refine below_set ?_ GE478.out | refine below_set ?_ GE482.out) | exact HB.out)) : p := h
theorem q32_20 {p : Prop} (h : p := by (with_reducible repeat (first | refine blk_drewN ?_ _ | refine blk_drew ?_ | refine blk_alloc ?_ _)); exact BK477.out) : p := h
theorem q32_19 {p : Prop} (h : p := by first | (with_reducible assumption) | assumption) : p := h
theorem q32_18 {p : Prop} (h : p := by have := World.block_lt_of_cell? _ _ hx483_0; first | rwa [add_block] at this | exact this) : p := h
theorem q32_17 {p : Prop} (h : p := by first | (rw [add_block]; exact hn483_2) | (show (Addr.add _ _).block ≠ _; rw [add_block]; exact hn483_2) | exact hn483_2) : p := h
theorem q32_16 {p : Prop} (h : p := by first | (rw [add_block]; exact hn483_1) | (show (Addr.add _ _).block ≠ _; rw [add_block]; exact hn483_1) | exact hn483_1) : p := h
theorem q32_15 {p : Prop} (h : p := by first | (rw [add_block]; exact hn483_0) | (show (Addr.add _ _).block ≠ _; rw [add_block]; exact hn483_0) | exact hn483_0) : p := h
theorem q32_14 {p : Prop} (h : p := by repeat (first | (with_reducible first | exact HB.out | apply below_alloc | apply pw_below_drewN | apply below_drew1 | refine below_set ?_ GE477.out | refine below_set ?_ GE478.out) | exact HB.out)) : p := h
theorem q32_13 {p : Prop} (h : p := by (with_reducible repeat (first | refine blk_drewN ?_ _ | refine blk_drew ?_ | refine blk_alloc ?_ _)); refine blk_far ?_ NB482_484.out _; (with_reducible repeat (first | refine blk_drewN ?_ _ | refine blk_drew ?_ | refine blk_alloc ?_ _)); refine blk_far ?_ NB482_484.out _; (with_reducible repeat (first | refine blk_drewN ?_ _ | refine blk_drew ?_ | refine blk_alloc ?_ _)); refine blk_far ?_ NB482_484.out _; (with_reducible repeat (first | refine blk_drewN ?_ _ | refine blk_drew ?_ | refine blk_alloc ?_ _)); exact BK482.out) : p := h
theorem q32_12 {p : Prop} (h : p := by (with_reducible repeat (first | refine blk_drewN ?_ _ | refine blk_drew ?_ | refine blk_alloc ?_ _)); refine blk_far ?_ NB478_484.out _; (with_reducible repeat (first | refine blk_drewN ?_ _ | refine blk_drew ?_ | refine blk_alloc ?_ _)); refine blk_far ?_ NB478_484.out _; (with_reducible repeat (first | refine blk_drewN ?_ _ | refine blk_drew ?_ | refine blk_alloc ?_ _)); refine blk_far ?_ NB478_484.out _; (with_reducible repeat (first | refine blk_drewN ?_ _ | refine blk_drew ?_ | refine blk_alloc ?_ _)); exact BK478.out) : p := h
theorem q32_11 {p : Prop} (h : p := by (with_reducible repeat (first | refine blk_drewN ?_ _ | refine blk_drew ?_ | refine blk_alloc ?_ _)); refine blk_far ?_ NB477_484.out _; (with_reducible repeat (first | refine blk_drewN ?_ _ | refine blk_drew ?_ | refine blk_alloc ?_ _)); refine blk_far ?_ NB477_484.out _; (with_reducible repeat (first | refine blk_drewN ?_ _ | refine blk_drew ?_ | refine blk_alloc ?_ _)); refine blk_far ?_ NB477_484.out _; (with_reducible repeat (first | refine blk_drewN ?_ _ | refine blk_drew ?_ | refine blk_alloc ?_ _)); exact BK477.out) : p := h
theorem q32_10 {p : Prop} (h : p := by rw [hg]; exact Nat.ne_of_gt (blk_lt (g := gb478) (o := .cells #[.slice A1_0 l1_0.length c1_0, .slice (some ad483) l1_1.length c1_1] 61 (0, 0)) (by (with_reducible repeat (first | refine blk_drewN ?_ _ | refine blk_drew ?_ | refine blk_alloc ?_ _)); refine blk_far ?_ NB478_482.out _; (with_reducible repeat (first | refine blk_drewN ?_ _ | refine blk_drew ?_ | refine blk_alloc ?_ _)); refine blk_far ?_ NB478_482.out _; (with_reducible repeat (first | refine blk_drewN ?_ _ | refine blk_drew ?_ | refine blk_alloc ?_ _)); refine blk_far ?_ NB478_482.out _; (with_reducible repeat (first | refine blk_drewN ?_ _ | refine blk_drew ?_ | refine blk_alloc ?_ _)); exact BK478.out))) : p := h
theorem q32_9 {p : Prop} (h : p := by rw [hg]; exact Nat.ne_of_lt (blk_lt (g := gb478) (o := .cells #[.slice A1_0 l1_0.length c1_0, .slice (some ad483) l1_1.length c1_1] 61 (0, 0)) (by (with_reducible repeat (first | refine blk_drewN ?_ _ | refine blk_drew ?_ | refine blk_alloc ?_ _)); refine blk_far ?_ NB478_482.out _; (with_reducible repeat (first | refine blk_drewN ?_ _ | refine blk_drew ?_ | refine blk_alloc ?_ _)); refine blk_far ?_ NB478_482.out _; (with_reducible repeat (first | refine blk_drewN ?_ _ | refine blk_drew ?_ | refine blk_alloc ?_ _)); refine blk_far ?_ NB478_482.out _; (with_reducible repeat (first | refine blk_drewN ?_ _ | refine blk_drew ?_ | refine blk_alloc ?_ _)); exact BK478.out))) : p := h
theorem q32_8 {p : Prop} (h : p := by rw [hg]; exact Nat.ne_of_gt (blk_lt (g := gb477) (o := .cells #[.slice A0_0 l0_0.length c0_0, .slice (some ad481) l0_1.length c0_1] 61 (0, 0)) (by (with_reducible repeat (first | refine blk_drewN ?_ _ | refine blk_drew ?_ | refine blk_alloc ?_ _)); refine blk_far ?_ NB477_482.out _; (with_reducible repeat (first | refine blk_drewN ?_ _ | refine blk_drew ?_ | refine blk_alloc ?_ _)); refine blk_far ?_ NB477_482.out _; (with_reducible repeat (first | refine blk_drewN ?_ _ | refine blk_drew ?_ | refine blk_alloc ?_ _)); refine blk_far ?_ NB477_482.out _; (with_reducible repeat (first | refine blk_drewN ?_ _ | refine blk_drew ?_ | refine blk_alloc ?_ _)); exact BK477.out))) : p := h
theorem q32_7 {p : Prop} (h : p := by rw [hg]; exact Nat.ne_of_lt (blk_lt (g := gb477) (o := .cells #[.slice A0_0 l0_0.length c0_0, .slice (some ad481) l0_1.length c0_1] 61 (0, 0)) (by (with_reducible repeat (first | refine blk_drewN ?_ _ | refine blk_drew ?_ | refine blk_alloc ?_ _)); refine blk_far ?_ NB477_482.out _; (with_reducible repeat (first | refine blk_drewN ?_ _ | refine blk_drew ?_ | refine blk_alloc ?_ _)); refine blk_far ?_ NB477_482.out _; (with_reducible repeat (first | refine blk_drewN ?_ _ | refine blk_drew ?_ | refine blk_alloc ?_ _)); refine blk_far ?_ NB477_482.out _; (with_reducible repeat (first | refine blk_drewN ?_ _ | refine blk_drew ?_ | refine blk_alloc ?_ _)); exact BK477.out))) : p := h
theorem q32_6 {p : Prop} (h : p := by (with_reducible repeat (first | refine blk_drewN ?_ _ | refine blk_drew ?_ | refine blk_alloc ?_ _)); refine blk_put (cs := #[.string ((rd_T125 l1_1 x6_3).f0), .slice A483_1 ((rd_T125 l1_1 x6_3).f1).length c483_1, .slice none 0 0]) ?_ 2 _ rfl; (with_reducible repeat (first | refine blk_drewN ?_ _ | refine blk_drew ?_ | refine blk_alloc ?_ _)); refine blk_put (cs := #[.string ((rd_T125 l1_1 x6_3).f0), .slice none 0 0, .slice none 0 0]) ?_ 1 _ rfl; (with_reducible repeat (first | refine blk_drewN ?_ _ | refine blk_drew ?_ | refine blk_alloc ?_ _)); refine blk_put (cs := #[.string (⟨#[]⟩ : ByteArray), .slice none 0 0, .slice none 0 0]) ?_ 0 _ rfl; (with_reducible repeat (first | refine blk_drewN ?_ _ | refine blk_drew ?_ | refine blk_alloc ?_ _)); exact BK484.out) : p := h
theorem q32_5 {p : Prop} (h : p := by rw [hg]; exact Nat.ne_of_gt (blk_lt (g := gb482) (o := .cells #[.string ((rd_T125 l0_1 x6_3).f0), .slice A481_1 ((rd_T125 l0_1 x6_3).f1).length c481_1, .slice A481_2 ((rd_T125 l0_1 x6_3).f2).length c481_2] 125 (0, 0)) (by (with_reducible repeat (first | refine blk_drewN ?_ _ | refine blk_drew ?_ | refine blk_alloc ?_ _)); refine blk_put (cs := #[.string ((rd_T125 l0_1 x6_3).f0), .slice A481_1 ((rd_T125 l0_1 x6_3).f1).length c481_1, .slice none 0 0]) ?_ 2 _ rfl; (with_reducible repeat (first | refine blk_drewN ?_ _ | refine blk_drew ?_ | refine blk_alloc ?_ _)); refine blk_put (cs := #[.string ((rd_T125 l0_1 x6_3).f0), .slice none 0 0, .slice none 0 0]) ?_ 1 _ rfl; (with_reducible repeat (first | refine blk_drewN ?_ _ | refine blk_drew ?_ | refine blk_alloc ?_ _)); refine blk_put (cs := #[.string (⟨#[]⟩ : ByteArray), .slice none 0 0, .slice none 0 0]) ?_ 0 _ rfl; (with_reducible repeat (first | refine blk_drewN ?_ _ | refine blk_drew ?_ | refine blk_alloc ?_ _)); exact BK482.out))) : p := h
theorem q32_4 {p : Prop} (h : p := by rw [hg]; exact Nat.ne_of_lt (blk_lt (g := gb482) (o := .cells #[.string ((rd_T125 l0_1 x6_3).f0), .slice A481_1 ((rd_T125 l0_1 x6_3).f1).length c481_1, .slice A481_2 ((rd_T125 l0_1 x6_3).f2).length c481_2] 125 (0, 0)) (by (with_reducible repeat (first | refine blk_drewN ?_ _ | refine blk_drew ?_ | refine blk_alloc ?_ _)); refine blk_put (cs := #[.string ((rd_T125 l0_1 x6_3).f0), .slice A481_1 ((rd_T125 l0_1 x6_3).f1).length c481_1, .slice none 0 0]) ?_ 2 _ rfl; (with_reducible repeat (first | refine blk_drewN ?_ _ | refine blk_drew ?_ | refine blk_alloc ?_ _)); refine blk_put (cs := #[.string ((rd_T125 l0_1 x6_3).f0), .slice none 0 0, .slice none 0 0]) ?_ 1 _ rfl; (with_reducible repeat (first | refine blk_drewN ?_ _ | refine blk_drew ?_ | refine blk_alloc ?_ _)); refine blk_put (cs := #[.string (⟨#[]⟩ : ByteArray), .slice none 0 0, .slice none 0 0]) ?_ 0 _ rfl; (with_reducible repeat (first | refine blk_drewN ?_ _ | refine blk_drew ?_ | refine blk_alloc ?_ _)); exact BK482.out))) : p := h
theorem q32_3 {p : Prop} (h : p := by (with_reducible repeat (first | refine blk_drewN ?_ _ | refine blk_drew ?_ | refine blk_alloc ?_ _)); refine blk_far ?_ NB478_482.out _; (with_reducible repeat (first | refine blk_drewN ?_ _ | refine blk_drew ?_ | refine blk_alloc ?_ _)); refine blk_far ?_ NB478_482.out _; (with_reducible repeat (first | refine blk_drewN ?_ _ | refine blk_drew ?_ | refine blk_alloc ?_ _)); refine blk_far ?_ NB478_482.out _; (with_reducible repeat (first | refine blk_drewN ?_ _ | refine blk_drew ?_ | refine blk_alloc ?_ _)); exact BK478.out) : p := h
theorem q32_2 {p : Prop} (h : p := by (with_reducible repeat (first | refine blk_drewN ?_ _ | refine blk_drew ?_ | refine blk_alloc ?_ _)); refine blk_far ?_ NB477_482.out _; (with_reducible repeat (first | refine blk_drewN ?_ _ | refine blk_drew ?_ | refine blk_alloc ?_ _)); refine blk_far ?_ NB477_482.out _; (with_reducible repeat (first | refine blk_drewN ?_ _ | refine blk_drew ?_ | refine blk_alloc ?_ _)); refine blk_far ?_ NB477_482.out _; (with_reducible repeat (first | refine blk_drewN ?_ _ | refine blk_drew ?_ | refine blk_alloc ?_ _)); exact BK477.out) : p := h
theorem q32_1 {p : Prop} (h : p := by repeat (first | (with_reducible first | exact HB.out | apply below_alloc | apply pw_below_drewN | apply below_drew1 | refine below_set ?_ GE477.out | refine below_set ?_ GE478.out | refine below_set ?_ GE482.out | refine below_set ?_ GE484.out) | exact HB.out)) : p := h
theorem q32_0 {p : Prop} (h : p := by (with_reducible repeat (first | refine blk_drewN ?_ _ | refine blk_drew ?_ | refine blk_alloc ?_ _)); refine blk_put (cs := #[.string ((rd_T125 l0_1 x6_3).f0), .slice A481_1 ((rd_T125 l0_1 x6_3).f1).length c481_1, .slice none 0 0]) ?_ 2 _ rfl; (with_reducible repeat (first | refine blk_drewN ?_ _ | refine blk_drew ?_ | refine blk_alloc ?_ _)); refine blk_put (cs := #[.string ((rd_T125 l0_1 x6_3).f0), .slice none 0 0, .slice none 0 0]) ?_ 1 _ rfl; (with_reducible repeat (first | refine blk_drewN ?_ _ | refine blk_drew ?_ | refine blk_alloc ?_ _)); refine blk_put (cs := #[.string (⟨#[]⟩ : ByteArray), .slice none 0 0, .slice none 0 0]) ?_ 0 _ rfl; (with_reducible repeat (first | refine blk_drewN ?_ _ | refine blk_drew ?_ | refine blk_alloc ?_ _)); exact BK482.out) : p := h
attribute [local go_sem high] eqA129
mutual
def dowelbook_Grammars.j0 : Nat → Bool → List (S129) → List (S125) → List (S129) → List (S125) → Option (Bool)
 | 0, _, _, _, _, _ => none
 | k + 1, x24, x478000, x478001, x479000, x479001 => if x24 = true then (some false) else (dowelbook_Grammars.l0 k 0 x478000 x478001 x479000 x479001)
def dowelbook_Grammars.l0 : Nat → Int → List (S129) → List (S125) → List (S129) → List (S125) → Option (Bool)
 | 0, _, _, _, _, _ => none
 | k + 1, x5, x478000, x478001, x479000, x479001 => if x5 < (x478000.length : Int) then (if 0 ≤ x5 then (if x5 < (x479000.length : Int) then (if (!((((rd_T129 x478000 x5).f0).toList) == (((rd_T129 x479000 x5).f0).toList)) || (!((((rd_T129 x478000 x5).f1).toList) == (((rd_T129 x479000 x5).f1).toList)))) = true then (some false) else (dowelbook_Grammars.l0 k (wrap64 (x5 + 1)) x478000 x478001 x479000 x479001)) else (none)) else (none)) else (dowelbook_Grammars.l1 k 0 x478000 x478001 x479000 x479001)
def dowelbook_Grammars.l1 : Nat → Int → List (S129) → List (S125) → List (S129) → List (S125) → Option (Bool)
 | 0, _, _, _, _, _ => none
 | k + 1, x6, x478000, x478001, x479000, x479001 => if x6 < (x478001.length : Int) then (if 0 ≤ x6 then (if x6 < (x479001.length : Int) then (if ((rd_T125 x478001 x6).f0).toList = ((rd_T125 x479001 x6).f0).toList then ((dowelbook_Texts.f k ((rd_T125 x478001 x6).f1) ((rd_T125 x479001 x6).f1)).bind fun t485 => (if t485 = true then ((dowelbook_Nodes.f k ((rd_T125 x478001 x6).f2) ((rd_T125 x479001 x6).f2)).bind fun t486 => (dowelbook_Grammars.j3 k x6 (!t486) x478000 x478001 x479000 x479001)) else (dowelbook_Grammars.j3 k x6 true x478000 x478001 x479000 x479001))) else (dowelbook_Grammars.j3 k x6 true x478000 x478001 x479000 x479001)) else (none)) else (none)) else (some true)
def dowelbook_Grammars.j3 : Nat → Int → Bool → List (S129) → List (S125) → List (S129) → List (S125) → Option (Bool)
 | 0, _, _, _, _, _, _ => none
 | k + 1, x6, x80, x478000, x478001, x479000, x479001 => if x80 = true then (some false) else (dowelbook_Grammars.l1 k (wrap64 (x6 + 1)) x478000 x478001 x479000 x479001)
end
def dowelbook_Grammars.f (k : Nat) (l0_0 : List (S129)) (l0_1 : List (S125)) (l1_0 : List (S129)) (l1_1 : List (S125)) : Option (Bool) := if (l0_0.length : Int) = (l1_0.length : Int) then (dowelbook_Grammars.j0 k ((l0_1.length : Int) != (l1_1.length : Int)) l0_0 l0_1 l1_0 l1_1) else (dowelbook_Grammars.j0 k true l0_0 l0_1 l1_0 l1_1)
theorem dowelbook_Grammars.mono_l : ∀ k, (∀ y0 y1 y2 y3 y4, LeO (dowelbook_Grammars.j0 k y0 y1 y2 y3 y4) (dowelbook_Grammars.j0 (k + 1) y0 y1 y2 y3 y4)) ∧ (∀ y0 y1 y2 y3 y4, LeO (dowelbook_Grammars.l0 k y0 y1 y2 y3 y4) (dowelbook_Grammars.l0 (k + 1) y0 y1 y2 y3 y4)) ∧ (∀ y0 y1 y2 y3 y4, LeO (dowelbook_Grammars.l1 k y0 y1 y2 y3 y4) (dowelbook_Grammars.l1 (k + 1) y0 y1 y2 y3 y4)) ∧ (∀ y0 y1 y2 y3 y4 y5, LeO (dowelbook_Grammars.j3 k y0 y1 y2 y3 y4 y5) (dowelbook_Grammars.j3 (k + 1) y0 y1 y2 y3 y4 y5))
 | 0 => ⟨fun _ _ _ _ _ r h => by simp [dowelbook_Grammars.j0] at h, fun _ _ _ _ _ r h => by simp [dowelbook_Grammars.l0] at h, fun _ _ _ _ _ r h => by simp [dowelbook_Grammars.l1] at h, fun _ _ _ _ _ _ r h => by simp [dowelbook_Grammars.j3] at h⟩
 | k + 1 => by
  obtain ⟨ih0, ih1, ih2, ih3⟩ := dowelbook_Grammars.mono_l k
  refine ⟨?_, ?_, ?_, ?_⟩
  ·intro y0 y1 y2 y3 y4
   unfold dowelbook_Grammars.j0
   repeat' first
   | (with_reducible exact ih0 _ _ _ _ _)
   | (with_reducible exact ih1 _ _ _ _ _)
   | (with_reducible exact ih2 _ _ _ _ _)
   | (with_reducible exact ih3 _ _ _ _ _ _)
   | (with_reducible exact dowelbook_Nodes.mono _ _ _)
   | (with_reducible exact dowelbook_Texts.mono _ _ _)
   | (with_reducible exact LeO.refl _)
   | (with_reducible exact LeO.none _)
   | (with_reducible refine LeO.ite ?_ ?_)
   | (with_reducible refine LeO.bind ?_ (fun _ => ?_))
   | exact ih0 _ _ _ _ _
   | exact ih1 _ _ _ _ _
   | exact ih2 _ _ _ _ _
   | exact ih3 _ _ _ _ _ _
   | exact dowelbook_Nodes.mono _ _ _
   | exact dowelbook_Texts.mono _ _ _
   | exact LeO.none _
   | refine LeO.ite ?_ ?_
   | refine LeO.bind ?_ (fun _ => ?_)
  ·intro y0 y1 y2 y3 y4
   unfold dowelbook_Grammars.l0
   repeat' first
   | (with_reducible exact ih0 _ _ _ _ _)
   | (with_reducible exact ih1 _ _ _ _ _)
   | (with_reducible exact ih2 _ _ _ _ _)
   | (with_reducible exact ih3 _ _ _ _ _ _)
   | (with_reducible exact dowelbook_Nodes.mono _ _ _)
   | (with_reducible exact dowelbook_Texts.mono _ _ _)
   | (with_reducible exact LeO.refl _)
   | (with_reducible exact LeO.none _)
   | (with_reducible refine LeO.ite ?_ ?_)
   | (with_reducible refine LeO.bind ?_ (fun _ => ?_))
   | exact ih0 _ _ _ _ _
   | exact ih1 _ _ _ _ _
   | exact ih2 _ _ _ _ _
   | exact ih3 _ _ _ _ _ _
   | exact dowelbook_Nodes.mono _ _ _
   | exact dowelbook_Texts.mono _ _ _
   | exact LeO.none _
   | refine LeO.ite ?_ ?_
   | refine LeO.bind ?_ (fun _ => ?_)
  ·intro y0 y1 y2 y3 y4
   unfold dowelbook_Grammars.l1
   repeat' first
   | (with_reducible exact ih0 _ _ _ _ _)
   | (with_reducible exact ih1 _ _ _ _ _)
   | (with_reducible exact ih2 _ _ _ _ _)
   | (with_reducible exact ih3 _ _ _ _ _ _)
   | (with_reducible exact dowelbook_Nodes.mono _ _ _)
   | (with_reducible exact dowelbook_Texts.mono _ _ _)
   | (with_reducible exact LeO.refl _)
   | (with_reducible exact LeO.none _)
   | (with_reducible refine LeO.ite ?_ ?_)
   | (with_reducible refine LeO.bind ?_ (fun _ => ?_))
   | exact ih0 _ _ _ _ _
   | exact ih1 _ _ _ _ _
   | exact ih2 _ _ _ _ _
   | exact ih3 _ _ _ _ _ _
   | exact dowelbook_Nodes.mono _ _ _
   | exact dowelbook_Texts.mono _ _ _
   | exact LeO.none _
   | refine LeO.ite ?_ ?_
   | refine LeO.bind ?_ (fun _ => ?_)
  ·intro y0 y1 y2 y3 y4 y5
   unfold dowelbook_Grammars.j3
   repeat' first
   | (with_reducible exact ih0 _ _ _ _ _)
   | (with_reducible exact ih1 _ _ _ _ _)
   | (with_reducible exact ih2 _ _ _ _ _)
   | (with_reducible exact ih3 _ _ _ _ _ _)
   | (with_reducible exact dowelbook_Nodes.mono _ _ _)
   | (with_reducible exact dowelbook_Texts.mono _ _ _)
   | (with_reducible exact LeO.refl _)
   | (with_reducible exact LeO.none _)
   | (with_reducible refine LeO.ite ?_ ?_)
   | (with_reducible refine LeO.bind ?_ (fun _ => ?_))
   | exact ih0 _ _ _ _ _
   | exact ih1 _ _ _ _ _
   | exact ih2 _ _ _ _ _
   | exact ih3 _ _ _ _ _ _
   | exact dowelbook_Nodes.mono _ _ _
   | exact dowelbook_Texts.mono _ _ _
   | exact LeO.none _
   | refine LeO.ite ?_ ?_
   | refine LeO.bind ?_ (fun _ => ?_)
theorem dowelbook_Grammars.mono : ∀ a0 a1 a2 a3 k, LeO (dowelbook_Grammars.f k a0 a1 a2 a3) (dowelbook_Grammars.f (k + 1) a0 a1 a2 a3) := by
 intro a0 a1 a2 a3 k
 obtain ⟨ih0, ih1, ih2, ih3⟩ := dowelbook_Grammars.mono_l k
 unfold dowelbook_Grammars.f
 repeat' first
   | (with_reducible exact ih0 _ _ _ _ _)
   | (with_reducible exact ih1 _ _ _ _ _)
   | (with_reducible exact ih2 _ _ _ _ _)
   | (with_reducible exact ih3 _ _ _ _ _ _)
   | (with_reducible exact dowelbook_Nodes.mono _ _ _)
   | (with_reducible exact dowelbook_Texts.mono _ _ _)
   | (with_reducible exact LeO.refl _)
   | (with_reducible exact LeO.none _)
   | (with_reducible refine LeO.ite ?_ ?_)
   | (with_reducible refine LeO.bind ?_ (fun _ => ?_))
   | exact ih0 _ _ _ _ _
   | exact ih1 _ _ _ _ _
   | exact ih2 _ _ _ _ _
   | exact ih3 _ _ _ _ _ _
   | exact dowelbook_Nodes.mono _ _ _
   | exact dowelbook_Texts.mono _ _ _
   | exact LeO.none _
   | refine LeO.ite ?_ ?_
   | refine LeO.bind ?_ (fun _ => ?_)
set_option maxHeartbeats 8000000 in
set_option maxRecDepth 100000 in
theorem dowelbook_Grammars.calls (k : Nat) (A0_0 : Option Addr) (c0_0 : Nat) (l0_0 : List (S129)) (A0_1 : Option Addr) (c0_1 : Nat) (l0_1 : List (S125)) (A1_0 : Option Addr) (c1_0 : Nat) (l1_0 : List (S129)) (A1_1 : Option Addr) (c1_1 : Nat) (l1_1 : List (S125)) (r : Bool) (w : World) (hr0_0 : Kd.C k129 w A0_0 l0_0.length l0_0) (hc0_0 : l0_0.length ≤ c0_0) (hr0_1 : Kd.C k125 w A0_1 l0_1.length l0_1) (hc0_1 : l0_1.length ≤ c0_1) (hr1_0 : Kd.C k129 w A1_0 l1_0.length l1_0) (hc1_0 : l1_0.length ≤ c1_0) (hr1_1 : Kd.C k125 w A1_1 l1_1.length l1_1) (hc1_1 : l1_1.length ≤ c1_1) (h : dowelbook_Grammars.f k l0_0 l0_1 l1_0 l1_1 = some r) :
  Calls Try.prog 32 #[.agg #[.slice A0_0 l0_0.length c0_0, .slice A0_1 l0_1.length c0_1], .agg #[.slice A1_0 l1_0.length c1_0, .slice A1_1 l1_1.length c1_1]] w fun e w' => e = .returned (.bool r) ∧ Below w.heap.size w w' := by
 have hu61 := Try.underlying61
 have hu129 := Try.underlying129
 have hu125 := Try.underlying125
 have HR0_0 := Aside0.mk hr0_0; have HC0_0 := Aside0.mk hc0_0; clear hr0_0 hc0_0; have HR0_1 := Aside0.mk hr0_1; have HC0_1 := Aside0.mk hc0_1; clear hr0_1 hc0_1; have HR1_0 := Aside0.mk hr1_0; have HC1_0 := Aside0.mk hc1_0; clear hr1_0 hc1_0; have HR1_1 := Aside0.mk hr1_1; have HC1_1 := Aside0.mk hc1_1; clear hr1_1 hc1_1
 have HB := Aside0.mk (Below.refl w.heap.size w)
 have H : (if (l0_0.length : Int) = (l1_0.length : Int) then (dowelbook_Grammars.j0 k ((l0_1.length : Int) != (l1_1.length : Int)) l0_0 l0_1 l1_0 l1_1) else (dowelbook_Grammars.j0 k true l0_0 l0_1 l1_0 l1_1)) = some r := h
 clear h; have HC3 := Aside0.mk H; clear H
 go_enter Try.func32, Try.ntmps32
 go_upto_region 1 with (first | ((with_reducible refine gate_dst (N := 2) rfl ?_); (try (refine gate_guard (by rfl) ?_; dsimp only)); refine box_event ?hg (N := 2) ?hd (cs := #[.slice A0_0 l0_0.length c0_0, .slice A0_1 l0_1.length c0_1]) (t := 61) ?hr ?_; (case hd => rfl); (case hg => rfl); (case hr => first | (go_simp; done) | (go_simp; rfl)); intro gb477 hg w4 hbox hb; have z_ := bxk hb hg HB.out; have n0_ := Aside0.mk z_.1; have n1_ := Aside0.mk (hbox); have n2_ := Aside0.mk z_.2; have n3_ := Aside0.mk z_.2; clear z_; clear HB; have HB := n0_; have BK477 := n1_; have GW477 := n2_; have GE477 := n3_; clear n0_ n1_ n2_ n3_; clear hb hbox hg) | ((with_reducible refine gate_dst (N := 3) rfl ?_); (try (refine gate_guard (by rfl) ?_; dsimp only)); refine box_event ?hg (N := 3) ?hd (cs := #[.slice A1_0 l1_0.length c1_0, .slice A1_1 l1_1.length c1_1]) (t := 61) ?hr ?_; (case hd => rfl); (case hg => rfl); (case hr => first | (go_simp; done) | (go_simp; rfl)); intro gb478 hg w5 hbox hb; have y_gb477 := blkk (g0 := gb477) hb hg q32_20; have n0_ := Aside0.mk y_gb477.1; have z_ := bxk hb hg HB.out; have n1_ := Aside0.mk z_.1; have n2_ := Aside0.mk (hbox); have n3_ := Aside0.mk z_.2; have n4_ := Aside0.mk z_.2; clear z_; have n5_ := Aside0.mk y_gb477.2.1; have n6_ := Aside0.mk y_gb477.2.2; clear BK477; clear HB; have BK477 := n0_; have HB := n1_; have BK478 := n2_; have GW478 := n3_; have GE478 := n4_; have NB477_478 := n5_; have NB478_477 := n6_; clear n0_ n1_ n2_ n3_ n4_ n5_ n6_; clear hb hbox hg y_gb477))
 skip
 skip
 go_cut [24] (fun v24 wc => ∃ (kq : Nat) (x24_2 : Bool), v24 = .bool x24_2 ∧ Aside0 (dowelbook_Grammars.j0 kq x24_2 l0_0 l0_1 l1_0 l1_1 = some r) ∧ Aside0 (kq ≤ k) ∧ Aside0 (wc.heap[gb477]? = some (.cells #[(.slice A0_0 l0_0.length c0_0), (.slice A0_1 l0_1.length c0_1)] 61 (0, 0))) ∧ Aside0 (wc.heap[gb478]? = some (.cells #[(.slice A1_0 l1_0.length c1_0), (.slice A1_1 l1_1.length c1_1)] 61 (0, 0))) ∧ Aside0 (Below w.heap.size w wc))
 case first =>
  have H := HC3.out
  clear HC3
  by_cases c6 : (l0_0.length : Int) = (l1_0.length : Int)
  ·rw [if_pos c6] at H
   have c6b0 : ((l0_0.length : Int) == (l1_0.length : Int)) = true := beq_iff_eq.mpr c6
   have c6b1 : ((l0_0.length : Int) != (l1_0.length : Int)) = false := bne_eq_false_iff_eq.mpr c6
   have c6b2 : (l0_0.length == l1_0.length) = true := by first | simpa using c6 | (simp at c6 ⊢; omega)
   clear c6
   skip
   have H' := Aside0.mk H
   clear H
   have hnb7 := NB477_478.out
   have hnc7 := NB478_477.out
   obtain ⟨hcz8_0, hcz8_1⟩ := ck2 BK477.out
   obtain ⟨hfz8_0, hfz8_1⟩ := fk2 BK477.out
   obtain ⟨hcz9_0, hcz9_1⟩ := ck2 BK478.out
   obtain ⟨hfz9_0, hfz9_1⟩ := fk2 BK478.out
   go_wp2
   skip
   go_meet
   case rel => exact ⟨_, (((l0_1.length : Int) != (l1_1.length : Int))), rfl, H', ⟨by first | omega | exact Nat.le_refl _⟩, BK477, BK478, HB⟩
  ·rw [if_neg c6] at H
   have c6b0 : ((l0_0.length : Int) == (l1_0.length : Int)) = false := beq_eq_false_iff_ne.mpr c6
   have c6b1 : ((l0_0.length : Int) != (l1_0.length : Int)) = true := bne_iff_ne.mpr c6
   have c6b2 : (l0_0.length == l1_0.length) = false := by first | simpa using c6 | (simp at c6 ⊢; omega)
   skip
   have H' := Aside0.mk H
   clear H
   have hnb10 := NB477_478.out
   have hnc10 := NB478_477.out
   obtain ⟨hcz11_0, hcz11_1⟩ := ck2 BK477.out
   obtain ⟨hfz11_0, hfz11_1⟩ := fk2 BK477.out
   obtain ⟨hcz12_0, hcz12_1⟩ := ck2 BK478.out
   obtain ⟨hfz12_0, hfz12_1⟩ := fk2 BK478.out
   go_wp2
   skip
   go_meet
   case rel => exact ⟨_, (true), rfl, H', ⟨by first | omega | exact Nat.le_refl _⟩, BK477, BK478, HB⟩
 case rest =>
  clear HC3; (try clear c1); (try clear p2); (try clear c3); (try clear c6); (try clear c6b0); (try clear c6b1); (try clear c6b2); (try clear c7); (try clear c10); (try clear hcz11_0); (try clear hcz11_1); (try clear hcz12_0); (try clear hcz12_1); (try clear hcz8_0); (try clear hcz8_1); (try clear hcz9_0); (try clear hcz9_1); (try clear hfz11_0); (try clear hfz11_1); (try clear hfz12_0); (try clear hfz12_1); (try clear hfz8_0); (try clear hfz8_1); (try clear hfz9_0); (try clear hfz9_1)
  obtain ⟨kq, x24_2, rfl, HA, HJ2, BK477, BK478, HB⟩ := hcut
  cases kq with
  | zero => exact absurd HA.out (by simp [dowelbook_Grammars.j0])
  | succ kj2 =>
   have H := HA.out
   clear HA
   simp only [dowelbook_Grammars.j0] at H
   by_cases c13 : x24_2 = true
   ·subst c13
    have H1 : (some false) = some r := by rw [if_pos rfl] at H; exact H
    clear H
    have H := H1
    clear H1
    obtain rfl := Option.some.inj H
    go_wp2
    skip
    go_ret
    exact ⟨q32_23, HB.out⟩
   ·replace c13 := Bool.eq_false_iff.mpr c13
    subst c13
    have H1 : (dowelbook_Grammars.l0 kj2 0 l0_0 l0_1 l1_0 l1_1) = some r := by rw [if_neg (show ¬ (false = true) by decide)] at H; exact H
    clear H
    have H := H1
    clear H1
    have H' := Aside0.mk H
    clear H
    go_wp2
    skip
    go_loopg [5] kj2 (fun kq v5 w' => ∃ (x5_2 : Int), v5 = .int .i64 x5_2 ∧ Aside0 (dowelbook_Grammars.l0 kq x5_2 l0_0 l0_1 l1_0 l1_1 = some r) ∧ Aside0 (kq ≤ kj2) ∧ Aside0 (w'.heap[gb477]? = some (.cells #[(.slice A0_0 l0_0.length c0_0), (.slice A0_1 l0_1.length c0_1)] 61 (0, 0))) ∧ Aside0 (w'.heap[gb478]? = some (.cells #[(.slice A1_0 l1_0.length c1_0), (.slice A1_1 l1_1.length c1_1)] 61 (0, 0))) ∧ Aside0 (Below w.heap.size w w'))
    case atStart => exact ⟨(0), rfl, H', ⟨Nat.le_refl _⟩, BK477, BK478, HB⟩
    case round =>
     clear H'; (try clear c1); (try clear p2); (try clear c3); (try clear c6); (try clear c6b0); (try clear c6b1); (try clear c6b2); (try clear c7); (try clear c10); (try clear c13); (try clear hcz11_0); (try clear hcz11_1); (try clear hcz12_0); (try clear hcz12_1); (try clear hcz8_0); (try clear hcz8_1); (try clear hcz9_0); (try clear hcz9_1); (try clear hfz11_0); (try clear hfz11_1); (try clear hfz12_0); (try clear hfz12_1); (try clear hfz8_0); (try clear hfz8_1); (try clear hfz9_0); (try clear hfz9_1); (try clear p2)
     obtain ⟨x5_2, rfl, HA, HK2, BK477, BK478, HB⟩ := hrel
     cases gk with
     | zero => exact absurd HA.out (by simp [dowelbook_Grammars.l0])
     | succ k2 =>
      have H := HA.out
      clear HA
      simp only [dowelbook_Grammars.l0] at H
      by_cases c14 : x5_2 < (l0_0.length : Int)
      ·rw [if_pos c14] at H
       have c14b0 : decide (x5_2 < (l0_0.length : Int)) = true := decide_eq_true c14
       clear c14
       by_cases c15 : 0 ≤ x5_2
       ·rw [if_pos c15] at H
        have c15b0 : decide (0 ≤ x5_2) = true := decide_eq_true c15
        clear c15
        by_cases c16 : x5_2 < (l1_0.length : Int)
        ·rw [if_pos c16] at H
         have c16b0 : decide (x5_2 < (l1_0.length : Int)) = true := decide_eq_true c16
         clear c16
         by_cases c17 : (!((((rd_T129 l0_0 x5_2).f0).toList) == (((rd_T129 l1_0 x5_2).f0).toList)) || (!((((rd_T129 l0_0 x5_2).f1).toList) == (((rd_T129 l1_0 x5_2).f1).toList)))) = true
         ·rw [if_pos c17] at H
          have c17b0 : (!((((rd_T129 l0_0 x5_2).f0).toList) == (((rd_T129 l1_0 x5_2).f0).toList)) || (!((((rd_T129 l0_0 x5_2).f1).toList) == (((rd_T129 l1_0 x5_2).f1).toList)))) = true := c17
          clear c17
          obtain rfl := Option.some.inj H
          have hnb18 := NB477_478.out
          have hnc18 := NB478_477.out
          obtain ⟨hcz19_0, hcz19_1⟩ := ck2 BK477.out
          obtain ⟨hfz19_0, hfz19_1⟩ := fk2 BK477.out
          have p479 : 0 ≤ (x5_2 : Int) := of_decide_eq_true q32_19
          have q479 : x5_2 < (l0_0.length : Int) := of_decide_eq_true q32_19
          obtain ⟨ad479, e479, hx479_0, hx479_1⟩ := at_T129 HR0_0.out x5_2 p479 q479
          cases e479
          replace hx479_0 := (HB.out.cell (World.block_lt_of_cell? w _ hx479_0)).trans hx479_0
          replace hx479_1 := (HB.out.cell (World.block_lt_of_cell? w _ hx479_1)).trans hx479_1
          replace p479 := eq_true p479
          replace q479 := eq_true q479
          obtain ⟨hcz20_0, hcz20_1⟩ := ck2 BK478.out
          obtain ⟨hfz20_0, hfz20_1⟩ := fk2 BK478.out
          have p480 : 0 ≤ (x5_2 : Int) := of_decide_eq_true q32_19
          have q480 : x5_2 < (l1_0.length : Int) := of_decide_eq_true q32_19
          obtain ⟨ad480, e480, hx480_0, hx480_1⟩ := at_T129 HR1_0.out x5_2 p480 q480
          cases e480
          replace hx480_0 := (HB.out.cell (World.block_lt_of_cell? w _ hx480_0)).trans hx480_0
          replace hx480_1 := (HB.out.cell (World.block_lt_of_cell? w _ hx480_1)).trans hx480_1
          replace p480 := eq_true p480
          replace q480 := eq_true q480
          go_wp2
          repeat (go_quiet (fail); try go_wp2)
          go_ret
          exact ⟨q32_23, q32_14⟩
         ·rw [if_neg c17] at H
          have c17b0 : (!((((rd_T129 l0_0 x5_2).f0).toList) == (((rd_T129 l1_0 x5_2).f0).toList)) || (!((((rd_T129 l0_0 x5_2).f1).toList) == (((rd_T129 l1_0 x5_2).f1).toList)))) = false := by simpa using c17
          clear c17
          have H' := Aside0.mk H
          clear H
          have hnb21 := NB477_478.out
          have hnc21 := NB478_477.out
          obtain ⟨hcz22_0, hcz22_1⟩ := ck2 BK477.out
          obtain ⟨hfz22_0, hfz22_1⟩ := fk2 BK477.out
          have p479 : 0 ≤ (x5_2 : Int) := of_decide_eq_true q32_19
          have q479 : x5_2 < (l0_0.length : Int) := of_decide_eq_true q32_19
          obtain ⟨ad479, e479, hx479_0, hx479_1⟩ := at_T129 HR0_0.out x5_2 p479 q479
          cases e479
          replace hx479_0 := (HB.out.cell (World.block_lt_of_cell? w _ hx479_0)).trans hx479_0
          replace hx479_1 := (HB.out.cell (World.block_lt_of_cell? w _ hx479_1)).trans hx479_1
          replace p479 := eq_true p479
          replace q479 := eq_true q479
          obtain ⟨hcz23_0, hcz23_1⟩ := ck2 BK478.out
          obtain ⟨hfz23_0, hfz23_1⟩ := fk2 BK478.out
          have p480 : 0 ≤ (x5_2 : Int) := of_decide_eq_true q32_19
          have q480 : x5_2 < (l1_0.length : Int) := of_decide_eq_true q32_19
          obtain ⟨ad480, e480, hx480_0, hx480_1⟩ := at_T129 HR1_0.out x5_2 p480 q480
          cases e480
          replace hx480_0 := (HB.out.cell (World.block_lt_of_cell? w _ hx480_0)).trans hx480_0
          replace hx480_1 := (HB.out.cell (World.block_lt_of_cell? w _ hx480_1)).trans hx480_1
          replace p480 := eq_true p480
          replace q480 := eq_true q480
          go_wp2
          repeat (go_quiet (fail); try go_wp2)
          go_roundg k2
          case measure => have := HJ2.out; have := HK2.out; omega
          case rel => exact ⟨(wrap64 (x5_2 + 1)), q32_25, H', ⟨by have := HJ2.out; have := HK2.out; omega⟩, ⟨q32_20⟩, ⟨q32_22⟩, ⟨q32_14⟩⟩
        ·rw [if_neg c16] at H
         exact absurd H (by simp)
       ·rw [if_neg c15] at H
        exact absurd H (by simp)
      ·rw [if_neg c14] at H
       have c14b0 : decide (x5_2 < (l0_0.length : Int)) = false := decide_eq_false c14
       clear c14
       have H' := Aside0.mk H
       clear H
       have hnb24 := NB477_478.out
       have hnc24 := NB478_477.out
       obtain ⟨hcz25_0, hcz25_1⟩ := ck2 BK477.out
       obtain ⟨hfz25_0, hfz25_1⟩ := fk2 BK477.out
       go_wp2
       skip
       go_loopg [6] k2 (fun kq v6 w' => ∃ (x6_3 : Int), v6 = .int .i64 x6_3 ∧ Aside0 (dowelbook_Grammars.l1 kq x6_3 l0_0 l0_1 l1_0 l1_1 = some r) ∧ Aside0 (kq ≤ k2) ∧ Aside0 (w'.heap[gb477]? = some (.cells #[(.slice A0_0 l0_0.length c0_0), (.slice A0_1 l0_1.length c0_1)] 61 (0, 0))) ∧ Aside0 (w'.heap[gb478]? = some (.cells #[(.slice A1_0 l1_0.length c1_0), (.slice A1_1 l1_1.length c1_1)] 61 (0, 0))) ∧ Aside0 (Below w.heap.size w w'))
       case atStart => exact ⟨(0), q32_25, H', ⟨Nat.le_refl _⟩, ⟨q32_20⟩, ⟨q32_22⟩, ⟨q32_14⟩⟩
       case round =>
        clear H'; (try clear c1); (try clear c2); (try clear p2); (try clear c3); (try clear p4); (try clear q4); (try clear hx4); (try clear c6); (try clear c6b0); (try clear c6b1); (try clear c6b2); (try clear p6); (try clear c7); (try clear c10); (try clear c13); (try clear c14); (try clear c14b0); (try clear c15); (try clear c15b0); (try clear c16); (try clear c16b0); (try clear c17); (try clear c17b0); (try clear c18); (try clear c21); (try clear c24); (try clear hcz11_0); (try clear hcz11_1); (try clear hcz12_0); (try clear hcz12_1); (try clear hcz19_0); (try clear hcz19_1); (try clear hcz20_0); (try clear hcz20_1); (try clear hcz22_0); (try clear hcz22_1); (try clear hcz23_0); (try clear hcz23_1); (try clear hcz25_0); (try clear hcz25_1); (try clear hcz8_0); (try clear hcz8_1); (try clear hcz9_0); (try clear hcz9_1); (try clear hfz11_0); (try clear hfz11_1); (try clear hfz12_0); (try clear hfz12_1); (try clear hfz19_0); (try clear hfz19_1); (try clear hfz20_0); (try clear hfz20_1); (try clear hfz22_0); (try clear hfz22_1); (try clear hfz23_0); (try clear hfz23_1); (try clear hfz25_0); (try clear hfz25_1); (try clear hfz8_0); (try clear hfz8_1); (try clear hfz9_0); (try clear hfz9_1); (try clear hx479_0); (try clear hx479_1); (try clear hx480_0); (try clear hx480_1); (try clear p2); (try clear p479); (try clear p480); (try clear q479); (try clear q480)
        obtain ⟨x6_3, rfl, HA, HK3, BK477, BK478, HB⟩ := hrel
        cases gk with
        | zero => exact absurd HA.out (by simp [dowelbook_Grammars.l1])
        | succ k3 =>
         have H := HA.out
         clear HA
         simp only [dowelbook_Grammars.l1] at H
         by_cases c26 : x6_3 < (l0_1.length : Int)
         ·rw [if_pos c26] at H
          have c26b0 : decide (x6_3 < (l0_1.length : Int)) = true := decide_eq_true c26
          clear c26
          by_cases c27 : 0 ≤ x6_3
          ·rw [if_pos c27] at H
           have c27b0 : decide (0 ≤ x6_3) = true := decide_eq_true c27
           clear c27
           by_cases c28 : x6_3 < (l1_1.length : Int)
           ·rw [if_pos c28] at H
            have c28b0 : decide (x6_3 < (l1_1.length : Int)) = true := decide_eq_true c28
            clear c28; have HC29 := Aside0.mk H; clear H
            have hnb30 := NB477_478.out
            have hnc30 := NB478_477.out
            obtain ⟨hcz31_0, hcz31_1⟩ := ck2 BK477.out
            obtain ⟨hfz31_0, hfz31_1⟩ := fk2 BK477.out
            have p481 : 0 ≤ (x6_3 : Int) := of_decide_eq_true q32_19
            have q481 : x6_3 < (l0_1.length : Int) := of_decide_eq_true q32_19
            obtain ⟨ad481, A481_1, c481_1, A481_2, c481_2, e481, hx481_0, hx481_1, hx481_2, hl481_1, hi481_1, hl481_2, hi481_2⟩ := at_T125 HR0_1.out x6_3 p481 q481
            cases e481
            replace hx481_0 := (HB.out.cell (World.block_lt_of_cell? w _ hx481_0)).trans hx481_0
            replace hx481_1 := (HB.out.cell (World.block_lt_of_cell? w _ hx481_1)).trans hx481_1
            replace hx481_2 := (HB.out.cell (World.block_lt_of_cell? w _ hx481_2)).trans hx481_2
            have HR481_1 := Aside0.mk hi481_1; have HC481_1 := Aside0.mk hl481_1; clear hi481_1 hl481_1; have HR481_2 := Aside0.mk hi481_2; have HC481_2 := Aside0.mk hl481_2; clear hi481_2 hl481_2
            replace p481 := eq_true p481
            replace q481 := eq_true q481
            go_upto_region 13 with (first | ((with_reducible refine gate_dst (N := 7) rfl ?_); (try (refine gate_guard (by rfl) ?_; dsimp only)); refine box_event ?hg (N := 7) ?hd (cs := #[.string (⟨#[]⟩ : ByteArray), .slice none 0 0, .slice none 0 0]) (t := 125) ?hr ?_; (case hd => rfl); (case hg => rfl); (case hr => first | (go_simp; done) | (go_simp; rfl)); intro gb482 hg w32 hbox hb; have y_gb477 := blkk (g0 := gb477) hb hg q32_20; have n0_ := Aside0.mk y_gb477.1; have y_gb478 := blkk (g0 := gb478) hb hg q32_22; have n1_ := Aside0.mk y_gb478.1; have z_ := bxk hb hg q32_14; have n2_ := Aside0.mk z_.1; have n3_ := Aside0.mk (hbox); have n4_ := Aside0.mk z_.2; have n5_ := Aside0.mk z_.2; clear z_; have n6_ := Aside0.mk y_gb477.2.1; have n7_ := Aside0.mk y_gb477.2.2; have n8_ := Aside0.mk y_gb478.2.1; have n9_ := Aside0.mk y_gb478.2.2; clear BK477; clear BK478; clear HB; have BK477 := n0_; have BK478 := n1_; have HB := n2_; have BK482 := n3_; have GW482 := n4_; have GE482 := n5_; have NB477_482 := n6_; have NB482_477 := n7_; have NB478_482 := n8_; have NB482_478 := n9_; clear n0_ n1_ n2_ n3_ n4_ n5_ n6_ n7_ n8_ n9_; clear hb hbox hg y_gb477 y_gb478; have hnb33 := NB482_477.out; have hnc33 := NB477_482.out; have hnb34 := NB482_478.out; have hnc34 := NB478_482.out; obtain ⟨hcz35_0, hcz35_1, hcz35_2⟩ := ck3 BK482.out; obtain ⟨hfz35_0, hfz35_1, hfz35_2⟩ := fk3 BK482.out; obtain ⟨hcz36_0, hcz36_1⟩ := ck2 BK478.out; obtain ⟨hfz36_0, hfz36_1⟩ := fk2 BK478.out; have p483 : 0 ≤ (x6_3 : Int) := of_decide_eq_true q32_19; have q483 : x6_3 < (l1_1.length : Int) := of_decide_eq_true q32_19; obtain ⟨ad483, A483_1, c483_1, A483_2, c483_2, e483, hx483_0, hx483_1, hx483_2, hl483_1, hi483_1, hl483_2, hi483_2⟩ := at_T125 HR1_1.out x6_3 p483 q483; cases e483; have hn483_0 : ad483.block ≠ gb482 := Nat.ne_of_lt (Nat.lt_of_lt_of_le q32_18 GW482.out); have hn483_1 : ad483.block ≠ gb482 := Nat.ne_of_lt (Nat.lt_of_lt_of_le q32_18 GW482.out); have hn483_2 : ad483.block ≠ gb482 := Nat.ne_of_lt (Nat.lt_of_lt_of_le q32_18 GW482.out); replace hx483_0 := (HB.out.cell (World.block_lt_of_cell? w _ hx483_0)).trans hx483_0; replace hx483_1 := (HB.out.cell (World.block_lt_of_cell? w _ hx483_1)).trans hx483_1; replace hx483_2 := (HB.out.cell (World.block_lt_of_cell? w _ hx483_2)).trans hx483_2; have HR483_1 := Aside0.mk hi483_1; have HC483_1 := Aside0.mk hl483_1; clear hi483_1 hl483_1; have HR483_2 := Aside0.mk hi483_2; have HC483_2 := Aside0.mk hl483_2; clear hi483_2 hl483_2; replace hx483_0 := (cell_far (p := ⟨gb482, 0, none⟩) q32_15 (.string ((rd_T125 l0_1 x6_3).f0))).trans hx483_0; replace hx483_1 := (cell_far (p := ⟨gb482, 0, none⟩) q32_15 (.string ((rd_T125 l0_1 x6_3).f0))).trans hx483_1; replace hx483_2 := (cell_far (p := ⟨gb482, 0, none⟩) q32_15 (.string ((rd_T125 l0_1 x6_3).f0))).trans hx483_2; replace hx483_0 := (cell_far (p := ⟨gb482, 1, none⟩) q32_16 (.slice A481_1 ((rd_T125 l0_1 x6_3).f1).length c481_1)).trans hx483_0; replace hx483_1 := (cell_far (p := ⟨gb482, 1, none⟩) q32_16 (.slice A481_1 ((rd_T125 l0_1 x6_3).f1).length c481_1)).trans hx483_1; replace hx483_2 := (cell_far (p := ⟨gb482, 1, none⟩) q32_16 (.slice A481_1 ((rd_T125 l0_1 x6_3).f1).length c481_1)).trans hx483_2; replace hx483_0 := (cell_far (p := ⟨gb482, 2, none⟩) q32_17 (.slice A481_2 ((rd_T125 l0_1 x6_3).f2).length c481_2)).trans hx483_0; replace hx483_1 := (cell_far (p := ⟨gb482, 2, none⟩) q32_17 (.slice A481_2 ((rd_T125 l0_1 x6_3).f2).length c481_2)).trans hx483_1; replace hx483_2 := (cell_far (p := ⟨gb482, 2, none⟩) q32_17 (.slice A481_2 ((rd_T125 l0_1 x6_3).f2).length c481_2)).trans hx483_2; (try have hy483_0 := fun (n_ : Nat) => (show (((((w32.drewN n_).setCell ⟨gb482, 0, none⟩ (.string ((rd_T125 l0_1 x6_3).f0))).setCell ⟨gb482, 1, none⟩ (.slice A481_1 ((rd_T125 l0_1 x6_3).f1).length c481_1)).setCell ⟨gb482, 2, none⟩ (.slice A481_2 ((rd_T125 l0_1 x6_3).f2).length c481_2))).cell? _ = some _ from hx483_0)); (try have hy483_1 := fun (n_ : Nat) => (show (((((w32.drewN n_).setCell ⟨gb482, 0, none⟩ (.string ((rd_T125 l0_1 x6_3).f0))).setCell ⟨gb482, 1, none⟩ (.slice A481_1 ((rd_T125 l0_1 x6_3).f1).length c481_1)).setCell ⟨gb482, 2, none⟩ (.slice A481_2 ((rd_T125 l0_1 x6_3).f2).length c481_2))).cell? _ = some _ from hx483_1)); (try have hy483_2 := fun (n_ : Nat) => (show (((((w32.drewN n_).setCell ⟨gb482, 0, none⟩ (.string ((rd_T125 l0_1 x6_3).f0))).setCell ⟨gb482, 1, none⟩ (.slice A481_1 ((rd_T125 l0_1 x6_3).f1).length c481_1)).setCell ⟨gb482, 2, none⟩ (.slice A481_2 ((rd_T125 l0_1 x6_3).f2).length c481_2))).cell? _ = some _ from hx483_2)); clear hn483_0; clear hn483_1; clear hn483_2; replace p483 := eq_true p483; replace q483 := eq_true q483) | ((with_reducible refine gate_dst (N := 8) rfl ?_); (try (refine gate_guard (by rfl) ?_; dsimp only)); refine box_event ?hg (N := 8) ?hd (cs := #[.string (⟨#[]⟩ : ByteArray), .slice none 0 0, .slice none 0 0]) (t := 125) ?hr ?_; (case hd => rfl); (case hg => rfl); (case hr => first | (go_simp; done) | (go_simp; rfl)); intro gb484 hg w37 hbox hb; have n0_ := Aside0.mk (blk_below (g := gb477) (o := .cells #[.slice A0_0 l0_0.length c0_0, .slice (some ad481) l0_1.length c0_1] 61 (0, 0)) q32_2 hb); have n1_ := Aside0.mk (blk_below (g := gb478) (o := .cells #[.slice A1_0 l1_0.length c1_0, .slice (some ad483) l1_1.length c1_1] 61 (0, 0)) q32_3 hb); have n2_ := Aside0.mk (blk_below (g := gb482) (o := .cells #[.string ((rd_T125 l0_1 x6_3).f0), .slice A481_1 ((rd_T125 l0_1 x6_3).f1).length c481_1, .slice A481_2 ((rd_T125 l0_1 x6_3).f2).length c481_2] 125 (0, 0)) q32_0 hb); have z_ := bxk hb hg q32_21; have n3_ := Aside0.mk z_.1; have n4_ := Aside0.mk (hbox); have n5_ := Aside0.mk z_.2; have n6_ := Aside0.mk z_.2; clear z_; have n7_ := Aside0.mk ((q32_7 : gb477 ≠ gb484)); have n8_ := Aside0.mk ((q32_8 : gb484 ≠ gb477)); have n9_ := Aside0.mk ((q32_9 : gb478 ≠ gb484)); have n10_ := Aside0.mk ((q32_10 : gb484 ≠ gb478)); have n11_ := Aside0.mk ((q32_4 : gb482 ≠ gb484)); have n12_ := Aside0.mk ((q32_5 : gb484 ≠ gb482)); clear BK477; clear BK478; clear BK482; clear HB; have BK477 := n0_; have BK478 := n1_; have BK482 := n2_; have HB := n3_; have BK484 := n4_; have GW484 := n5_; have GE484 := n6_; have NB477_484 := n7_; have NB484_477 := n8_; have NB478_484 := n9_; have NB484_478 := n10_; have NB482_484 := n11_; have NB484_482 := n12_; clear n0_ n1_ n2_ n3_ n4_ n5_ n6_ n7_ n8_ n9_ n10_ n11_ n12_; clear hb hbox hg; have hnb38 := NB484_477.out; have hnc38 := NB477_484.out; have hnb39 := NB484_478.out; have hnc39 := NB478_484.out; have hnb40 := NB484_482.out; have hnc40 := NB482_484.out; obtain ⟨hcz41_0, hcz41_1, hcz41_2⟩ := ck3 BK484.out; obtain ⟨hfz41_0, hfz41_1, hfz41_2⟩ := fk3 BK484.out))
            repeat (go_quiet (first | ((with_reducible refine gate_dst (N := 7) rfl ?_); (try (refine gate_guard (by rfl) ?_; dsimp only)); refine box_event ?hg (N := 7) ?hd (cs := #[.string (⟨#[]⟩ : ByteArray), .slice none 0 0, .slice none 0 0]) (t := 125) ?hr ?_; (case hd => rfl); (case hg => rfl); (case hr => first | (go_simp; done) | (go_simp; rfl)); intro gb482 hg w32 hbox hb; have y_gb477 := blkk (g0 := gb477) hb hg q32_20; have n0_ := Aside0.mk y_gb477.1; have y_gb478 := blkk (g0 := gb478) hb hg q32_22; have n1_ := Aside0.mk y_gb478.1; have z_ := bxk hb hg q32_14; have n2_ := Aside0.mk z_.1; have n3_ := Aside0.mk (hbox); have n4_ := Aside0.mk z_.2; have n5_ := Aside0.mk z_.2; clear z_; have n6_ := Aside0.mk y_gb477.2.1; have n7_ := Aside0.mk y_gb477.2.2; have n8_ := Aside0.mk y_gb478.2.1; have n9_ := Aside0.mk y_gb478.2.2; clear BK477; clear BK478; clear HB; have BK477 := n0_; have BK478 := n1_; have HB := n2_; have BK482 := n3_; have GW482 := n4_; have GE482 := n5_; have NB477_482 := n6_; have NB482_477 := n7_; have NB478_482 := n8_; have NB482_478 := n9_; clear n0_ n1_ n2_ n3_ n4_ n5_ n6_ n7_ n8_ n9_; clear hb hbox hg y_gb477 y_gb478; have hnb33 := NB482_477.out; have hnc33 := NB477_482.out; have hnb34 := NB482_478.out; have hnc34 := NB478_482.out; obtain ⟨hcz35_0, hcz35_1, hcz35_2⟩ := ck3 BK482.out; obtain ⟨hfz35_0, hfz35_1, hfz35_2⟩ := fk3 BK482.out; obtain ⟨hcz36_0, hcz36_1⟩ := ck2 BK478.out; obtain ⟨hfz36_0, hfz36_1⟩ := fk2 BK478.out; have p483 : 0 ≤ (x6_3 : Int) := of_decide_eq_true q32_19; have q483 : x6_3 < (l1_1.length : Int) := of_decide_eq_true q32_19; obtain ⟨ad483, A483_1, c483_1, A483_2, c483_2, e483, hx483_0, hx483_1, hx483_2, hl483_1, hi483_1, hl483_2, hi483_2⟩ := at_T125 HR1_1.out x6_3 p483 q483; cases e483; have hn483_0 : ad483.block ≠ gb482 := Nat.ne_of_lt (Nat.lt_of_lt_of_le q32_18 GW482.out); have hn483_1 : ad483.block ≠ gb482 := Nat.ne_of_lt (Nat.lt_of_lt_of_le q32_18 GW482.out); have hn483_2 : ad483.block ≠ gb482 := Nat.ne_of_lt (Nat.lt_of_lt_of_le q32_18 GW482.out); replace hx483_0 := (HB.out.cell (World.block_lt_of_cell? w _ hx483_0)).trans hx483_0; replace hx483_1 := (HB.out.cell (World.block_lt_of_cell? w _ hx483_1)).trans hx483_1; replace hx483_2 := (HB.out.cell (World.block_lt_of_cell? w _ hx483_2)).trans hx483_2; have HR483_1 := Aside0.mk hi483_1; have HC483_1 := Aside0.mk hl483_1; clear hi483_1 hl483_1; have HR483_2 := Aside0.mk hi483_2; have HC483_2 := Aside0.mk hl483_2; clear hi483_2 hl483_2; replace hx483_0 := (cell_far (p := ⟨gb482, 0, none⟩) q32_15 (.string ((rd_T125 l0_1 x6_3).f0))).trans hx483_0; replace hx483_1 := (cell_far (p := ⟨gb482, 0, none⟩) q32_15 (.string ((rd_T125 l0_1 x6_3).f0))).trans hx483_1; replace hx483_2 := (cell_far (p := ⟨gb482, 0, none⟩) q32_15 (.string ((rd_T125 l0_1 x6_3).f0))).trans hx483_2; replace hx483_0 := (cell_far (p := ⟨gb482, 1, none⟩) q32_16 (.slice A481_1 ((rd_T125 l0_1 x6_3).f1).length c481_1)).trans hx483_0; replace hx483_1 := (cell_far (p := ⟨gb482, 1, none⟩) q32_16 (.slice A481_1 ((rd_T125 l0_1 x6_3).f1).length c481_1)).trans hx483_1; replace hx483_2 := (cell_far (p := ⟨gb482, 1, none⟩) q32_16 (.slice A481_1 ((rd_T125 l0_1 x6_3).f1).length c481_1)).trans hx483_2; replace hx483_0 := (cell_far (p := ⟨gb482, 2, none⟩) q32_17 (.slice A481_2 ((rd_T125 l0_1 x6_3).f2).length c481_2)).trans hx483_0; replace hx483_1 := (cell_far (p := ⟨gb482, 2, none⟩) q32_17 (.slice A481_2 ((rd_T125 l0_1 x6_3).f2).length c481_2)).trans hx483_1; replace hx483_2 := (cell_far (p := ⟨gb482, 2, none⟩) q32_17 (.slice A481_2 ((rd_T125 l0_1 x6_3).f2).length c481_2)).trans hx483_2; (try have hy483_0 := fun (n_ : Nat) => (show (((((w32.drewN n_).setCell ⟨gb482, 0, none⟩ (.string ((rd_T125 l0_1 x6_3).f0))).setCell ⟨gb482, 1, none⟩ (.slice A481_1 ((rd_T125 l0_1 x6_3).f1).length c481_1)).setCell ⟨gb482, 2, none⟩ (.slice A481_2 ((rd_T125 l0_1 x6_3).f2).length c481_2))).cell? _ = some _ from hx483_0)); (try have hy483_1 := fun (n_ : Nat) => (show (((((w32.drewN n_).setCell ⟨gb482, 0, none⟩ (.string ((rd_T125 l0_1 x6_3).f0))).setCell ⟨gb482, 1, none⟩ (.slice A481_1 ((rd_T125 l0_1 x6_3).f1).length c481_1)).setCell ⟨gb482, 2, none⟩ (.slice A481_2 ((rd_T125 l0_1 x6_3).f2).length c481_2))).cell? _ = some _ from hx483_1)); (try have hy483_2 := fun (n_ : Nat) => (show (((((w32.drewN n_).setCell ⟨gb482, 0, none⟩ (.string ((rd_T125 l0_1 x6_3).f0))).setCell ⟨gb482, 1, none⟩ (.slice A481_1 ((rd_T125 l0_1 x6_3).f1).length c481_1)).setCell ⟨gb482, 2, none⟩ (.slice A481_2 ((rd_T125 l0_1 x6_3).f2).length c481_2))).cell? _ = some _ from hx483_2)); clear hn483_0; clear hn483_1; clear hn483_2; replace p483 := eq_true p483; replace q483 := eq_true q483) | ((with_reducible refine gate_dst (N := 8) rfl ?_); (try (refine gate_guard (by rfl) ?_; dsimp only)); refine box_event ?hg (N := 8) ?hd (cs := #[.string (⟨#[]⟩ : ByteArray), .slice none 0 0, .slice none 0 0]) (t := 125) ?hr ?_; (case hd => rfl); (case hg => rfl); (case hr => first | (go_simp; done) | (go_simp; rfl)); intro gb484 hg w37 hbox hb; have n0_ := Aside0.mk (blk_below (g := gb477) (o := .cells #[.slice A0_0 l0_0.length c0_0, .slice (some ad481) l0_1.length c0_1] 61 (0, 0)) q32_2 hb); have n1_ := Aside0.mk (blk_below (g := gb478) (o := .cells #[.slice A1_0 l1_0.length c1_0, .slice (some ad483) l1_1.length c1_1] 61 (0, 0)) q32_3 hb); have n2_ := Aside0.mk (blk_below (g := gb482) (o := .cells #[.string ((rd_T125 l0_1 x6_3).f0), .slice A481_1 ((rd_T125 l0_1 x6_3).f1).length c481_1, .slice A481_2 ((rd_T125 l0_1 x6_3).f2).length c481_2] 125 (0, 0)) q32_0 hb); have z_ := bxk hb hg q32_21; have n3_ := Aside0.mk z_.1; have n4_ := Aside0.mk (hbox); have n5_ := Aside0.mk z_.2; have n6_ := Aside0.mk z_.2; clear z_; have n7_ := Aside0.mk ((q32_7 : gb477 ≠ gb484)); have n8_ := Aside0.mk ((q32_8 : gb484 ≠ gb477)); have n9_ := Aside0.mk ((q32_9 : gb478 ≠ gb484)); have n10_ := Aside0.mk ((q32_10 : gb484 ≠ gb478)); have n11_ := Aside0.mk ((q32_4 : gb482 ≠ gb484)); have n12_ := Aside0.mk ((q32_5 : gb484 ≠ gb482)); clear BK477; clear BK478; clear BK482; clear HB; have BK477 := n0_; have BK478 := n1_; have BK482 := n2_; have HB := n3_; have BK484 := n4_; have GW484 := n5_; have GE484 := n6_; have NB477_484 := n7_; have NB484_477 := n8_; have NB478_484 := n9_; have NB484_478 := n10_; have NB482_484 := n11_; have NB484_482 := n12_; clear n0_ n1_ n2_ n3_ n4_ n5_ n6_ n7_ n8_ n9_ n10_ n11_ n12_; clear hb hbox hg; have hnb38 := NB484_477.out; have hnc38 := NB477_484.out; have hnb39 := NB484_478.out; have hnc39 := NB478_484.out; have hnb40 := NB484_482.out; have hnc40 := NB482_484.out; obtain ⟨hcz41_0, hcz41_1, hcz41_2⟩ := ck3 BK484.out; obtain ⟨hfz41_0, hfz41_1, hfz41_2⟩ := fk3 BK484.out)); go_upto_region 13 with (first | ((with_reducible refine gate_dst (N := 7) rfl ?_); (try (refine gate_guard (by rfl) ?_; dsimp only)); refine box_event ?hg (N := 7) ?hd (cs := #[.string (⟨#[]⟩ : ByteArray), .slice none 0 0, .slice none 0 0]) (t := 125) ?hr ?_; (case hd => rfl); (case hg => rfl); (case hr => first | (go_simp; done) | (go_simp; rfl)); intro gb482 hg w32 hbox hb; have y_gb477 := blkk (g0 := gb477) hb hg q32_20; have n0_ := Aside0.mk y_gb477.1; have y_gb478 := blkk (g0 := gb478) hb hg q32_22; have n1_ := Aside0.mk y_gb478.1; have z_ := bxk hb hg q32_14; have n2_ := Aside0.mk z_.1; have n3_ := Aside0.mk (hbox); have n4_ := Aside0.mk z_.2; have n5_ := Aside0.mk z_.2; clear z_; have n6_ := Aside0.mk y_gb477.2.1; have n7_ := Aside0.mk y_gb477.2.2; have n8_ := Aside0.mk y_gb478.2.1; have n9_ := Aside0.mk y_gb478.2.2; clear BK477; clear BK478; clear HB; have BK477 := n0_; have BK478 := n1_; have HB := n2_; have BK482 := n3_; have GW482 := n4_; have GE482 := n5_; have NB477_482 := n6_; have NB482_477 := n7_; have NB478_482 := n8_; have NB482_478 := n9_; clear n0_ n1_ n2_ n3_ n4_ n5_ n6_ n7_ n8_ n9_; clear hb hbox hg y_gb477 y_gb478; have hnb33 := NB482_477.out; have hnc33 := NB477_482.out; have hnb34 := NB482_478.out; have hnc34 := NB478_482.out; obtain ⟨hcz35_0, hcz35_1, hcz35_2⟩ := ck3 BK482.out; obtain ⟨hfz35_0, hfz35_1, hfz35_2⟩ := fk3 BK482.out; obtain ⟨hcz36_0, hcz36_1⟩ := ck2 BK478.out; obtain ⟨hfz36_0, hfz36_1⟩ := fk2 BK478.out; have p483 : 0 ≤ (x6_3 : Int) := of_decide_eq_true q32_19; have q483 : x6_3 < (l1_1.length : Int) := of_decide_eq_true q32_19; obtain ⟨ad483, A483_1, c483_1, A483_2, c483_2, e483, hx483_0, hx483_1, hx483_2, hl483_1, hi483_1, hl483_2, hi483_2⟩ := at_T125 HR1_1.out x6_3 p483 q483; cases e483; have hn483_0 : ad483.block ≠ gb482 := Nat.ne_of_lt (Nat.lt_of_lt_of_le q32_18 GW482.out); have hn483_1 : ad483.block ≠ gb482 := Nat.ne_of_lt (Nat.lt_of_lt_of_le q32_18 GW482.out); have hn483_2 : ad483.block ≠ gb482 := Nat.ne_of_lt (Nat.lt_of_lt_of_le q32_18 GW482.out); replace hx483_0 := (HB.out.cell (World.block_lt_of_cell? w _ hx483_0)).trans hx483_0; replace hx483_1 := (HB.out.cell (World.block_lt_of_cell? w _ hx483_1)).trans hx483_1; replace hx483_2 := (HB.out.cell (World.block_lt_of_cell? w _ hx483_2)).trans hx483_2; have HR483_1 := Aside0.mk hi483_1; have HC483_1 := Aside0.mk hl483_1; clear hi483_1 hl483_1; have HR483_2 := Aside0.mk hi483_2; have HC483_2 := Aside0.mk hl483_2; clear hi483_2 hl483_2; replace hx483_0 := (cell_far (p := ⟨gb482, 0, none⟩) q32_15 (.string ((rd_T125 l0_1 x6_3).f0))).trans hx483_0; replace hx483_1 := (cell_far (p := ⟨gb482, 0, none⟩) q32_15 (.string ((rd_T125 l0_1 x6_3).f0))).trans hx483_1; replace hx483_2 := (cell_far (p := ⟨gb482, 0, none⟩) q32_15 (.string ((rd_T125 l0_1 x6_3).f0))).trans hx483_2; replace hx483_0 := (cell_far (p := ⟨gb482, 1, none⟩) q32_16 (.slice A481_1 ((rd_T125 l0_1 x6_3).f1).length c481_1)).trans hx483_0; replace hx483_1 := (cell_far (p := ⟨gb482, 1, none⟩) q32_16 (.slice A481_1 ((rd_T125 l0_1 x6_3).f1).length c481_1)).trans hx483_1; replace hx483_2 := (cell_far (p := ⟨gb482, 1, none⟩) q32_16 (.slice A481_1 ((rd_T125 l0_1 x6_3).f1).length c481_1)).trans hx483_2; replace hx483_0 := (cell_far (p := ⟨gb482, 2, none⟩) q32_17 (.slice A481_2 ((rd_T125 l0_1 x6_3).f2).length c481_2)).trans hx483_0; replace hx483_1 := (cell_far (p := ⟨gb482, 2, none⟩) q32_17 (.slice A481_2 ((rd_T125 l0_1 x6_3).f2).length c481_2)).trans hx483_1; replace hx483_2 := (cell_far (p := ⟨gb482, 2, none⟩) q32_17 (.slice A481_2 ((rd_T125 l0_1 x6_3).f2).length c481_2)).trans hx483_2; (try have hy483_0 := fun (n_ : Nat) => (show (((((w32.drewN n_).setCell ⟨gb482, 0, none⟩ (.string ((rd_T125 l0_1 x6_3).f0))).setCell ⟨gb482, 1, none⟩ (.slice A481_1 ((rd_T125 l0_1 x6_3).f1).length c481_1)).setCell ⟨gb482, 2, none⟩ (.slice A481_2 ((rd_T125 l0_1 x6_3).f2).length c481_2))).cell? _ = some _ from hx483_0)); (try have hy483_1 := fun (n_ : Nat) => (show (((((w32.drewN n_).setCell ⟨gb482, 0, none⟩ (.string ((rd_T125 l0_1 x6_3).f0))).setCell ⟨gb482, 1, none⟩ (.slice A481_1 ((rd_T125 l0_1 x6_3).f1).length c481_1)).setCell ⟨gb482, 2, none⟩ (.slice A481_2 ((rd_T125 l0_1 x6_3).f2).length c481_2))).cell? _ = some _ from hx483_1)); (try have hy483_2 := fun (n_ : Nat) => (show (((((w32.drewN n_).setCell ⟨gb482, 0, none⟩ (.string ((rd_T125 l0_1 x6_3).f0))).setCell ⟨gb482, 1, none⟩ (.slice A481_1 ((rd_T125 l0_1 x6_3).f1).length c481_1)).setCell ⟨gb482, 2, none⟩ (.slice A481_2 ((rd_T125 l0_1 x6_3).f2).length c481_2))).cell? _ = some _ from hx483_2)); clear hn483_0; clear hn483_1; clear hn483_2; replace p483 := eq_true p483; replace q483 := eq_true q483) | ((with_reducible refine gate_dst (N := 8) rfl ?_); (try (refine gate_guard (by rfl) ?_; dsimp only)); refine box_event ?hg (N := 8) ?hd (cs := #[.string (⟨#[]⟩ : ByteArray), .slice none 0 0, .slice none 0 0]) (t := 125) ?hr ?_; (case hd => rfl); (case hg => rfl); (case hr => first | (go_simp; done) | (go_simp; rfl)); intro gb484 hg w37 hbox hb; have n0_ := Aside0.mk (blk_below (g := gb477) (o := .cells #[.slice A0_0 l0_0.length c0_0, .slice (some ad481) l0_1.length c0_1] 61 (0, 0)) q32_2 hb); have n1_ := Aside0.mk (blk_below (g := gb478) (o := .cells #[.slice A1_0 l1_0.length c1_0, .slice (some ad483) l1_1.length c1_1] 61 (0, 0)) q32_3 hb); have n2_ := Aside0.mk (blk_below (g := gb482) (o := .cells #[.string ((rd_T125 l0_1 x6_3).f0), .slice A481_1 ((rd_T125 l0_1 x6_3).f1).length c481_1, .slice A481_2 ((rd_T125 l0_1 x6_3).f2).length c481_2] 125 (0, 0)) q32_0 hb); have z_ := bxk hb hg q32_21; have n3_ := Aside0.mk z_.1; have n4_ := Aside0.mk (hbox); have n5_ := Aside0.mk z_.2; have n6_ := Aside0.mk z_.2; clear z_; have n7_ := Aside0.mk ((q32_7 : gb477 ≠ gb484)); have n8_ := Aside0.mk ((q32_8 : gb484 ≠ gb477)); have n9_ := Aside0.mk ((q32_9 : gb478 ≠ gb484)); have n10_ := Aside0.mk ((q32_10 : gb484 ≠ gb478)); have n11_ := Aside0.mk ((q32_4 : gb482 ≠ gb484)); have n12_ := Aside0.mk ((q32_5 : gb484 ≠ gb482)); clear BK477; clear BK478; clear BK482; clear HB; have BK477 := n0_; have BK478 := n1_; have BK482 := n2_; have HB := n3_; have BK484 := n4_; have GW484 := n5_; have GE484 := n6_; have NB477_484 := n7_; have NB484_477 := n8_; have NB478_484 := n9_; have NB484_478 := n10_; have NB482_484 := n11_; have NB484_482 := n12_; clear n0_ n1_ n2_ n3_ n4_ n5_ n6_ n7_ n8_ n9_ n10_ n11_ n12_; clear hb hbox hg; have hnb38 := NB484_477.out; have hnc38 := NB477_484.out; have hnb39 := NB484_478.out; have hnc39 := NB478_484.out; have hnb40 := NB484_482.out; have hnc40 := NB482_484.out; obtain ⟨hcz41_0, hcz41_1, hcz41_2⟩ := ck3 BK484.out; obtain ⟨hfz41_0, hfz41_1, hfz41_2⟩ := fk3 BK484.out)))
            (try simp only [Act.put, List.setIfInBounds_toArray, List.set_cons_zero, List.set_cons_succ])
            go_cut [80] (fun v80 wc => ∃ (kq : Nat) (x80_28 : Bool), v80 = .bool x80_28 ∧ Aside0 (dowelbook_Grammars.j3 kq x6_3 x80_28 l0_0 l0_1 l1_0 l1_1 = some r) ∧ Aside0 (kq ≤ k3) ∧ Aside0 (wc.heap[gb477]? = some (.cells #[(.slice A0_0 l0_0.length c0_0), (.slice (some ad481) l0_1.length c0_1)] 61 (0, 0))) ∧ Aside0 (wc.heap[gb478]? = some (.cells #[(.slice A1_0 l1_0.length c1_0), (.slice (some ad483) l1_1.length c1_1)] 61 (0, 0))) ∧ Aside0 (wc.heap[gb482]? = some (.cells #[.string ((rd_T125 l0_1 x6_3).f0), (.slice A481_1 ((rd_T125 l0_1 x6_3).f1).length c481_1), (.slice A481_2 ((rd_T125 l0_1 x6_3).f2).length c481_2)] 125 (0, 0))) ∧ Aside0 (wc.heap[gb484]? = some (.cells #[.string ((rd_T125 l1_1 x6_3).f0), (.slice A483_1 ((rd_T125 l1_1 x6_3).f1).length c483_1), (.slice A483_2 ((rd_T125 l1_1 x6_3).f2).length c483_2)] 125 (0, 0))) ∧ Aside0 (Below w.heap.size w wc))
            case first =>
             have H := HC29.out
             clear HC29
             by_cases c42 : ((rd_T125 l0_1 x6_3).f0).toList = ((rd_T125 l1_1 x6_3).f0).toList
             ·rw [if_pos c42] at H
              have c42b0 : (((rd_T125 l0_1 x6_3).f0).toList == ((rd_T125 l1_1 x6_3).f0).toList) = true := beq_iff_eq.mpr c42
              have c42b1 : (((rd_T125 l0_1 x6_3).f0).toList != ((rd_T125 l1_1 x6_3).f0).toList) = false := bne_eq_false_iff_eq.mpr c42
              clear c42
              skip
              replace H := Option.bind_eq_some_iff.mp H
              obtain ⟨t485, A430, H⟩ := H
              replace H : (if t485 = true then ((dowelbook_Nodes.f k3 ((rd_T125 l0_1 x6_3).f2) ((rd_T125 l1_1 x6_3).f2)).bind fun t486 => (dowelbook_Grammars.j3 k3 x6_3 (!t486) l0_0 l0_1 l1_0 l1_1)) else (dowelbook_Grammars.j3 k3 x6_3 true l0_0 l0_1 l1_0 l1_1)) = some r := H
              have A43 := Aside0.mk A430; clear A430
              by_cases c44 : t485 = true
              ·subst c44
               have H1 : ((dowelbook_Nodes.f k3 ((rd_T125 l0_1 x6_3).f2) ((rd_T125 l1_1 x6_3).f2)).bind fun t486 => (dowelbook_Grammars.j3 k3 x6_3 (!t486) l0_0 l0_1 l1_0 l1_1)) = some r := by rw [if_pos rfl] at H; exact H
               clear H
               have H := H1
               clear H1
               replace H := Option.bind_eq_some_iff.mp H
               obtain ⟨t486, A450, H⟩ := H
               replace H : (dowelbook_Grammars.j3 k3 x6_3 (!t486) l0_0 l0_1 l1_0 l1_1) = some r := H
               have A45 := Aside0.mk A450; clear A450
               have H' := Aside0.mk H
               clear H
               have hnb46 := NB482_477.out
               have hnc46 := NB477_482.out
               have hnb47 := NB482_478.out
               have hnc47 := NB478_482.out
               have hnb48 := NB482_484.out
               have hnc48 := NB484_482.out
               obtain ⟨hcz49_0, hcz49_1, hcz49_2⟩ := ck3 BK482.out
               obtain ⟨hfz49_0, hfz49_1, hfz49_2⟩ := fk3 BK482.out
               have hnb50 := NB484_477.out
               have hnc50 := NB477_484.out
               have hnb51 := NB484_478.out
               have hnc51 := NB478_484.out
               obtain ⟨hcz52_0, hcz52_1, hcz52_2⟩ := ck3 BK484.out
               obtain ⟨hfz52_0, hfz52_1, hfz52_2⟩ := fk3 BK484.out
               go_wp2_with (first | (go_at_call 67; (with_reducible refine (dowelbook_Texts.calls k3 _ _ ((rd_T125 l0_1 x6_3).f1) _ _ ((rd_T125 l1_1 x6_3).f1) true _ ?side1 ?side2 ?side3 ?side4 A43.out).mono ?_); (case side1 => exact Kd.C_below HR481_1.out q32_1); (case side2 => exact HC481_1.out); (case side3 => exact Kd.C_below HR483_1.out q32_1); (case side4 => exact HC483_1.out); rintro e w' ⟨rfl, ⟨nd, rfl⟩⟩; (try first | exact ⟨rfl, _, World.drewN_drewN _ _ _⟩ | exact ⟨rfl, _, Eq.trans (World.drewN_drewN _ _ _) (congrArg (World.drewN _) (Nat.add_assoc _ _ _))⟩)) | (go_at_call 68; (with_reducible refine (dowelbook_Nodes.calls k3 _ _ ((rd_T125 l0_1 x6_3).f2) _ _ ((rd_T125 l1_1 x6_3).f2) t486 _ ?side1 ?side2 ?side3 ?side4 A45.out).mono ?_); (case side1 => exact Kd.C_below HR481_2.out q32_1); (case side2 => exact HC481_2.out); (case side3 => exact Kd.C_below HR483_2.out q32_1); (case side4 => exact HC483_2.out); rintro e w' ⟨rfl, ⟨nd, rfl⟩⟩; (try first | exact ⟨rfl, _, World.drewN_drewN _ _ _⟩ | exact ⟨rfl, _, Eq.trans (World.drewN_drewN _ _ _) (congrArg (World.drewN _) (Nat.add_assoc _ _ _))⟩)))
               repeat (go_quiet (first | (go_at_call 67; (with_reducible refine (dowelbook_Texts.calls k3 _ _ ((rd_T125 l0_1 x6_3).f1) _ _ ((rd_T125 l1_1 x6_3).f1) true _ ?side1 ?side2 ?side3 ?side4 A43.out).mono ?_); (case side1 => exact Kd.C_below HR481_1.out q32_1); (case side2 => exact HC481_1.out); (case side3 => exact Kd.C_below HR483_1.out q32_1); (case side4 => exact HC483_1.out); rintro e w' ⟨rfl, ⟨nd, rfl⟩⟩; (try first | exact ⟨rfl, _, World.drewN_drewN _ _ _⟩ | exact ⟨rfl, _, Eq.trans (World.drewN_drewN _ _ _) (congrArg (World.drewN _) (Nat.add_assoc _ _ _))⟩)) | (go_at_call 68; (with_reducible refine (dowelbook_Nodes.calls k3 _ _ ((rd_T125 l0_1 x6_3).f2) _ _ ((rd_T125 l1_1 x6_3).f2) t486 _ ?side1 ?side2 ?side3 ?side4 A45.out).mono ?_); (case side1 => exact Kd.C_below HR481_2.out q32_1); (case side2 => exact HC481_2.out); (case side3 => exact Kd.C_below HR483_2.out q32_1); (case side4 => exact HC483_2.out); rintro e w' ⟨rfl, ⟨nd, rfl⟩⟩; (try first | exact ⟨rfl, _, World.drewN_drewN _ _ _⟩ | exact ⟨rfl, _, Eq.trans (World.drewN_drewN _ _ _) (congrArg (World.drewN _) (Nat.add_assoc _ _ _))⟩))); try go_wp2_with (first | (go_at_call 67; (with_reducible refine (dowelbook_Texts.calls k3 _ _ ((rd_T125 l0_1 x6_3).f1) _ _ ((rd_T125 l1_1 x6_3).f1) true _ ?side1 ?side2 ?side3 ?side4 A43.out).mono ?_); (case side1 => exact Kd.C_below HR481_1.out q32_1); (case side2 => exact HC481_1.out); (case side3 => exact Kd.C_below HR483_1.out q32_1); (case side4 => exact HC483_1.out); rintro e w' ⟨rfl, ⟨nd, rfl⟩⟩; (try first | exact ⟨rfl, _, World.drewN_drewN _ _ _⟩ | exact ⟨rfl, _, Eq.trans (World.drewN_drewN _ _ _) (congrArg (World.drewN _) (Nat.add_assoc _ _ _))⟩)) | (go_at_call 68; (with_reducible refine (dowelbook_Nodes.calls k3 _ _ ((rd_T125 l0_1 x6_3).f2) _ _ ((rd_T125 l1_1 x6_3).f2) t486 _ ?side1 ?side2 ?side3 ?side4 A45.out).mono ?_); (case side1 => exact Kd.C_below HR481_2.out q32_1); (case side2 => exact HC481_2.out); (case side3 => exact Kd.C_below HR483_2.out q32_1); (case side4 => exact HC483_2.out); rintro e w' ⟨rfl, ⟨nd, rfl⟩⟩; (try first | exact ⟨rfl, _, World.drewN_drewN _ _ _⟩ | exact ⟨rfl, _, Eq.trans (World.drewN_drewN _ _ _) (congrArg (World.drewN _) (Nat.add_assoc _ _ _))⟩))))
               go_meet
               case rel => exact ⟨_, (!t486), q32_25, H', ⟨q32_24⟩, ⟨q32_11⟩, ⟨q32_12⟩, ⟨q32_13⟩, ⟨q32_6⟩, ⟨q32_1⟩⟩
              ·replace c44 := Bool.eq_false_iff.mpr c44
               subst c44
               have H1 : (dowelbook_Grammars.j3 k3 x6_3 true l0_0 l0_1 l1_0 l1_1) = some r := by rw [if_neg (show ¬ (false = true) by decide)] at H; exact H
               clear H
               have H := H1
               clear H1
               have H' := Aside0.mk H
               clear H
               have hnb53 := NB482_477.out
               have hnc53 := NB477_482.out
               have hnb54 := NB482_478.out
               have hnc54 := NB478_482.out
               have hnb55 := NB482_484.out
               have hnc55 := NB484_482.out
               obtain ⟨hcz56_0, hcz56_1, hcz56_2⟩ := ck3 BK482.out
               obtain ⟨hfz56_0, hfz56_1, hfz56_2⟩ := fk3 BK482.out
               have hnb57 := NB484_477.out
               have hnc57 := NB477_484.out
               have hnb58 := NB484_478.out
               have hnc58 := NB478_484.out
               obtain ⟨hcz59_0, hcz59_1, hcz59_2⟩ := ck3 BK484.out
               obtain ⟨hfz59_0, hfz59_1, hfz59_2⟩ := fk3 BK484.out
               go_wp2_with (first | (go_at_call 67; (with_reducible refine (dowelbook_Texts.calls k3 _ _ ((rd_T125 l0_1 x6_3).f1) _ _ ((rd_T125 l1_1 x6_3).f1) false _ ?side1 ?side2 ?side3 ?side4 A43.out).mono ?_); (case side1 => exact Kd.C_below HR481_1.out q32_1); (case side2 => exact HC481_1.out); (case side3 => exact Kd.C_below HR483_1.out q32_1); (case side4 => exact HC483_1.out); rintro e w' ⟨rfl, ⟨nd, rfl⟩⟩; (try first | exact ⟨rfl, _, World.drewN_drewN _ _ _⟩ | exact ⟨rfl, _, Eq.trans (World.drewN_drewN _ _ _) (congrArg (World.drewN _) (Nat.add_assoc _ _ _))⟩)))
               repeat (go_quiet (first | (go_at_call 67; (with_reducible refine (dowelbook_Texts.calls k3 _ _ ((rd_T125 l0_1 x6_3).f1) _ _ ((rd_T125 l1_1 x6_3).f1) false _ ?side1 ?side2 ?side3 ?side4 A43.out).mono ?_); (case side1 => exact Kd.C_below HR481_1.out q32_1); (case side2 => exact HC481_1.out); (case side3 => exact Kd.C_below HR483_1.out q32_1); (case side4 => exact HC483_1.out); rintro e w' ⟨rfl, ⟨nd, rfl⟩⟩; (try first | exact ⟨rfl, _, World.drewN_drewN _ _ _⟩ | exact ⟨rfl, _, Eq.trans (World.drewN_drewN _ _ _) (congrArg (World.drewN _) (Nat.add_assoc _ _ _))⟩))); try go_wp2_with (first | (go_at_call 67; (with_reducible refine (dowelbook_Texts.calls k3 _ _ ((rd_T125 l0_1 x6_3).f1) _ _ ((rd_T125 l1_1 x6_3).f1) false _ ?side1 ?side2 ?side3 ?side4 A43.out).mono ?_); (case side1 => exact Kd.C_below HR481_1.out q32_1); (case side2 => exact HC481_1.out); (case side3 => exact Kd.C_below HR483_1.out q32_1); (case side4 => exact HC483_1.out); rintro e w' ⟨rfl, ⟨nd, rfl⟩⟩; (try first | exact ⟨rfl, _, World.drewN_drewN _ _ _⟩ | exact ⟨rfl, _, Eq.trans (World.drewN_drewN _ _ _) (congrArg (World.drewN _) (Nat.add_assoc _ _ _))⟩))))
               go_meet
               case rel => exact ⟨_, (true), q32_25, H', ⟨q32_24⟩, ⟨q32_11⟩, ⟨q32_12⟩, ⟨q32_13⟩, ⟨q32_6⟩, ⟨q32_1⟩⟩
             ·rw [if_neg c42] at H
              have c42b0 : (((rd_T125 l0_1 x6_3).f0).toList == ((rd_T125 l1_1 x6_3).f0).toList) = false := beq_eq_false_iff_ne.mpr c42
              have c42b1 : (((rd_T125 l0_1 x6_3).f0).toList != ((rd_T125 l1_1 x6_3).f0).toList) = true := bne_iff_ne.mpr c42
              skip
              have H' := Aside0.mk H
              clear H
              have hnb60 := NB482_477.out
              have hnc60 := NB477_482.out
              have hnb61 := NB482_478.out
              have hnc61 := NB478_482.out
              have hnb62 := NB482_484.out
              have hnc62 := NB484_482.out
              obtain ⟨hcz63_0, hcz63_1, hcz63_2⟩ := ck3 BK482.out
              obtain ⟨hfz63_0, hfz63_1, hfz63_2⟩ := fk3 BK482.out
              have hnb64 := NB484_477.out
              have hnc64 := NB477_484.out
              have hnb65 := NB484_478.out
              have hnc65 := NB478_484.out
              obtain ⟨hcz66_0, hcz66_1, hcz66_2⟩ := ck3 BK484.out
              obtain ⟨hfz66_0, hfz66_1, hfz66_2⟩ := fk3 BK484.out
              go_wp2
              repeat (go_quiet (fail); try go_wp2)
              go_meet
              case rel => exact ⟨_, (true), q32_25, H', ⟨q32_24⟩, ⟨q32_11⟩, ⟨q32_12⟩, ⟨q32_13⟩, ⟨q32_6⟩, ⟨q32_1⟩⟩
            case rest =>
             clear HC29; (try clear c1); (try clear c2); (try clear p2); (try clear c3); (try clear c4); (try clear p4); (try clear q4); (try clear hx4); (try clear c5); (try clear c6); (try clear c6b0); (try clear c6b1); (try clear c6b2); (try clear p6); (try clear c7); (try clear c10); (try clear c13); (try clear c14); (try clear c14b0); (try clear c15); (try clear c15b0); (try clear c16); (try clear c16b0); (try clear c17); (try clear c17b0); (try clear c18); (try clear c21); (try clear c24); (try clear c26); (try clear c26b0); (try clear c27); (try clear c27b0); (try clear c28); (try clear c28b0); (try clear c30); (try clear c32); (try clear c33); (try clear c34); (try clear c38); (try clear c39); (try clear c40); (try clear c42); (try clear c42b0); (try clear c42b1); (try clear c44); (try clear c46); (try clear c47); (try clear p47); (try clear q47); (try clear hx47); (try clear c48); (try clear p48); (try clear q48); (try clear hx48); (try clear c50); (try clear c51); (try clear c53); (try clear c54); (try clear c55); (try clear c57); (try clear c58); (try clear c60); (try clear c61); (try clear c62); (try clear c64); (try clear p64); (try clear c65); (try clear hcz11_0); (try clear hcz11_1); (try clear hcz12_0); (try clear hcz12_1); (try clear hcz19_0); (try clear hcz19_1); (try clear hcz20_0); (try clear hcz20_1); (try clear hcz22_0); (try clear hcz22_1); (try clear hcz23_0); (try clear hcz23_1); (try clear hcz25_0); (try clear hcz25_1); (try clear hcz31_0); (try clear hcz31_1); (try clear hcz35_0); (try clear hcz35_1); (try clear hcz35_2); (try clear hcz36_0); (try clear hcz36_1); (try clear hcz41_0); (try clear hcz41_1); (try clear hcz41_2); (try clear hcz49_0); (try clear hcz49_1); (try clear hcz49_2); (try clear hcz52_0); (try clear hcz52_1); (try clear hcz52_2); (try clear hcz56_0); (try clear hcz56_1); (try clear hcz56_2); (try clear hcz59_0); (try clear hcz59_1); (try clear hcz59_2); (try clear hcz63_0); (try clear hcz63_1); (try clear hcz63_2); (try clear hcz66_0); (try clear hcz66_1); (try clear hcz66_2); (try clear hcz8_0); (try clear hcz8_1); (try clear hcz9_0); (try clear hcz9_1); (try clear hfz11_0); (try clear hfz11_1); (try clear hfz12_0); (try clear hfz12_1); (try clear hfz19_0); (try clear hfz19_1); (try clear hfz20_0); (try clear hfz20_1); (try clear hfz22_0); (try clear hfz22_1); (try clear hfz23_0); (try clear hfz23_1); (try clear hfz25_0); (try clear hfz25_1); (try clear hfz31_0); (try clear hfz31_1); (try clear hfz35_0); (try clear hfz35_1); (try clear hfz35_2); (try clear hfz36_0); (try clear hfz36_1); (try clear hfz41_0); (try clear hfz41_1); (try clear hfz41_2); (try clear hfz49_0); (try clear hfz49_1); (try clear hfz49_2); (try clear hfz52_0); (try clear hfz52_1); (try clear hfz52_2); (try clear hfz56_0); (try clear hfz56_1); (try clear hfz56_2); (try clear hfz59_0); (try clear hfz59_1); (try clear hfz59_2); (try clear hfz63_0); (try clear hfz63_1); (try clear hfz63_2); (try clear hfz66_0); (try clear hfz66_1); (try clear hfz66_2); (try clear hfz8_0); (try clear hfz8_1); (try clear hfz9_0); (try clear hfz9_1); (try clear hx479_0); (try clear hx479_1); (try clear hx480_0); (try clear hx480_1); (try clear hx481_0); (try clear hx481_1); (try clear hx481_2); (try clear hx483_0); (try clear hx483_1); (try clear hx483_2); (try clear p2); (try clear p4); (try clear p479); (try clear p480); (try clear p481); (try clear p483); (try clear p6); (try clear q4); (try clear q479); (try clear q480); (try clear q481); (try clear q483)
             obtain ⟨kq, x80_28, rfl, HA, HJ28, BK477, BK478, BK482, BK484, HB⟩ := hcut
             cases kq with
             | zero => exact absurd HA.out (by simp [dowelbook_Grammars.j3])
             | succ kj28 =>
              have H := HA.out
              clear HA
              simp only [dowelbook_Grammars.j3] at H
              by_cases c67 : x80_28 = true
              ·subst c67
               have H1 : (some false) = some r := by rw [if_pos rfl] at H; exact H
               clear H
               have H := H1
               clear H1
               obtain rfl := Option.some.inj H
               go_wp2
               skip
               go_ret
               exact ⟨q32_23, HB.out⟩
              ·replace c67 := Bool.eq_false_iff.mpr c67
               subst c67
               have H1 : (dowelbook_Grammars.l1 kj28 (wrap64 (x6_3 + 1)) l0_0 l0_1 l1_0 l1_1) = some r := by rw [if_neg (show ¬ (false = true) by decide)] at H; exact H
               clear H
               have H := H1
               clear H1
               have H' := Aside0.mk H
               clear H
               go_wp2
               skip
               go_roundg kj28
               case measure => have := HJ2.out; have := HK2.out; have := HK3.out; have := HJ28.out; omega
               case rel => exact ⟨(wrap64 (x6_3 + 1)), rfl, H', ⟨by have := HJ2.out; have := HK2.out; have := HK3.out; have := HJ28.out; omega⟩, BK477, BK478, HB⟩
           ·rw [if_neg c28] at H
            exact absurd H (by simp)
          ·rw [if_neg c27] at H
           exact absurd H (by simp)
         ·rw [if_neg c26] at H
          have c26b0 : decide (x6_3 < (l0_1.length : Int)) = false := decide_eq_false c26
          clear c26
          obtain rfl := Option.some.inj H
          have hnb68 := NB477_478.out
          have hnc68 := NB478_477.out
          obtain ⟨hcz69_0, hcz69_1⟩ := ck2 BK477.out
          obtain ⟨hfz69_0, hfz69_1⟩ := fk2 BK477.out
          go_wp2
          skip
          go_ret
          exact ⟨q32_23, HB.out⟩
end Go.Proofs.Ytebiogaacikphaa.PAll
end
