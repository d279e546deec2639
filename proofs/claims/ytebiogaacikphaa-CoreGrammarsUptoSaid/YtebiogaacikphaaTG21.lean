/- Parts of the proof of coreGrammars: PAllx30. No condition beyond each lemma's own. -/
import Derived.Test.YtebiogaacikphaaTG4
import Derived.Test.YtebiogaacikphaaTG5
import Derived.Test.YtebiogaacikphaaTG6
import Derived.Test.YtebiogaacikphaaTG12
import Derived.Test.YtebiogaacikphaaTG20
section
namespace Go.Proofs.Ytebiogaacikphaa.PAll
open Go.RowKit Go.Proofs.YtebiogaacikphaaW.PrintWords Go.Proofs.YtebiogaacikphaaW.PrintLast Go.Proofs.YtebiogaacikphaaW.PrintMore
attribute [local go_sem] max2_int max_two
set_option linter.unusedVariables false
set_option linter.unusedSimpArgs false
theorem q30_17 {p : Prop} (h : p := by first | rfl | (simp; done) | (simp [*]; done)) : p := h
theorem q30_16 {p : Prop} (h : p := by (with_reducible repeat (first | apply Kd.R_alloc | apply Kd.R_drewN | apply Kd.R_drew)); exact HO_6.out) : p := h
theorem q30_15 {p : Prop} (h : p := by (with_reducible repeat (first | apply Kd.S_alloc | apply Kd.S_drewN | apply Kd.S_drew)); exact HO_451001.out) : p := h
theorem q30_14 {p : Prop} (h : p := by first | rfl | (simp [errW_none, errW_some] <;> rfl) | (simp [*, errW_none, errW_some] <;> rfl)) : p := h
theorem q30_13 {p : Prop} (h : p := by repeat (first | (with_reducible first | exact HB.out | apply below_alloc | apply pw_below_drewN | apply below_drew1) | exact HB.out)) : p := h
theorem q30_12 {p : Prop} (h : p := by repeat (first | (with_reducible first | exact HB.out | apply below_alloc | apply pw_below_drewN | apply below_drew1 | refine below_set ?_ GE446.out) | exact HB.out)) : p := h
theorem q30_11 {p : Prop} (h : p := by first | exact Kd.S_nil _ _ _ _ _ | exact Kd.N_nil _ _ _ _ _ | exact Kd.V_nil _ _ _ _ _ | exact Kd.Q_nil _ _ _ _ _ | exact Kd.R_nil _ _ _ _ _) : p := h
theorem q30_10 {p : Prop} (h : p := by first | (with_reducible assumption) | assumption) : p := h
theorem q30_9 {p : Prop} (h : p := by first | exact Kd.R_nil _ _ _ _ _ | exact Kd.N_nil _ _ _ _ _ | exact Kd.V_nil _ _ _ _ _ | exact Kd.Q_nil _ _ _ _ _ | exact Kd.S_nil _ _ _ _ _) : p := h
theorem q30_8 {p : Prop} (h : p := by (with_reducible repeat (first | refine blk_drewN ?_ _ | refine blk_drew ?_ | refine blk_alloc ?_ _)); exact BK450.out) : p := h
theorem q30_7 {p : Prop} (h : p := by rw [hg]; exact Nat.ne_of_gt (blk_lt (g := gb446) (o := .cells #[.slice A0_0 l0_0.length c0_0, .int .i64 a0_1] 24 (0, 0)) (by (with_reducible repeat (first | refine blk_drewN ?_ _ | refine blk_drew ?_ | refine blk_alloc ?_ _)); exact BK446.out))) : p := h
theorem q30_6 {p : Prop} (h : p := by rw [hg]; exact Nat.ne_of_lt (blk_lt (g := gb446) (o := .cells #[.slice A0_0 l0_0.length c0_0, .int .i64 a0_1] 24 (0, 0)) (by (with_reducible repeat (first | refine blk_drewN ?_ _ | refine blk_drew ?_ | refine blk_alloc ?_ _)); exact BK446.out))) : p := h
theorem q30_5 {p : Prop} (h : p := by (try simp only [List.map_toArray, List.map_cons, List.map_nil]); first | done | rfl | (simp only [List.length_drop, List.length_take]; rfl)) : p := h
theorem q30_4 {p : Prop} (h : p := by repeat (first | (with_reducible first | exact HB.out | apply below_alloc | apply pw_below_drewN | apply below_drew1 | refine below_set ?_ GE446.out | refine below_set ?_ GE447.out) | exact HB.out)) : p := h
theorem q30_3 {p : Prop} (h : p := by (with_reducible repeat (first | refine blk_drewN ?_ _ | refine blk_drew ?_ | refine blk_alloc ?_ _)); exact BK447.out) : p := h
theorem q30_2 {p : Prop} (h : p := by (with_reducible repeat (first | refine blk_drewN ?_ _ | refine blk_drew ?_ | refine blk_alloc ?_ _)); refine blk_put (cs := #[.slice none 0 0, .slice none 0 0]) ?_ 1 _ rfl; (with_reducible repeat (first | refine blk_drewN ?_ _ | refine blk_drew ?_ | refine blk_alloc ?_ _)); refine blk_put (cs := #[.slice none 0 0, .slice none 0 0]) ?_ 0 _ rfl; (with_reducible repeat (first | refine blk_drewN ?_ _ | refine blk_drew ?_ | refine blk_alloc ?_ _)); exact BK447.out) : p := h
theorem q30_1 {p : Prop} (h : p := by (with_reducible repeat (first | refine blk_drewN ?_ _ | refine blk_drew ?_ | refine blk_alloc ?_ _)); exact BK446.out) : p := h
theorem q30_0 {p : Prop} (h : p := by repeat (first | (with_reducible first | exact HB.out | apply below_alloc | apply pw_below_drewN | apply below_drew1 | refine below_set ?_ GE446.out | refine below_set ?_ GE447.out | refine below_set ?_ GE450.out) | exact HB.out)) : p := h
mutual
def dowelref09_Grammar.l0 : Nat → Int → List (S30) → Int → List (S125) → Option ((List (S129)) × (List (S125)) × Int)
 | 0, _, _, _, _ => none
 | k + 1, x5, x447000, x447001, x451001 => if x5 < (x447000.length : Int) then (if 0 ≤ x5 then ((dowelref09_Nest.f k ((rd_T30 x447000 x5).f1)).bind fun t452 => (if t452 > 100 then (some (([] : List (S129)), ([] : List (S125)), 3)) else (dowelref09_Grammar.l1 k x5 ([] : List (S122)) 0 x447000 x447001 x451001))) else (none)) else (some (([] : List (S129)), x451001, 0))
def dowelref09_Grammar.l1 : Nat → Int → List (S122) → Int → List (S30) → Int → List (S125) → Option ((List (S129)) × (List (S125)) × Int)
 | 0, _, _, _, _, _, _ => none
 | k + 1, x5, x6, x7, x447000, x447001, x451001 => if 0 ≤ x5 then (if x5 < (x447000.length : Int) then (if x7 < (((rd_T30 x447000 x5).f1).length : Int) then (if 0 ≤ x7 then ((dowelref09_surface.f x447000 x447001 ((rd_T90 ((rd_T30 x447000 x5).f1) x7).f0) ((rd_T90 ((rd_T30 x447000 x5).f1) x7).f1.f0) ((rd_T90 ((rd_T30 x447000 x5).f1) x7).f1.f1) ((rd_T90 ((rd_T30 x447000 x5).f1) x7).f1.f2) ((rd_T90 ((rd_T30 x447000 x5).f1) x7).f1.f3) ((rd_T90 ((rd_T30 x447000 x5).f1) x7).f2) ((rd_T90 ((rd_T30 x447000 x5).f1) x7).f3)).bind fun bt456 => (if x6.length < 1599289640401 then (dowelref09_Grammar.l1 k x5 (x6 ++ [(⟨bt456.1, bt456.2.1, bt456.2.2.1, bt456.2.2.2.1, (⟨bt456.2.2.2.2.1, bt456.2.2.2.2.2.1, bt456.2.2.2.2.2.2.1, bt456.2.2.2.2.2.2.2.1⟩ : S76), bt456.2.2.2.2.2.2.2.2.1, bt456.2.2.2.2.2.2.2.2.2⟩ : S122)]) (wrap64 (x7 + 1)) x447000 x447001 x451001) else (none))) else (none)) else (if x451001.length < 2199023255552 then (dowelref09_Grammar.l0 k (wrap64 (x5 + 1)) x447000 x447001 (x451001 ++ [(⟨(rd_T30 x447000 x5).f0, ([] : List ByteArray), x6⟩ : S125)])) else (none))) else (none)) else (none)
end
def dowelref09_Grammar.f (k : Nat) (l0_0 : List (S30)) (a0_1 : Int) : Option ((List (S129)) × (List (S125)) × Int) := (dowelref09_Check.f k l0_0 a0_1).bind fun t448 => (if t448 = 0 then ((dowelref09_Size.f k l0_0 a0_1).bind fun t449 => (if t449 > 4096 then (some (([] : List (S129)), ([] : List (S125)), 52)) else (dowelref09_Grammar.l0 k 0 l0_0 a0_1 ([] : List (S125))))) else (some (([] : List (S129)), ([] : List (S125)), 6)))
theorem dowelref09_Grammar.mono_l : ∀ k, (∀ y0 y1 y2 y3, LeO (dowelref09_Grammar.l0 k y0 y1 y2 y3) (dowelref09_Grammar.l0 (k + 1) y0 y1 y2 y3)) ∧ (∀ y0 y1 y2 y3 y4 y5, LeO (dowelref09_Grammar.l1 k y0 y1 y2 y3 y4 y5) (dowelref09_Grammar.l1 (k + 1) y0 y1 y2 y3 y4 y5))
 | 0 => ⟨fun _ _ _ _ r h => by simp [dowelref09_Grammar.l0] at h, fun _ _ _ _ _ _ r h => by simp [dowelref09_Grammar.l1] at h⟩
 | k + 1 => by
  obtain ⟨ih0, ih1⟩ := dowelref09_Grammar.mono_l k
  refine ⟨?_, ?_⟩
  ·intro y0 y1 y2 y3
   unfold dowelref09_Grammar.l0
   repeat' first
   | (with_reducible exact ih0 _ _ _ _)
   | (with_reducible exact ih1 _ _ _ _ _ _)
   | (with_reducible exact dowelref09_Check.mono _ _ _)
   | (with_reducible exact dowelref09_Nest.mono _ _)
   | (with_reducible exact dowelref09_Size.mono _ _ _)
   | (with_reducible exact LeO.refl _)
   | (with_reducible exact LeO.none _)
   | (with_reducible refine LeO.ite ?_ ?_)
   | (with_reducible refine LeO.bind ?_ (fun _ => ?_))
   | exact ih0 _ _ _ _
   | exact ih1 _ _ _ _ _ _
   | exact dowelref09_Check.mono _ _ _
   | exact dowelref09_Nest.mono _ _
   | exact dowelref09_Size.mono _ _ _
   | exact LeO.none _
   | refine LeO.ite ?_ ?_
   | refine LeO.bind ?_ (fun _ => ?_)
  ·intro y0 y1 y2 y3 y4 y5
   unfold dowelref09_Grammar.l1
   repeat' first
   | (with_reducible exact ih0 _ _ _ _)
   | (with_reducible exact ih1 _ _ _ _ _ _)
   | (with_reducible exact dowelref09_Check.mono _ _ _)
   | (with_reducible exact dowelref09_Nest.mono _ _)
   | (with_reducible exact dowelref09_Size.mono _ _ _)
   | (with_reducible exact LeO.refl _)
   | (with_reducible exact LeO.none _)
   | (with_reducible refine LeO.ite ?_ ?_)
   | (with_reducible refine LeO.bind ?_ (fun _ => ?_))
   | exact ih0 _ _ _ _
   | exact ih1 _ _ _ _ _ _
   | exact dowelref09_Check.mono _ _ _
   | exact dowelref09_Nest.mono _ _
   | exact dowelref09_Size.mono _ _ _
   | exact LeO.none _
   | refine LeO.ite ?_ ?_
   | refine LeO.bind ?_ (fun _ => ?_)
theorem dowelref09_Grammar.mono : ∀ a0 a1 k, LeO (dowelref09_Grammar.f k a0 a1) (dowelref09_Grammar.f (k + 1) a0 a1) := by
 intro a0 a1 k
 obtain ⟨ih0, ih1⟩ := dowelref09_Grammar.mono_l k
 unfold dowelref09_Grammar.f
 repeat' first
   | (with_reducible exact ih0 _ _ _ _)
   | (with_reducible exact ih1 _ _ _ _ _ _)
   | (with_reducible exact dowelref09_Check.mono _ _ _)
   | (with_reducible exact dowelref09_Nest.mono _ _)
   | (with_reducible exact dowelref09_Size.mono _ _ _)
   | (with_reducible exact LeO.refl _)
   | (with_reducible exact LeO.none _)
   | (with_reducible refine LeO.ite ?_ ?_)
   | (with_reducible refine LeO.bind ?_ (fun _ => ?_))
   | exact ih0 _ _ _ _
   | exact ih1 _ _ _ _ _ _
   | exact dowelref09_Check.mono _ _ _
   | exact dowelref09_Nest.mono _ _
   | exact dowelref09_Size.mono _ _ _
   | exact LeO.none _
   | refine LeO.ite ?_ ?_
   | refine LeO.bind ?_ (fun _ => ?_)
def dowelref09_Grammar.T15 : Bool × List (List Nat × List Nat) := (true, [([], []), ([], []), ([], []), ([2], [2]), ([], []), ([3, 4], [3, 4]), ([5], [5]), ([6], [6]), ([], []), ([7, 8], [7, 8]), ([9], [9]), ([1, 10], [1, 10]), ([11], [11]), ([0, 12, 11], [0, 12]), ([13, 13, 0, 1, 2, 3, 4, 5, 6, 7, 8, 9, 10, 11, 12, 13], [0, 13])])
def dowelref09_Grammar.B15 : List Nat := [0, 0, 0, 4, 0, 28, 60, 124, 0, 508, 1020, 2046, 4094, 8191, 16383]
theorem dowelref09_Grammar.tab15 : rtab .any (opsOf Try.f31 15) = dowelref09_Grammar.T15 := by kernel_rfl
theorem dowelref09_Grammar.bits15 : waitsOk dowelref09_Grammar.T15.2 dowelref09_Grammar.B15 = true := by kernel_rfl
def dowelref09_Grammar.T16 : Bool × List (List Nat × List Nat) := (true, [([], []), ([0], [0]), ([], []), ([2], [2]), ([], []), ([3, 4], [3, 4]), ([5], [5]), ([6], [6]), ([], []), ([7, 8], [7, 8]), ([9], [9]), ([1, 10], [1, 10]), ([0, 1, 2, 3, 4, 5, 6, 7, 8, 9, 10, 11], []), ([12, 11, 11, 0, 1, 2, 3, 4, 5, 6, 7, 8, 9, 10, 11], [11, 12])])
def dowelref09_Grammar.B16 : List Nat := [0, 1, 0, 4, 0, 28, 60, 124, 0, 508, 1020, 2047, 4095, 8191]
theorem dowelref09_Grammar.tab16 : rtab .any (opsOf Try.f31 16) = dowelref09_Grammar.T16 := by kernel_rfl
theorem dowelref09_Grammar.bits16 : waitsOk dowelref09_Grammar.T16.2 dowelref09_Grammar.B16 = true := by kernel_rfl
set_option maxHeartbeats 8000000 in
set_option maxRecDepth 100000 in
theorem dowelref09_Grammar.calls (k : Nat) (A0_0 : Option Addr) (c0_0 : Nat) (l0_0 : List (S30)) (a0_1 : Int) (r1 : List (S129)) (r2 : List (S125)) (r3 : Int) (w : World) (hr0_0 : Kd.C k30 w A0_0 l0_0.length l0_0) (hc0_0 : l0_0.length ≤ c0_0) (h : dowelref09_Grammar.f k l0_0 a0_1 = some (r1, r2, r3)) :
  Calls Try.prog 31 #[.agg #[.slice A0_0 l0_0.length c0_0, .int .i64 a0_1]] w fun e w' => ∃ v0_ v1_ : Value, e = .returned (.tuple #[.agg #[v0_, v1_], .int .i64 r3]) ∧ Kd.R k129 129 w' w.heap.size (fun _ => True) v0_ r1 ∧ Kd.S k125 125 w' w.heap.size (fun _ => True) v1_ r2 ∧ Below w.heap.size w w' := by
 have hu24 := Try.underlying24
 have hu61 := Try.underlying61
 have hu90 := Try.underlying90
 have hu125 := Try.underlying125
 have HR0_0 := Aside0.mk hr0_0; have HC0_0 := Aside0.mk hc0_0; clear hr0_0 hc0_0
 have HB := Aside0.mk (Below.refl w.heap.size w)
 have H : ((dowelref09_Check.f k l0_0 a0_1).bind fun t448 => (if t448 = 0 then ((dowelref09_Size.f k l0_0 a0_1).bind fun t449 => (if t449 > 4096 then (some (([] : List (S129)), ([] : List (S125)), 52)) else (dowelref09_Grammar.l0 k 0 l0_0 a0_1 ([] : List (S125))))) else (some (([] : List (S129)), ([] : List (S125)), 6)))) = some (r1, r2, r3) := h
 clear h
 replace H := Option.bind_eq_some_iff.mp H
 obtain ⟨t448, A20, H⟩ := H
 replace H : (if t448 = 0 then ((dowelref09_Size.f k l0_0 a0_1).bind fun t449 => (if t449 > 4096 then (some (([] : List (S129)), ([] : List (S125)), 52)) else (dowelref09_Grammar.l0 k 0 l0_0 a0_1 ([] : List (S125))))) else (some (([] : List (S129)), ([] : List (S125)), 6))) = some (r1, r2, r3) := H
 have A2 := Aside0.mk A20; clear A20
 by_cases c3 : t448 = 0
 ·rw [if_pos c3] at H
  have c3b0 : (t448 == 0) = true := beq_iff_eq.mpr c3
  have c3b1 : (t448 != 0) = false := bne_eq_false_iff_eq.mpr c3
  clear c3
  replace H := Option.bind_eq_some_iff.mp H
  obtain ⟨t449, A40, H⟩ := H
  replace H : (if t449 > 4096 then (some (([] : List (S129)), ([] : List (S125)), 52)) else (dowelref09_Grammar.l0 k 0 l0_0 a0_1 ([] : List (S125)))) = some (r1, r2, r3) := H
  have A4 := Aside0.mk A40; clear A40
  by_cases c5 : t449 > 4096
  ·rw [if_pos c5] at H
   have c5b0 : decide (4096 < t449) = true := decide_eq_true c5
   clear c5
   simp only [Option.some.injEq, Prod.mk.injEq] at H
   obtain ⟨rfl, rfl, rfl⟩ := H
   go_enter Try.func31, Try.ntmps31
   go_wp2_with (first | ((with_reducible refine gate_dst (N := 1) rfl ?_); refine box_event ?hg (N := 1) ?hd (cs := #[.slice A0_0 l0_0.length c0_0, .int .i64 a0_1]) (t := 24) ?hr ?_; (case hd => rfl); (case hg => rfl); (case hr => first | (go_simp; done) | (go_simp; rfl)); intro gb446 hg w6 hbox hb; have z_ := bxk hb hg q30_13; have n0_ := Aside0.mk z_.1; have n1_ := Aside0.mk (hbox); have n2_ := Aside0.mk z_.2; have n3_ := Aside0.mk z_.2; clear z_; clear HB; have HB := n0_; have BK446 := n1_; have GW446 := n2_; have GE446 := n3_; clear n0_ n1_ n2_ n3_; clear hb hbox hg) | ((with_reducible refine gate_dst (N := 2) rfl ?_); refine box_event ?hg (N := 2) ?hd (cs := #[.slice none 0 0, .slice none 0 0]) (t := 61) ?hr ?_; (case hd => rfl); (case hg => rfl); (case hr => first | (go_simp; done) | (go_simp; rfl)); intro gb447 hg w7 hbox hb; have n0_ := Aside0.mk (blk_below (g := gb446) (o := .cells #[.slice A0_0 l0_0.length c0_0, .int .i64 a0_1] 24 (0, 0)) q30_1 hb); have z_ := bxk hb hg q30_12; have n1_ := Aside0.mk z_.1; have n2_ := Aside0.mk (hbox); have n3_ := Aside0.mk z_.2; have n4_ := Aside0.mk z_.2; clear z_; have n5_ := Aside0.mk ((q30_6 : gb446 ≠ gb447)); have n6_ := Aside0.mk ((q30_7 : gb447 ≠ gb446)); clear BK446; clear HB; have BK446 := n0_; have HB := n1_; have BK447 := n2_; have GW447 := n3_; have GE447 := n4_; have NB446_447 := n5_; have NB447_446 := n6_; clear n0_ n1_ n2_ n3_ n4_ n5_ n6_; clear hb hbox hg; have hnb8 := NB446_447.out; have hnc8 := NB447_446.out; obtain ⟨hcz9_0, hcz9_1⟩ := ck2 BK446.out; obtain ⟨hfz9_0, hfz9_1⟩ := fk2 BK446.out) | ((with_reducible refine gate_callee (f := 15) rfl ?_); refine goesL_ (some 9) rfl rfl Try.func15 (by kernel_rfl) rfl #[.agg #[.slice A0_0 l0_0.length c0_0, .int .i64 a0_1]] rfl q30_5 ?_; (with_reducible refine (dowelref09_Check.calls k _ _ l0_0 a0_1 t448 _ ?side1 ?side2 A2.out).mono ?_); (case side1 => repeat (first | exact (Kd.C_below HR0_0.out HB.out) | (with_reducible refine Kd.C_alloc ?_ _) | (with_reducible refine Kd.C_drewN ?_ _) | (with_reducible refine Kd.C_drew ?_))); (case side2 => exact HC0_0.out); rintro e w10 ⟨rfl, hb⟩; refine ⟨_, rfl, ?_⟩; have n0_ := Aside0.mk (blk_below (g := gb446) (o := .cells #[.slice A0_0 l0_0.length c0_0, .int .i64 a0_1] 24 (0, 0)) q30_1 hb); have n1_ := Aside0.mk (blk_below (g := gb447) (o := .cells #[.slice none 0 0, .slice none 0 0] 61 (0, 0)) q30_3 hb); have n2_ := Aside0.mk (below_step q30_4 hb); clear BK446; clear BK447; clear HB; have BK446 := n0_; have BK447 := n1_; have HB := n2_; clear n0_ n1_ n2_; (try clear hb); (try clear hb2); (try clear hk); (try clear hi); obtain ⟨hcz11_0, hcz11_1⟩ := ck2 BK446.out; obtain ⟨hfz11_0, hfz11_1⟩ := fk2 BK446.out) | ((with_reducible refine gate_callee (f := 17) rfl ?_); refine goesL_ (some 13) rfl rfl Try.func17 (by kernel_rfl) rfl #[.agg #[.slice A0_0 l0_0.length c0_0, .int .i64 a0_1]] rfl q30_5 ?_; (with_reducible refine (dowelref09_Size.calls k _ _ l0_0 a0_1 t449 _ ?side1 ?side2 A4.out).mono ?_); (case side1 => repeat (first | exact (Kd.C_below HR0_0.out HB.out) | (with_reducible refine Kd.C_alloc ?_ _) | (with_reducible refine Kd.C_drewN ?_ _) | (with_reducible refine Kd.C_drew ?_))); (case side2 => exact HC0_0.out); rintro e w12 ⟨rfl, hb⟩; refine ⟨_, rfl, ?_⟩; have n0_ := Aside0.mk (blk_below (g := gb446) (o := .cells #[.slice A0_0 l0_0.length c0_0, .int .i64 a0_1] 24 (0, 0)) q30_1 hb); have n1_ := Aside0.mk (blk_below (g := gb447) (o := .cells #[.slice none 0 0, .slice none 0 0] 61 (0, 0)) q30_3 hb); have n2_ := Aside0.mk (below_step q30_4 hb); clear BK446; clear BK447; clear HB; have BK446 := n0_; have BK447 := n1_; have HB := n2_; clear n0_ n1_ n2_; (try clear hb); (try clear hb2); (try clear hk); (try clear hi); obtain ⟨hcz13_0, hcz13_1⟩ := ck2 BK447.out; obtain ⟨hfz13_0, hfz13_1⟩ := fk2 BK447.out))
   refine bodyPost_ret (results_ct rfl _ _ gb447 61 #[.slice none 0 0, .slice none 0 0] (0, 0) _ rfl q30_2 Try.underlying61 rfl (by kernel_rfl)) rfl ?_
   exact ⟨_, _, q30_14, q30_9, q30_11, q30_4⟩
  ·rw [if_neg c5] at H
   have c5b0 : decide (4096 < t449) = false := decide_eq_false c5
   clear c5
   have H' := Aside0.mk H
   clear H
   go_enter Try.func31, Try.ntmps31
   go_wp2_with (first | ((with_reducible refine gate_dst (N := 1) rfl ?_); refine box_event ?hg (N := 1) ?hd (cs := #[.slice A0_0 l0_0.length c0_0, .int .i64 a0_1]) (t := 24) ?hr ?_; (case hd => rfl); (case hg => rfl); (case hr => first | (go_simp; done) | (go_simp; rfl)); intro gb446 hg w14 hbox hb; have z_ := bxk hb hg q30_13; have n0_ := Aside0.mk z_.1; have n1_ := Aside0.mk (hbox); have n2_ := Aside0.mk z_.2; have n3_ := Aside0.mk z_.2; clear z_; clear HB; have HB := n0_; have BK446 := n1_; have GW446 := n2_; have GE446 := n3_; clear n0_ n1_ n2_ n3_; clear hb hbox hg) | ((with_reducible refine gate_dst (N := 2) rfl ?_); refine box_event ?hg (N := 2) ?hd (cs := #[.slice none 0 0, .slice none 0 0]) (t := 61) ?hr ?_; (case hd => rfl); (case hg => rfl); (case hr => first | (go_simp; done) | (go_simp; rfl)); intro gb447 hg w15 hbox hb; have n0_ := Aside0.mk (blk_below (g := gb446) (o := .cells #[.slice A0_0 l0_0.length c0_0, .int .i64 a0_1] 24 (0, 0)) q30_1 hb); have z_ := bxk hb hg q30_12; have n1_ := Aside0.mk z_.1; have n2_ := Aside0.mk (hbox); have n3_ := Aside0.mk z_.2; have n4_ := Aside0.mk z_.2; clear z_; have n5_ := Aside0.mk ((q30_6 : gb446 ≠ gb447)); have n6_ := Aside0.mk ((q30_7 : gb447 ≠ gb446)); clear BK446; clear HB; have BK446 := n0_; have HB := n1_; have BK447 := n2_; have GW447 := n3_; have GE447 := n4_; have NB446_447 := n5_; have NB447_446 := n6_; clear n0_ n1_ n2_ n3_ n4_ n5_ n6_; clear hb hbox hg; have hnb16 := NB446_447.out; have hnc16 := NB447_446.out; obtain ⟨hcz17_0, hcz17_1⟩ := ck2 BK446.out; obtain ⟨hfz17_0, hfz17_1⟩ := fk2 BK446.out) | ((with_reducible refine gate_callee (f := 15) rfl ?_); refine goesL_ (some 9) rfl rfl Try.func15 (by kernel_rfl) rfl #[.agg #[.slice A0_0 l0_0.length c0_0, .int .i64 a0_1]] rfl q30_5 ?_; (with_reducible refine (dowelref09_Check.calls k _ _ l0_0 a0_1 t448 _ ?side1 ?side2 A2.out).mono ?_); (case side1 => repeat (first | exact (Kd.C_below HR0_0.out HB.out) | (with_reducible refine Kd.C_alloc ?_ _) | (with_reducible refine Kd.C_drewN ?_ _) | (with_reducible refine Kd.C_drew ?_))); (case side2 => exact HC0_0.out); rintro e w18 ⟨rfl, hb⟩; refine ⟨_, rfl, ?_⟩; have n0_ := Aside0.mk (blk_below (g := gb446) (o := .cells #[.slice A0_0 l0_0.length c0_0, .int .i64 a0_1] 24 (0, 0)) q30_1 hb); have n1_ := Aside0.mk (blk_below (g := gb447) (o := .cells #[.slice none 0 0, .slice none 0 0] 61 (0, 0)) q30_3 hb); have n2_ := Aside0.mk (below_step q30_4 hb); clear BK446; clear BK447; clear HB; have BK446 := n0_; have BK447 := n1_; have HB := n2_; clear n0_ n1_ n2_; (try clear hb); (try clear hb2); (try clear hk); (try clear hi); obtain ⟨hcz19_0, hcz19_1⟩ := ck2 BK446.out; obtain ⟨hfz19_0, hfz19_1⟩ := fk2 BK446.out) | ((with_reducible refine gate_callee (f := 17) rfl ?_); refine goesL_ (some 13) rfl rfl Try.func17 (by kernel_rfl) rfl #[.agg #[.slice A0_0 l0_0.length c0_0, .int .i64 a0_1]] rfl q30_5 ?_; (with_reducible refine (dowelref09_Size.calls k _ _ l0_0 a0_1 t449 _ ?side1 ?side2 A4.out).mono ?_); (case side1 => repeat (first | exact (Kd.C_below HR0_0.out HB.out) | (with_reducible refine Kd.C_alloc ?_ _) | (with_reducible refine Kd.C_drewN ?_ _) | (with_reducible refine Kd.C_drew ?_))); (case side2 => exact HC0_0.out); rintro e w20 ⟨rfl, hb⟩; refine ⟨_, rfl, ?_⟩; have n0_ := Aside0.mk (blk_below (g := gb446) (o := .cells #[.slice A0_0 l0_0.length c0_0, .int .i64 a0_1] 24 (0, 0)) q30_1 hb); have n1_ := Aside0.mk (blk_below (g := gb447) (o := .cells #[.slice none 0 0, .slice none 0 0] 61 (0, 0)) q30_3 hb); have n2_ := Aside0.mk (below_step q30_4 hb); clear BK446; clear BK447; clear HB; have BK446 := n0_; have BK447 := n1_; have HB := n2_; clear n0_ n1_ n2_; (try clear hb); (try clear hb2); (try clear hk); (try clear hi)) | ((with_reducible refine gate_dst (N := 4) rfl ?_); refine box_event ?hg (N := 4) ?hd (cs := #[.slice none 0 0, .slice none 0 0]) (t := 61) ?hr ?_; (case hd => rfl); (case hg => rfl); (case hr => first | (go_simp; done) | (go_simp; rfl)); intro gb450 hg w21 hbox hb; have n0_ := Aside0.mk (blk_below (g := gb446) (o := .cells #[.slice A0_0 l0_0.length c0_0, .int .i64 a0_1] 24 (0, 0)) q30_1 hb); have n1_ := Aside0.mk (blk_below (g := gb447) (o := .cells #[.slice none 0 0, .slice none 0 0] 61 (0, 0)) q30_3 hb); have z_ := bxk hb hg q30_4; have n2_ := Aside0.mk z_.1; have n3_ := Aside0.mk (hbox); have n4_ := Aside0.mk z_.2; have n5_ := Aside0.mk z_.2; clear z_; have n6_ := Aside0.mk ((q30_6 : gb446 ≠ gb450)); have n7_ := Aside0.mk ((q30_7 : gb450 ≠ gb446)); have n8_ := Aside0.mk ((by rw [hg]; exact Nat.ne_of_lt (blk_lt (g := gb447) (o := .cells #[.slice none 0 0, .slice none 0 0] 61 (0, 0)) q30_3) : gb447 ≠ gb450)); have n9_ := Aside0.mk ((by rw [hg]; exact Nat.ne_of_gt (blk_lt (g := gb447) (o := .cells #[.slice none 0 0, .slice none 0 0] 61 (0, 0)) q30_3) : gb450 ≠ gb447)); clear BK446; clear BK447; clear HB; have BK446 := n0_; have BK447 := n1_; have HB := n2_; have BK450 := n3_; have GW450 := n4_; have GE450 := n5_; have NB446_450 := n6_; have NB450_446 := n7_; have NB447_450 := n8_; have NB450_447 := n9_; clear n0_ n1_ n2_ n3_ n4_ n5_ n6_ n7_ n8_ n9_; clear hb hbox hg; have hnb22 := NB450_446.out; have hnc22 := NB446_450.out; have hnb23 := NB450_447.out; have hnc23 := NB447_450.out; obtain ⟨hcz24_0, hcz24_1⟩ := ck2 BK450.out; obtain ⟨hfz24_0, hfz24_1⟩ := fk2 BK450.out))
   go_loopg [5] k (fun kq v5 w' => ∃ (x5_1 : Int) (x451001_1 : List (S125)) (u451001 : Value), v5 = .int .i64 x5_1 ∧ Aside0 (dowelref09_Grammar.l0 kq x5_1 l0_0 a0_1 x451001_1 = some (r1, r2, r3)) ∧ Aside0 (kq ≤ k) ∧ Aside0 (Kd.S k125 125 w' w.heap.size (fun _ => True) u451001 x451001_1) ∧ Aside0 (w'.heap[gb446]? = some (.cells #[(.slice A0_0 l0_0.length c0_0), .int .i64 a0_1] 24 (0, 0))) ∧ Aside0 (w'.heap[gb447]? = some (.cells #[(.slice none 0 0), (.slice none 0 0)] 61 (0, 0))) ∧ Aside0 (w'.heap[gb450]? = some (.cells #[(.slice none 0 0), u451001] 61 (0, 0))) ∧ Aside0 (Below w.heap.size w w'))
   case atStart => exact ⟨(0), (([] : List (S125))), (.slice none 0 0), q30_17, H', ⟨Nat.le_refl _⟩, ⟨q30_11⟩, ⟨by (with_reducible repeat (first | refine blk_drewN ?_ _ | refine blk_drew ?_ | refine blk_alloc ?_ _)); refine blk_far ?_ NB446_450.out _; (with_reducible repeat (first | refine blk_drewN ?_ _ | refine blk_drew ?_ | refine blk_alloc ?_ _)); refine blk_far ?_ NB446_450.out _; (with_reducible repeat (first | refine blk_drewN ?_ _ | refine blk_drew ?_ | refine blk_alloc ?_ _)); exact BK446.out⟩, ⟨by (with_reducible repeat (first | refine blk_drewN ?_ _ | refine blk_drew ?_ | refine blk_alloc ?_ _)); refine blk_far ?_ NB447_450.out _; (with_reducible repeat (first | refine blk_drewN ?_ _ | refine blk_drew ?_ | refine blk_alloc ?_ _)); refine blk_far ?_ NB447_450.out _; (with_reducible repeat (first | refine blk_drewN ?_ _ | refine blk_drew ?_ | refine blk_alloc ?_ _)); exact BK447.out⟩, ⟨by (with_reducible repeat (first | refine blk_drewN ?_ _ | refine blk_drew ?_ | refine blk_alloc ?_ _)); refine blk_put (cs := #[.slice none 0 0, .slice none 0 0]) ?_ 1 _ rfl; (with_reducible repeat (first | refine blk_drewN ?_ _ | refine blk_drew ?_ | refine blk_alloc ?_ _)); refine blk_put (cs := #[.slice none 0 0, .slice none 0 0]) ?_ 0 _ rfl; (with_reducible repeat (first | refine blk_drewN ?_ _ | refine blk_drew ?_ | refine blk_alloc ?_ _)); exact BK450.out⟩, ⟨q30_0⟩⟩
   case round =>
    clear H'; (try clear c1); (try clear c2); (try clear p2); (try clear c3); (try clear c3b0); (try clear c3b1); (try clear c5); (try clear c5b0); (try clear c8); (try clear c15); (try clear c16); (try clear c17); (try clear c22); (try clear c23); (try clear hcz11_0); (try clear hcz11_1); (try clear hcz13_0); (try clear hcz13_1); (try clear hcz17_0); (try clear hcz17_1); (try clear hcz19_0); (try clear hcz19_1); (try clear hcz24_0); (try clear hcz24_1); (try clear hcz9_0); (try clear hcz9_1); (try clear hfz11_0); (try clear hfz11_1); (try clear hfz13_0); (try clear hfz13_1); (try clear hfz17_0); (try clear hfz17_1); (try clear hfz19_0); (try clear hfz19_1); (try clear hfz24_0); (try clear hfz24_1); (try clear hfz9_0); (try clear hfz9_1)
    obtain ⟨x5_1, x451001_1, u451001, rfl, HA, HK1, HO_451001, BK446, BK447, BK450, HB⟩ := hrel
    cases gk with
    | zero => exact absurd HA.out (by simp [dowelref09_Grammar.l0])
    | succ k1 =>
     have H := HA.out
     clear HA
     simp only [dowelref09_Grammar.l0] at H
     by_cases c25 : x5_1 < (l0_0.length : Int)
     ·rw [if_pos c25] at H
      have c25b0 : decide (x5_1 < (l0_0.length : Int)) = true := decide_eq_true c25
      clear c25
      by_cases c26 : 0 ≤ x5_1
      ·rw [if_pos c26] at H
       have c26b0 : decide (0 ≤ x5_1) = true := decide_eq_true c26
       clear c26
       replace H := Option.bind_eq_some_iff.mp H
       obtain ⟨t452, A270, H⟩ := H
       replace H : (if t452 > 100 then (some (([] : List (S129)), ([] : List (S125)), 3)) else (dowelref09_Grammar.l1 k1 x5_1 ([] : List (S122)) 0 l0_0 a0_1 x451001_1)) = some (r1, r2, r3) := H
       have A27 := Aside0.mk A270; clear A270
       by_cases c28 : t452 > 100
       ·rw [if_pos c28] at H
        have c28b0 : decide (100 < t452) = true := decide_eq_true c28
        clear c28
        simp only [Option.some.injEq, Prod.mk.injEq] at H
        obtain ⟨rfl, rfl, rfl⟩ := H
        have hnb29 := NB446_447.out
        have hnc29 := NB447_446.out
        have hnb30 := NB446_450.out
        have hnc30 := NB450_446.out
        obtain ⟨hcz31_0, hcz31_1⟩ := ck2 BK446.out
        obtain ⟨hfz31_0, hfz31_1⟩ := fk2 BK446.out
        have p451 : 0 ≤ (x5_1 : Int) := of_decide_eq_true q30_10
        have q451 : x5_1 < (l0_0.length : Int) := of_decide_eq_true q30_10
        obtain ⟨ad451, A451_1, c451_1, e451, hx451_0, hx451_1, hl451_1, hi451_1⟩ := at_T30 HR0_0.out x5_1 p451 q451
        cases e451
        replace hx451_0 := (HB.out.cell (World.block_lt_of_cell? w _ hx451_0)).trans hx451_0
        replace hx451_1 := (HB.out.cell (World.block_lt_of_cell? w _ hx451_1)).trans hx451_1
        have HR451_1 := Aside0.mk hi451_1; have HC451_1 := Aside0.mk hl451_1; clear hi451_1 hl451_1
        replace p451 := eq_true p451
        replace q451 := eq_true q451
        go_wp2_with (first | ((with_reducible refine gate_callee (f := 65) rfl ?_); refine goesL_ (some 30) rfl rfl Try.func65 (by kernel_rfl) rfl #[.slice A451_1 ((rd_T30 l0_0 x5_1).f1).length c451_1] rfl q30_5 ?_; (with_reducible refine (dowelref09_Nest.calls k1 _ _ ((rd_T30 l0_0 x5_1).f1) t452 _ ?side1 ?side2 A27.out).mono ?_); (case side1 => repeat (first | exact (Kd.C_below HR451_1.out HB.out) | (with_reducible refine Kd.C_alloc ?_ _) | (with_reducible refine Kd.C_drewN ?_ _) | (with_reducible refine Kd.C_drew ?_))); (case side2 => exact HC451_1.out); rintro e w32 ⟨rfl, hb⟩; refine ⟨_, rfl, ?_⟩; have n0_ := Aside0.mk (Kd.S_below q30_15 hb); have n1_ := Aside0.mk (blk_below (g := gb446) (o := .cells #[.slice (some ad451) l0_0.length c0_0, .int .i64 a0_1] 24 (0, 0)) q30_1 hb); have n2_ := Aside0.mk (blk_below (g := gb447) (o := .cells #[.slice none 0 0, .slice none 0 0] 61 (0, 0)) q30_3 hb); have n3_ := Aside0.mk (blk_below (g := gb450) (o := .cells #[.slice none 0 0, u451001] 61 (0, 0)) q30_8 hb); have n4_ := Aside0.mk (below_step q30_0 hb); clear HO_451001; clear BK446; clear BK447; clear BK450; clear HB; have HO_451001 := n0_; have BK446 := n1_; have BK447 := n2_; have BK450 := n3_; have HB := n4_; clear n0_ n1_ n2_ n3_ n4_; (try clear hb); (try clear hb2); (try clear hk); (try clear hi); have hnb33 := NB447_450.out; have hnc33 := NB450_447.out; obtain ⟨hcz34_0, hcz34_1⟩ := ck2 BK447.out; obtain ⟨hfz34_0, hfz34_1⟩ := fk2 BK447.out))
        refine bodyPost_ret (results_ct rfl _ _ gb447 61 #[.slice none 0 0, .slice none 0 0] (0, 0) _ rfl q30_2 Try.underlying61 rfl (by kernel_rfl)) rfl ?_
        exact ⟨_, _, q30_14, q30_9, q30_11, q30_0⟩
       ·rw [if_neg c28] at H
        have c28b0 : decide (100 < t452) = false := decide_eq_false c28
        clear c28
        have H' := Aside0.mk H
        clear H
        have hnb35 := NB446_447.out
        have hnc35 := NB447_446.out
        have hnb36 := NB446_450.out
        have hnc36 := NB450_446.out
        obtain ⟨hcz37_0, hcz37_1⟩ := ck2 BK446.out
        obtain ⟨hfz37_0, hfz37_1⟩ := fk2 BK446.out
        have p451 : 0 ≤ (x5_1 : Int) := of_decide_eq_true q30_10
        have q451 : x5_1 < (l0_0.length : Int) := of_decide_eq_true q30_10
        obtain ⟨ad451, A451_1, c451_1, e451, hx451_0, hx451_1, hl451_1, hi451_1⟩ := at_T30 HR0_0.out x5_1 p451 q451
        cases e451
        replace hx451_0 := (HB.out.cell (World.block_lt_of_cell? w _ hx451_0)).trans hx451_0
        replace hx451_1 := (HB.out.cell (World.block_lt_of_cell? w _ hx451_1)).trans hx451_1
        have HR451_1 := Aside0.mk hi451_1; have HC451_1 := Aside0.mk hl451_1; clear hi451_1 hl451_1
        replace p451 := eq_true p451
        replace q451 := eq_true q451
        go_wp2_with (first | ((with_reducible refine gate_callee (f := 65) rfl ?_); refine goesL_ (some 30) rfl rfl Try.func65 (by kernel_rfl) rfl #[.slice A451_1 ((rd_T30 l0_0 x5_1).f1).length c451_1] rfl q30_5 ?_; (with_reducible refine (dowelref09_Nest.calls k1 _ _ ((rd_T30 l0_0 x5_1).f1) t452 _ ?side1 ?side2 A27.out).mono ?_); (case side1 => repeat (first | exact (Kd.C_below HR451_1.out HB.out) | (with_reducible refine Kd.C_alloc ?_ _) | (with_reducible refine Kd.C_drewN ?_ _) | (with_reducible refine Kd.C_drew ?_))); (case side2 => exact HC451_1.out); rintro e w38 ⟨rfl, hb⟩; refine ⟨_, rfl, ?_⟩; have n0_ := Aside0.mk (Kd.S_below q30_15 hb); have n1_ := Aside0.mk (blk_below (g := gb446) (o := .cells #[.slice (some ad451) l0_0.length c0_0, .int .i64 a0_1] 24 (0, 0)) q30_1 hb); have n2_ := Aside0.mk (blk_below (g := gb447) (o := .cells #[.slice none 0 0, .slice none 0 0] 61 (0, 0)) q30_3 hb); have n3_ := Aside0.mk (blk_below (g := gb450) (o := .cells #[.slice none 0 0, u451001] 61 (0, 0)) q30_8 hb); have n4_ := Aside0.mk (below_step q30_0 hb); clear HO_451001; clear BK446; clear BK447; clear BK450; clear HB; have HO_451001 := n0_; have BK446 := n1_; have BK447 := n2_; have BK450 := n3_; have HB := n4_; clear n0_ n1_ n2_ n3_ n4_; (try clear hb); (try clear hb2); (try clear hk); (try clear hi)))
        go_loopg [6, 7] k1 (fun kq v6 v7 w' => ∃ (x6_2 : List (S122)) (x7_2 : Int), v7 = .int .i64 x7_2 ∧ Aside0 (dowelref09_Grammar.l1 kq x5_1 x6_2 x7_2 l0_0 a0_1 x451001_1 = some (r1, r2, r3)) ∧ Aside0 (kq ≤ k1) ∧ Aside0 (Kd.R k122 122 w' w.heap.size (fun _ => True) v6 x6_2) ∧ Aside0 (Kd.S k125 125 w' w.heap.size (fun k_ => some k_ ≠ (v6 : Value).ownBlock) u451001 x451001_1) ∧ Aside0 (w'.heap[gb446]? = some (.cells #[(.slice (some ad451) l0_0.length c0_0), .int .i64 a0_1] 24 (0, 0))) ∧ Aside0 (w'.heap[gb447]? = some (.cells #[(.slice none 0 0), (.slice none 0 0)] 61 (0, 0))) ∧ Aside0 (w'.heap[gb450]? = some (.cells #[(.slice none 0 0), u451001] 61 (0, 0))) ∧ Aside0 (Below w.heap.size w w'))
        case atStart => exact ⟨(([] : List (S122))), (0), q30_17, H', ⟨Nat.le_refl _⟩, ⟨q30_9⟩, ⟨by (with_reducible repeat (first | apply Kd.S_alloc | apply Kd.S_drewN | apply Kd.S_drew)); exact Kd.S_mono HO_451001.out (fun _ hk => (by simp [Value.ownBlock]))⟩, ⟨q30_1⟩, ⟨q30_3⟩, ⟨q30_8⟩, ⟨q30_0⟩⟩
        case round =>
         clear H'; (try clear c1); (try clear c2); (try clear p2); (try clear c3); (try clear c3b0); (try clear c3b1); (try clear c4); (try clear p4); (try clear q4); (try clear hx4); (try clear c5); (try clear c5b0); (try clear c6); (try clear c8); (try clear c15); (try clear c16); (try clear c17); (try clear c22); (try clear c23); (try clear c25); (try clear c25b0); (try clear c26); (try clear c26b0); (try clear c28); (try clear c28b0); (try clear c29); (try clear c30); (try clear c31); (try clear c33); (try clear c35); (try clear c36); (try clear hcz11_0); (try clear hcz11_1); (try clear hcz13_0); (try clear hcz13_1); (try clear hcz17_0); (try clear hcz17_1); (try clear hcz19_0); (try clear hcz19_1); (try clear hcz24_0); (try clear hcz24_1); (try clear hcz31_0); (try clear hcz31_1); (try clear hcz34_0); (try clear hcz34_1); (try clear hcz37_0); (try clear hcz37_1); (try clear hcz9_0); (try clear hcz9_1); (try clear hfz11_0); (try clear hfz11_1); (try clear hfz13_0); (try clear hfz13_1); (try clear hfz17_0); (try clear hfz17_1); (try clear hfz19_0); (try clear hfz19_1); (try clear hfz24_0); (try clear hfz24_1); (try clear hfz31_0); (try clear hfz31_1); (try clear hfz34_0); (try clear hfz34_1); (try clear hfz37_0); (try clear hfz37_1); (try clear hfz9_0); (try clear hfz9_1); (try clear hx451_0); (try clear hx451_1); (try clear p2); (try clear p451); (try clear q451)
         obtain ⟨x6_2, x7_2, rfl, HA, HK2, HO_6, HO_451001, BK446, BK447, BK450, HB⟩ := hrel
         cases gk with
         | zero => exact absurd HA.out (by simp [dowelref09_Grammar.l1])
         | succ k2 =>
          have H := HA.out
          clear HA
          simp only [dowelref09_Grammar.l1] at H
          by_cases c39 : 0 ≤ x5_1
          ·rw [if_pos c39] at H
           have c39b0 : decide (0 ≤ x5_1) = true := decide_eq_true c39
           clear c39
           by_cases c40 : x5_1 < (l0_0.length : Int)
           ·rw [if_pos c40] at H
            have c40b0 : decide (x5_1 < (l0_0.length : Int)) = true := decide_eq_true c40
            clear c40
            by_cases c41 : x7_2 < (((rd_T30 l0_0 x5_1).f1).length : Int)
            ·rw [if_pos c41] at H
             have c41b0 : decide (x7_2 < (((rd_T30 l0_0 x5_1).f1).length : Int)) = true := decide_eq_true c41
             clear c41
             by_cases c42 : 0 ≤ x7_2
             ·rw [if_pos c42] at H
              have c42b0 : decide (0 ≤ x7_2) = true := decide_eq_true c42
              clear c42
              replace H := Option.bind_eq_some_iff.mp H
              obtain ⟨⟨t456, t457, t458, t459, t460, t461, t462, t463, t464, t465⟩, A430, H⟩ := H
              replace H : (if x6_2.length < 1599289640401 then (dowelref09_Grammar.l1 k2 x5_1 (x6_2 ++ [(⟨t456, t457, t458, t459, (⟨t460, t461, t462, t463⟩ : S76), t464, t465⟩ : S122)]) (wrap64 (x7_2 + 1)) l0_0 a0_1 x451001_1) else (none)) = some (r1, r2, r3) := H
              have A43 := Aside0.mk A430; clear A430
              by_cases c44 : x6_2.length < 1599289640401
              ·rw [if_pos c44] at H
               have LMc44 := Aside0.mk c44; clear c44
               obtain ⟨y466, hy466⟩ : ∃ y_ : List (S122), y_ = (x6_2 ++ [(⟨t456, t457, t458, t459, (⟨t460, t461, t462, t463⟩ : S76), t464, t465⟩ : S122)]) := ⟨_, rfl⟩
               replace H : (dowelref09_Grammar.l1 k2 x5_1 y466 (wrap64 (x7_2 + 1)) l0_0 a0_1 x451001_1) = some (r1, r2, r3) := by first | (rw [hy466]; with_reducible exact H) | (have H2_ := (Option.bind_some _ _).symm.trans H; rw [hy466]; with_reducible exact H2_) | (have H2_ := (Option.bind_some _ _).symm.trans H; with_reducible exact H2_) | with_reducible exact H | (rw [hy466]; exact H) | exact H
               have Ny466 := Aside0.mk hy466; clear hy466
               have H' := Aside0.mk H
               clear H
               have hnb45 := NB446_447.out
               have hnc45 := NB447_446.out
               have hnb46 := NB446_450.out
               have hnc46 := NB450_446.out
               obtain ⟨hcz47_0, hcz47_1⟩ := ck2 BK446.out
               obtain ⟨hfz47_0, hfz47_1⟩ := fk2 BK446.out
               have p453 : 0 ≤ (x5_1 : Int) := of_decide_eq_true q30_10
               have q453 : x5_1 < (l0_0.length : Int) := of_decide_eq_true q30_10
               obtain ⟨ad453, A453_1, c453_1, e453, hx453_0, hx453_1, hl453_1, hi453_1⟩ := at_T30 HR0_0.out x5_1 p453 q453
               obtain rfl : ad451 = ad453 := (by injection e453)
               replace hx453_0 := (HB.out.cell (World.block_lt_of_cell? w _ hx453_0)).trans hx453_0
               replace hx453_1 := (HB.out.cell (World.block_lt_of_cell? w _ hx453_1)).trans hx453_1
               have HR453_1 := Aside0.mk hi453_1; have HC453_1 := Aside0.mk hl453_1; clear hi453_1 hl453_1
               replace p453 := eq_true p453
               replace q453 := eq_true q453
               try go_wp2
               have n0_ := Aside0.mk (Kd.R_drew HO_6.out)
               have n1_ := Aside0.mk (Kd.S_drew HO_451001.out)
               have n2_ := Aside0.mk (blk_drew BK446.out)
               have n3_ := Aside0.mk (blk_drew BK447.out)
               have n4_ := Aside0.mk (blk_drew BK450.out)
               have n5_ := Aside0.mk (below_drew1 HB.out)
               clear HO_6; clear HO_451001; clear BK446; clear BK447; clear BK450; clear HB
               have HO_6 := n0_
               have HO_451001 := n1_
               have BK446 := n2_
               have BK447 := n3_
               have BK450 := n4_
               have HB := n5_
               clear n0_ n1_ n2_ n3_ n4_ n5_
               have p454 : 0 ≤ (x5_1 : Int) := of_decide_eq_true q30_10
               have q454 : x5_1 < (l0_0.length : Int) := of_decide_eq_true q30_10
               obtain ⟨ad454, A454_1, c454_1, e454, hx454_0, hx454_1, hl454_1, hi454_1⟩ := at_T30 HR0_0.out x5_1 p454 q454
               have hw454_1 := hx454_1
               have hw454_0 := hx454_0
               obtain rfl : ad451 = ad454 := (by injection e454)
               replace hx454_0 := (HB.out.cell (World.block_lt_of_cell? w _ hx454_0)).trans hx454_0
               replace hx454_1 := (HB.out.cell (World.block_lt_of_cell? w _ hx454_1)).trans hx454_1
               have HR454_1 := Aside0.mk hi454_1; have HC454_1 := Aside0.mk hl454_1; clear hi454_1 hl454_1
               replace p454 := eq_true p454
               replace q454 := eq_true q454
               have p455 : 0 ≤ (x7_2 : Int) := of_decide_eq_true q30_10
               have q455 : x7_2 < (((rd_T30 l0_0 x5_1).f1).length : Int) := of_decide_eq_true q30_10
               obtain ⟨ad455, e455, hx455_0, hx455_1, hx455_2, hx455_3, hx455_4, hx455_5, hx455_6⟩ := at_T90 HR454_1.out x7_2 p455 q455
               have hw455_6 := hx455_6
               have hw455_5 := hx455_5
               have hw455_4 := hx455_4
               have hw455_3 := hx455_3
               have hw455_2 := hx455_2
               have hw455_1 := hx455_1
               have hw455_0 := hx455_0
               cases e455
               replace hx455_0 := (HB.out.cell (World.block_lt_of_cell? w _ hx455_0)).trans hx455_0
               replace hx455_1 := (HB.out.cell (World.block_lt_of_cell? w _ hx455_1)).trans hx455_1
               replace hx455_2 := (HB.out.cell (World.block_lt_of_cell? w _ hx455_2)).trans hx455_2
               replace hx455_3 := (HB.out.cell (World.block_lt_of_cell? w _ hx455_3)).trans hx455_3
               replace hx455_4 := (HB.out.cell (World.block_lt_of_cell? w _ hx455_4)).trans hx455_4
               replace hx455_5 := (HB.out.cell (World.block_lt_of_cell? w _ hx455_5)).trans hx455_5
               replace hx455_6 := (HB.out.cell (World.block_lt_of_cell? w _ hx455_6)).trans hx455_6
               replace p455 := eq_true p455
               replace q455 := eq_true q455
               refine start_ (n := 15) (S := fun w' => w'.cell? ⟨gb446, 0, none⟩ = some (.slice (some ad451) l0_0.length c0_0) ∧ w'.cell? ⟨gb446, 1, none⟩ = some (.int .i64 a0_1) ∧ w'.cell? (ad451.add ((x5_1).toNat * 2)) = some (.string ((rd_T30 l0_0 x5_1).f0)) ∧ w'.cell? ⟨(ad451.add ((x5_1).toNat * 2)).block, (ad451.add ((x5_1).toNat * 2)).off + 1, none⟩ = some (.slice (some ad455) ((rd_T30 l0_0 x5_1).f1).length c454_1) ∧ w'.cell? (ad455.add ((x7_2).toNat * 7)) = some (.int .i64 ((rd_T90 ((rd_T30 l0_0 x5_1).f1) x7_2).f0)) ∧ w'.cell? ⟨(ad455.add ((x7_2).toNat * 7)).block, (ad455.add ((x7_2).toNat * 7)).off + 1, none⟩ = some (.int .u64 ((rd_T90 ((rd_T30 l0_0 x5_1).f1) x7_2).f1.f0)) ∧ w'.cell? ⟨(ad455.add ((x7_2).toNat * 7)).block, (ad455.add ((x7_2).toNat * 7)).off + 2, none⟩ = some (.int .u64 ((rd_T90 ((rd_T30 l0_0 x5_1).f1) x7_2).f1.f1)) ∧ w'.cell? ⟨(ad455.add ((x7_2).toNat * 7)).block, (ad455.add ((x7_2).toNat * 7)).off + 3, none⟩ = some (.int .u64 ((rd_T90 ((rd_T30 l0_0 x5_1).f1) x7_2).f1.f2)) ∧ w'.cell? ⟨(ad455.add ((x7_2).toNat * 7)).block, (ad455.add ((x7_2).toNat * 7)).off + 4, none⟩ = some (.int .u64 ((rd_T90 ((rd_T30 l0_0 x5_1).f1) x7_2).f1.f3)) ∧ w'.cell? ⟨(ad455.add ((x7_2).toNat * 7)).block, (ad455.add ((x7_2).toNat * 7)).off + 5, none⟩ = some (.int .i64 ((rd_T90 ((rd_T30 l0_0 x5_1).f1) x7_2).f2)) ∧ w'.cell? ⟨(ad455.add ((x7_2).toNat * 7)).block, (ad455.add ((x7_2).toNat * 7)).off + 6, none⟩ = some (.string ((rd_T90 ((rd_T30 l0_0 x5_1).f1) x7_2).f3))) (ds := []) #[false,false,false,false,false,false,false,false,false,false,false,false,false,false,false] (by kernel_rfl) rfl rfl ⟨(blk_cell BK446.out 0).trans rfl, (blk_cell BK446.out 1).trans rfl, ((HB.out.cell (World.block_lt_of_cell? w _ hw454_0)).trans hw454_0), ((HB.out.cell (World.block_lt_of_cell? w _ hw454_1)).trans hw454_1), ((HB.out.cell (World.block_lt_of_cell? w _ hw455_0)).trans hw455_0), ((HB.out.cell (World.block_lt_of_cell? w _ hw455_1)).trans hw455_1), ((HB.out.cell (World.block_lt_of_cell? w _ hw455_2)).trans hw455_2), ((HB.out.cell (World.block_lt_of_cell? w _ hw455_3)).trans hw455_3), ((HB.out.cell (World.block_lt_of_cell? w _ hw455_4)).trans hw455_4), ((HB.out.cell (World.block_lt_of_cell? w _ hw455_5)).trans hw455_5), ((HB.out.cell (World.block_lt_of_cell? w _ hw455_6)).trans hw455_6)⟩ (fun hHeld => ?_); refine with_tabW dowelref09_Grammar.tab15 dowelref09_Grammar.bits15 (fun HT_ HW_ => ?_)
               generalize wr.drew = w48 at HO_6 HO_451001 BK446 BK447 BK450 HB HR454_1 hx454_0 hx454_1 hx455_0 hx455_1 hx455_2 hx455_3 hx455_4 hx455_5 hx455_6 hHeld ⊢
               refine pure_ (i := 0) (N := some 44) (v := ?_) (a' := ?_) #[true,false,false,false,false,false,false,false,false,false,false,false,false,false,false] rfl rfl (any_of HT_.out (by kernel_rfl)) (fun _ _ _ h => h) (Or.inl ⟨by rfl, ?_⟩) ?_ ?_
               rotate_left; (· intro w'; go_simp; with_reducible rfl); rotate_left; (· simp only [Act.put, List.setIfInBounds_toArray, List.set_cons_zero, List.set_cons_succ, i64_w, i32_w]; rfl)
               refine pure_ (i := 2) (N := some 46) (v := ?_) (a' := ?_) #[true,false,true,false,false,false,false,false,false,false,false,false,false,false,false] rfl rfl (any_of HT_.out (by kernel_rfl)) (fun _ _ _ h => h) (Or.inl ⟨by rfl, ?_⟩) ?_ ?_
               rotate_left; (· intro w'; go_simp; with_reducible rfl); rotate_left; (· simp only [Act.put, List.setIfInBounds_toArray, List.set_cons_zero, List.set_cons_succ, i64_w, i32_w]; rfl)
               refine pure_ (i := 4) (N := some 48) (v := ?_) (a' := ?_) #[true,false,true,false,true,false,false,false,false,false,false,false,false,false,false] rfl rfl (any_of HT_.out (by kernel_rfl)) (fun _ _ _ h => h) (Or.inl ⟨by rfl, ?_⟩) ?_ ?_
               rotate_left; (· intro w'; go_simp; with_reducible rfl); rotate_left; (· simp only [Act.put, List.setIfInBounds_toArray, List.set_cons_zero, List.set_cons_succ, i64_w, i32_w]; rfl)
               refine pure_ (i := 8) (N := some 52) (v := ?_) (a' := ?_) #[true,false,true,false,true,false,false,false,true,false,false,false,false,false,false] rfl rfl (any_of HT_.out (by kernel_rfl)) (fun _ _ _ h => h) (Or.inl ⟨by rfl, ?_⟩) ?_ ?_
               rotate_left; (· intro w'; go_simp; with_reducible rfl); rotate_left; (· simp only [Act.put, List.setIfInBounds_toArray, List.set_cons_zero, List.set_cons_succ, i64_w, i32_w]; rfl)
               refine take_ (i := 1) (N := some 45) (v := ?_) (a' := ?_) #[true,true,true,false,true,false,false,false,true,false,false,false,false,false,false] rfl rfl (take_ofW HT_.out HW_.out (by kernel_rfl)) (fun _ _ _ h => h) (Or.inl ⟨by rfl, ?_⟩) hHeld ?_ ?_
               rotate_left; (· rintro w' ⟨s0, s1, s2, s3, s4, s5, s6, s7, s8, s9, s10⟩; go_simp; with_reducible rfl); rotate_left; (· simp only [Act.put, List.setIfInBounds_toArray, List.set_cons_zero, List.set_cons_succ, i64_w, i32_w]; rfl)
               refine take_ (i := 3) (N := some 47) (v := ?_) (a' := ?_) #[true,true,true,true,true,false,false,false,true,false,false,false,false,false,false] rfl rfl (take_ofW HT_.out HW_.out (by kernel_rfl)) (fun _ _ _ h => h) (Or.inl ⟨by rfl, ?_⟩) hHeld ?_ ?_
               rotate_left; (· rintro w' ⟨s0, s1, s2, s3, s4, s5, s6, s7, s8, s9, s10⟩; go_simp; with_reducible rfl); rotate_left; (· simp only [Act.put, List.setIfInBounds_toArray, List.set_cons_zero, List.set_cons_succ, i64_w, i32_w]; rfl)
               refine pure_ (i := 5) (N := some 49) (v := ?_) (a' := ?_) #[true,true,true,true,true,true,false,false,true,false,false,false,false,false,false] rfl rfl (any_of HT_.out (by kernel_rfl)) (fun _ _ _ h => h) (Or.inl ⟨by rfl, ?_⟩) ?_ ?_
               rotate_left; (· intro w'; go_simp; with_reducible rfl); rotate_left; (· simp only [Act.put, List.setIfInBounds_toArray, List.set_cons_zero, List.set_cons_succ, i64_w, i32_w]; rfl)
               refine pure_ (i := 6) (N := some 50) (v := ?_) (a' := ?_) #[true,true,true,true,true,true,true,false,true,false,false,false,false,false,false] rfl rfl (any_of HT_.out (by kernel_rfl)) (fun _ _ _ h => h) (Or.inl ⟨by rfl, ?_⟩) ?_ ?_
               rotate_left; (· intro w'; go_simp; with_reducible rfl); rotate_left; (· simp only [Act.put, List.setIfInBounds_toArray, List.set_cons_zero, List.set_cons_succ, i64_w, i32_w]; rfl)
               refine take_ (i := 7) (N := some 51) (v := ?_) (a' := ?_) #[true,true,true,true,true,true,true,true,true,false,false,false,false,false,false] rfl rfl (take_ofW HT_.out HW_.out (by kernel_rfl)) (fun _ _ _ h => h) (Or.inl ⟨by rfl, ?_⟩) hHeld ?_ ?_
               rotate_left; (· rintro w' ⟨s0, s1, s2, s3, s4, s5, s6, s7, s8, s9, s10⟩; go_simp; with_reducible rfl); rotate_left; (· simp only [Act.put, List.setIfInBounds_toArray, List.set_cons_zero, List.set_cons_succ, i64_w, i32_w]; rfl)
               refine pure_ (i := 9) (N := some 53) (v := ?_) (a' := ?_) #[true,true,true,true,true,true,true,true,true,true,false,false,false,false,false] rfl rfl (any_of HT_.out (by kernel_rfl)) (fun _ _ _ h => h) (Or.inl ⟨by rfl, ?_⟩) ?_ ?_
               rotate_left; (· intro w'; go_simp; with_reducible rfl); rotate_left; (· simp only [Act.put, List.setIfInBounds_toArray, List.set_cons_zero, List.set_cons_succ, i64_w, i32_w]; rfl)
               refine take_ (i := 10) (N := some 54) (v := ?_) (a' := ?_) #[true,true,true,true,true,true,true,true,true,true,true,false,false,false,false] rfl rfl (take_ofW HT_.out HW_.out (by kernel_rfl)) (fun _ _ _ h => h) (Or.inl ⟨by rfl, ?_⟩) hHeld ?_ ?_
               rotate_left; (· rintro w' ⟨s0, s1, s2, s3, s4, s5, s6, s7, s8, s9, s10⟩; go_simp; with_reducible rfl); rotate_left; (· simp only [Act.put, List.setIfInBounds_toArray, List.set_cons_zero, List.set_cons_succ, i64_w, i32_w]; rfl)
               refine one_ (i := 11) (N := some 55) #[true,true,true,true,true,true,true,true,true,true,true,true,false,false,false] rfl rfl (one_of HT_.out (by kernel_rfl)) (by decide) (fun K hK => ?_)
               refine goes_ Try.func66 (by kernel_rfl) rfl #[.agg #[.slice (some ad451) l0_0.length c0_0, .int .i64 a0_1], .agg #[.int .i64 ((rd_T90 ((rd_T30 l0_0 x5_1).f1) x7_2).f0), .int .u64 ((rd_T90 ((rd_T30 l0_0 x5_1).f1) x7_2).f1.f0), .int .u64 ((rd_T90 ((rd_T30 l0_0 x5_1).f1) x7_2).f1.f1), .int .u64 ((rd_T90 ((rd_T30 l0_0 x5_1).f1) x7_2).f1.f2), .int .u64 ((rd_T90 ((rd_T30 l0_0 x5_1).f1) x7_2).f1.f3), .int .i64 ((rd_T90 ((rd_T30 l0_0 x5_1).f1) x7_2).f2), .string ((rd_T90 ((rd_T30 l0_0 x5_1).f1) x7_2).f3)]] (by rfl) rfl rfl q30_5 ?_
               with_reducible refine (dowelref09_surface.calls _ _ l0_0 a0_1 ((rd_T90 ((rd_T30 l0_0 x5_1).f1) x7_2).f0) ((rd_T90 ((rd_T30 l0_0 x5_1).f1) x7_2).f1.f0) ((rd_T90 ((rd_T30 l0_0 x5_1).f1) x7_2).f1.f1) ((rd_T90 ((rd_T30 l0_0 x5_1).f1) x7_2).f1.f2) ((rd_T90 ((rd_T30 l0_0 x5_1).f1) x7_2).f1.f3) ((rd_T90 ((rd_T30 l0_0 x5_1).f1) x7_2).f2) ((rd_T90 ((rd_T30 l0_0 x5_1).f1) x7_2).f3) t456 t457 t458 t459 t460 t461 t462 t463 t464 t465 _ ?side1 ?side2 A43.out).mono ?_
               (case side1 => repeat (first | exact (Kd.C_below HR0_0.out HB.out) | (with_reducible refine Kd.C_alloc ?_ _) | (with_reducible refine Kd.C_drewN ?_ _) | (with_reducible refine Kd.C_drew ?_)))
               (case side2 => exact HC0_0.out)
               rintro e w49 ⟨rfl, hb⟩
               refine ⟨_, rfl, ?_⟩
               have n0_ := Aside0.mk (Kd.R_below q30_16 hb)
               have n1_ := Aside0.mk (Kd.S_below q30_15 hb)
               have n2_ := Aside0.mk (blk_below (g := gb446) (o := .cells #[.slice (some ad451) l0_0.length c0_0, .int .i64 a0_1] 24 (0, 0)) q30_1 hb)
               have n3_ := Aside0.mk (blk_below (g := gb447) (o := .cells #[.slice none 0 0, .slice none 0 0] 61 (0, 0)) q30_3 hb)
               have n4_ := Aside0.mk (blk_below (g := gb450) (o := .cells #[.slice none 0 0, u451001] 61 (0, 0)) q30_8 hb)
               have n5_ := Aside0.mk (below_step q30_0 hb)
               clear HO_6; clear HO_451001; clear BK446; clear BK447; clear BK450; clear HB
               have HO_6 := n0_
               have HO_451001 := n1_
               have BK446 := n2_
               have BK447 := n3_
               have BK450 := n4_
               have HB := n5_
               clear n0_ n1_ n2_ n3_ n4_ n5_; (try clear hb); (try clear hb2); (try clear hk); (try clear hi)
               refine hK.out _ _ ⟨(blk_cell BK446.out 0).trans rfl, (blk_cell BK446.out 1).trans rfl, ((HB.out.cell (World.block_lt_of_cell? w _ hw454_0)).trans hw454_0), ((HB.out.cell (World.block_lt_of_cell? w _ hw454_1)).trans hw454_1), ((HB.out.cell (World.block_lt_of_cell? w _ hw455_0)).trans hw455_0), ((HB.out.cell (World.block_lt_of_cell? w _ hw455_1)).trans hw455_1), ((HB.out.cell (World.block_lt_of_cell? w _ hw455_2)).trans hw455_2), ((HB.out.cell (World.block_lt_of_cell? w _ hw455_3)).trans hw455_3), ((HB.out.cell (World.block_lt_of_cell? w _ hw455_4)).trans hw455_4), ((HB.out.cell (World.block_lt_of_cell? w _ hw455_5)).trans hw455_5), ((HB.out.cell (World.block_lt_of_cell? w _ hw455_6)).trans hw455_6)⟩ (fun hHeld => ?_)
               clear hK K
               refine norm_ (a' := ?_) ?_ ?_
               rotate_left
               ·show Act.put _ (some 55) _ = _
                simp only [Act.put, List.setIfInBounds_toArray, List.set_cons_zero, List.set_cons_succ, i64_w, i32_w]
                rfl
               refine one_ (i := 12) (N := some 56) #[true,true,true,true,true,true,true,true,true,true,true,true,true,false,false] rfl rfl (one_of HT_.out (by kernel_rfl)) (by decide) (fun K hK => ?_)
               refine value_ (w1 := ?_) (v := ?_) (by rfl) rfl ?_ ?_
               rotate_left 2
               ·go_simp
                constructor
                ·rfl
                ·rfl
               refine hK.out _ _ ⟨(blk_cell (blk_alloc BK446.out _) 0).trans rfl, (blk_cell (blk_alloc BK446.out _) 1).trans rfl, (World.cell?_alloc_lt _ _ _ (World.block_lt_of_cell? _ _ (((HB.out.cell (World.block_lt_of_cell? w _ hw454_0)).trans hw454_0)))).trans (((HB.out.cell (World.block_lt_of_cell? w _ hw454_0)).trans hw454_0)), (World.cell?_alloc_lt _ _ _ (World.block_lt_of_cell? _ _ (((HB.out.cell (World.block_lt_of_cell? w _ hw454_1)).trans hw454_1)))).trans (((HB.out.cell (World.block_lt_of_cell? w _ hw454_1)).trans hw454_1)), (World.cell?_alloc_lt _ _ _ (World.block_lt_of_cell? _ _ (((HB.out.cell (World.block_lt_of_cell? w _ hw455_0)).trans hw455_0)))).trans (((HB.out.cell (World.block_lt_of_cell? w _ hw455_0)).trans hw455_0)), (World.cell?_alloc_lt _ _ _ (World.block_lt_of_cell? _ _ (((HB.out.cell (World.block_lt_of_cell? w _ hw455_1)).trans hw455_1)))).trans (((HB.out.cell (World.block_lt_of_cell? w _ hw455_1)).trans hw455_1)), (World.cell?_alloc_lt _ _ _ (World.block_lt_of_cell? _ _ (((HB.out.cell (World.block_lt_of_cell? w _ hw455_2)).trans hw455_2)))).trans (((HB.out.cell (World.block_lt_of_cell? w _ hw455_2)).trans hw455_2)), (World.cell?_alloc_lt _ _ _ (World.block_lt_of_cell? _ _ (((HB.out.cell (World.block_lt_of_cell? w _ hw455_3)).trans hw455_3)))).trans (((HB.out.cell (World.block_lt_of_cell? w _ hw455_3)).trans hw455_3)), (World.cell?_alloc_lt _ _ _ (World.block_lt_of_cell? _ _ (((HB.out.cell (World.block_lt_of_cell? w _ hw455_4)).trans hw455_4)))).trans (((HB.out.cell (World.block_lt_of_cell? w _ hw455_4)).trans hw455_4)), (World.cell?_alloc_lt _ _ _ (World.block_lt_of_cell? _ _ (((HB.out.cell (World.block_lt_of_cell? w _ hw455_5)).trans hw455_5)))).trans (((HB.out.cell (World.block_lt_of_cell? w _ hw455_5)).trans hw455_5)), (World.cell?_alloc_lt _ _ _ (World.block_lt_of_cell? _ _ (((HB.out.cell (World.block_lt_of_cell? w _ hw455_6)).trans hw455_6)))).trans (((HB.out.cell (World.block_lt_of_cell? w _ hw455_6)).trans hw455_6))⟩ (fun hHeld => ?_)
               clear hK K
               refine norm_ (a' := ?_) ?_ ?_
               rotate_left
               ·show Act.put _ (some 56) _ = _
                simp only [Act.put, List.setIfInBounds_toArray, List.set_cons_zero, List.set_cons_succ, i64_w, i32_w]
                rfl
               refine one_ (i := 13) (N := some 57) #[true,true,true,true,true,true,true,true,true,true,true,true,true,true,false] rfl rfl (one_of HT_.out (by kernel_rfl)) (by decide) (fun K hK => ?_)
               refine Kd.R_append_step k122 (w0 := w) w.heap.size (by rfl) (.tmp 44) (.tmp 56) 120 122 (.agg #[(.int .i64 0), (.int .i64 0), (.string ⟨#[]⟩), (.bool false), (.int .u64 0), (.int .u64 0), (.int .u64 0), (.int .u64 0), (.int .i64 0), (.int .i64 0)]) 88 rfl Try.underlying120 info122 rfl (by decide) (by omega) u6 x6_2 (⟨t456, t457, t458, t459, (⟨t460, t461, t462, t463⟩ : S76), t464, t465⟩ : S122) [.int .i64 t456, .int .i64 t457, .string t458, .bool t459, .int .u64 t460, .int .u64 t461, .int .u64 t462, .int .u64 t463, .int .i64 t464, .int .i64 t465] (fun _ => True) (fun _ => False) rfl rfl ?aP (fun _ hk => hk.elim) ?aF ?aO ?aB ?aS ?aL ?_
               (case aP => exact k122_mkM _ _ _ (⟨t456, t457, t458, t459, (⟨t460, t461, t462, t463⟩ : S76), t464, t465⟩ : S122))
               (case aB => exact q30_0)
               (case aF => exact (fun _ _ => trivial))
               (case aO => exact q30_16)
               (case aS => exact (below_size q30_0))
               (case aL => have := LMc44.out; omega)
               intro v467 w50 ho hb hg hat
               rw [← Ny466.out] at ho
               have n0_ := Aside0.mk (Kd.S_after (ok := (fun _ => True)) (by (with_reducible repeat (first | apply Kd.S_alloc | apply Kd.S_drewN | apply Kd.S_drew)); exact Kd.S_mono HO_451001.out (fun _ hk => ⟨trivial, hk⟩)) hg hat)
               have n1_ := Aside0.mk (blk_grown (g := gb446) (o := .cells #[.slice (some ad451) l0_0.length c0_0, .int .i64 a0_1] 24 (0, 0)) q30_1 hg (Kd.R_ne HO_6.out BK446.out (by decide)))
               have n2_ := Aside0.mk (blk_grown (g := gb447) (o := .cells #[.slice none 0 0, .slice none 0 0] 61 (0, 0)) q30_3 hg (Kd.R_ne HO_6.out BK447.out (by decide)))
               have n3_ := Aside0.mk (blk_grown (g := gb450) (o := .cells #[.slice none 0 0, u451001] 61 (0, 0)) q30_8 hg (Kd.R_ne HO_6.out BK450.out (by decide)))
               have n4_ := Aside0.mk (hb)
               have n5_ := Aside0.mk (ho)
               clear HO_451001; clear BK446; clear BK447; clear BK450; clear HB; clear HO_6
               have HO_451001 := n0_
               have BK446 := n1_
               have BK447 := n2_
               have BK450 := n3_
               have HB := n4_
               have HO468 := n5_
               clear n0_ n1_ n2_ n3_ n4_ n5_; clear ho hb hg hat
               refine hK.out _ _ ⟨(blk_cell BK446.out 0).trans rfl, (blk_cell BK446.out 1).trans rfl, ((HB.out.cell (World.block_lt_of_cell? w _ hw454_0)).trans hw454_0), ((HB.out.cell (World.block_lt_of_cell? w _ hw454_1)).trans hw454_1), ((HB.out.cell (World.block_lt_of_cell? w _ hw455_0)).trans hw455_0), ((HB.out.cell (World.block_lt_of_cell? w _ hw455_1)).trans hw455_1), ((HB.out.cell (World.block_lt_of_cell? w _ hw455_2)).trans hw455_2), ((HB.out.cell (World.block_lt_of_cell? w _ hw455_3)).trans hw455_3), ((HB.out.cell (World.block_lt_of_cell? w _ hw455_4)).trans hw455_4), ((HB.out.cell (World.block_lt_of_cell? w _ hw455_5)).trans hw455_5), ((HB.out.cell (World.block_lt_of_cell? w _ hw455_6)).trans hw455_6)⟩ (fun hHeld => ?_)
               clear hK K
               refine norm_ (a' := ?_) ?_ ?_
               rotate_left
               ·show Act.put _ (some 57) _ = _
                simp only [Act.put, List.setIfInBounds_toArray, List.set_cons_zero, List.set_cons_succ, i64_w, i32_w]
                rfl
               refine pure_ (i := 14) (N := some 6) (v := ?_) (a' := ?_) #[true,true,true,true,true,true,true,true,true,true,true,true,true,true,true] rfl rfl (any_of HT_.out (by kernel_rfl)) (fun _ _ _ h => h) (Or.inl ⟨by rfl, ?_⟩) ?_ ?_
               rotate_left; (· intro w'; go_simp; with_reducible rfl); rotate_left; (· simp only [Act.put, List.setIfInBounds_toArray, List.set_cons_zero, List.set_cons_succ, i64_w, i32_w]; rfl)
               refine done_ (done_of HT_.out (by kernel_rfl)) ?_
               try go_wp2
               go_roundg k2
               case measure => have := HK1.out; have := HK2.out; omega
               case rel => exact ⟨(y466), (wrap64 (x7_2 + 1)), q30_17, H', ⟨by have := HK1.out; have := HK2.out; omega⟩, ⟨by (with_reducible repeat (first | apply Kd.R_alloc | apply Kd.R_drewN | apply Kd.R_drew)); exact HO468.out⟩, ⟨by (with_reducible repeat (first | apply Kd.S_alloc | apply Kd.S_drewN | apply Kd.S_drew)); exact Kd.S_mono HO_451001.out (fun _ hk => hk.2)⟩, ⟨q30_1⟩, ⟨q30_3⟩, ⟨q30_8⟩, ⟨q30_0⟩⟩
              ·rw [if_neg c44] at H
               exact absurd H (by simp)
             ·rw [if_neg c42] at H
              exact absurd H (by simp)
            ·rw [if_neg c41] at H
             have c41b0 : decide (x7_2 < (((rd_T30 l0_0 x5_1).f1).length : Int)) = false := decide_eq_false c41
             clear c41
             by_cases c51 : x451001_1.length < 2199023255552
             ·rw [if_pos c51] at H
              have LMc51 := Aside0.mk c51; clear c51
              obtain ⟨y470, hy470⟩ : ∃ y_ : List (S125), y_ = (x451001_1 ++ [(⟨(rd_T30 l0_0 x5_1).f0, ([] : List ByteArray), x6_2⟩ : S125)]) := ⟨_, rfl⟩
              replace H : (dowelref09_Grammar.l0 k2 (wrap64 (x5_1 + 1)) l0_0 a0_1 y470) = some (r1, r2, r3) := by first | (rw [hy470]; with_reducible exact H) | (have H2_ := (Option.bind_some _ _).symm.trans H; rw [hy470]; with_reducible exact H2_) | (have H2_ := (Option.bind_some _ _).symm.trans H; with_reducible exact H2_) | with_reducible exact H | (rw [hy470]; exact H) | exact H
              have Ny470 := Aside0.mk hy470; clear hy470
              have H' := Aside0.mk H
              clear H
              have hnb52 := NB446_447.out
              have hnc52 := NB447_446.out
              have hnb53 := NB446_450.out
              have hnc53 := NB450_446.out
              obtain ⟨hcz54_0, hcz54_1⟩ := ck2 BK446.out
              obtain ⟨hfz54_0, hfz54_1⟩ := fk2 BK446.out
              have p453 : 0 ≤ (x5_1 : Int) := of_decide_eq_true q30_10
              have q453 : x5_1 < (l0_0.length : Int) := of_decide_eq_true q30_10
              obtain ⟨ad453, A453_1, c453_1, e453, hx453_0, hx453_1, hl453_1, hi453_1⟩ := at_T30 HR0_0.out x5_1 p453 q453
              obtain rfl : ad451 = ad453 := (by injection e453)
              replace hx453_0 := (HB.out.cell (World.block_lt_of_cell? w _ hx453_0)).trans hx453_0
              replace hx453_1 := (HB.out.cell (World.block_lt_of_cell? w _ hx453_1)).trans hx453_1
              have HR453_1 := Aside0.mk hi453_1; have HC453_1 := Aside0.mk hl453_1; clear hi453_1 hl453_1
              replace p453 := eq_true p453
              replace q453 := eq_true q453
              try go_wp2
              have n0_ := Aside0.mk (Kd.R_drew HO_6.out)
              have n1_ := Aside0.mk (Kd.S_drew HO_451001.out)
              have n2_ := Aside0.mk (blk_drew BK446.out)
              have n3_ := Aside0.mk (blk_drew BK447.out)
              have n4_ := Aside0.mk (blk_drew BK450.out)
              have n5_ := Aside0.mk (below_drew1 HB.out)
              clear HO_6; clear HO_451001; clear BK446; clear BK447; clear BK450; clear HB
              have HO_6 := n0_
              have HO_451001 := n1_
              have BK446 := n2_
              have BK447 := n3_
              have BK450 := n4_
              have HB := n5_
              clear n0_ n1_ n2_ n3_ n4_ n5_
              have p469 : 0 ≤ (x5_1 : Int) := of_decide_eq_true q30_10
              have q469 : x5_1 < (l0_0.length : Int) := of_decide_eq_true q30_10
              obtain ⟨ad469, A469_1, c469_1, e469, hx469_0, hx469_1, hl469_1, hi469_1⟩ := at_T30 HR0_0.out x5_1 p469 q469
              have hw469_1 := hx469_1
              have hw469_0 := hx469_0
              obtain rfl : ad451 = ad469 := (by injection e469)
              replace hx469_0 := (HB.out.cell (World.block_lt_of_cell? w _ hx469_0)).trans hx469_0
              replace hx469_1 := (HB.out.cell (World.block_lt_of_cell? w _ hx469_1)).trans hx469_1
              have HR469_1 := Aside0.mk hi469_1; have HC469_1 := Aside0.mk hl469_1; clear hi469_1 hl469_1
              replace p469 := eq_true p469
              replace q469 := eq_true q469
              obtain ⟨Ao56, co56, eo56⟩ := Kd.R_slice HO_6.out
              (first | subst eo56 | (injection eo56 with f1_ f2_ f3_; have f4_ := f1_.symm; have f5_ := f3_.symm; clear f1_ f2_ f3_; subst f4_; subst f5_))
              refine start_ (n := 14) (S := fun w' => w'.cell? ⟨gb450, 0, none⟩ = some (.slice none 0 0) ∧ w'.cell? ⟨gb450, 1, none⟩ = some (u451001) ∧ w'.cell? ⟨gb446, 0, none⟩ = some (.slice (some ad451) l0_0.length c0_0) ∧ w'.cell? ⟨gb446, 1, none⟩ = some (.int .i64 a0_1) ∧ w'.cell? (ad451.add ((x5_1).toNat * 2)) = some (.string ((rd_T30 l0_0 x5_1).f0)) ∧ w'.cell? ⟨(ad451.add ((x5_1).toNat * 2)).block, (ad451.add ((x5_1).toNat * 2)).off + 1, none⟩ = some (.slice A469_1 ((rd_T30 l0_0 x5_1).f1).length c469_1)) (ds := [13]) #[false,false,false,false,false,false,false,false,false,false,false,false,false,false] (by kernel_rfl) rfl rfl ⟨(blk_cell BK450.out 0).trans rfl, (blk_cell BK450.out 1).trans rfl, (blk_cell BK446.out 0).trans rfl, (blk_cell BK446.out 1).trans rfl, ((HB.out.cell (World.block_lt_of_cell? w _ hw469_0)).trans hw469_0), ((HB.out.cell (World.block_lt_of_cell? w _ hw469_1)).trans hw469_1)⟩ (fun hHeld => ?_); refine with_tabW dowelref09_Grammar.tab16 dowelref09_Grammar.bits16 (fun HT_ HW_ => ?_)
              generalize wr.drew = w55 at HO_6 HO_451001 BK446 BK447 BK450 HB HR469_1 hx469_0 hx469_1 hHeld ⊢
              refine pure_ (i := 0) (N := some 58) (v := ?_) (a' := ?_) #[true,false,false,false,false,false,false,false,false,false,false,false,false,false] rfl rfl (any_of HT_.out (by kernel_rfl)) (fun _ _ _ h => h) (Or.inl ⟨by rfl, ?_⟩) ?_ ?_
              rotate_left; (· intro w'; go_simp; with_reducible rfl); rotate_left; (· simp only [Act.put, List.setIfInBounds_toArray, List.set_cons_zero, List.set_cons_succ, i64_w, i32_w]; rfl)
              refine pure_ (i := 2) (N := some 60) (v := ?_) (a' := ?_) #[true,false,true,false,false,false,false,false,false,false,false,false,false,false] rfl rfl (any_of HT_.out (by kernel_rfl)) (fun _ _ _ h => h) (Or.inl ⟨by rfl, ?_⟩) ?_ ?_
              rotate_left; (· intro w'; go_simp; with_reducible rfl); rotate_left; (· simp only [Act.put, List.setIfInBounds_toArray, List.set_cons_zero, List.set_cons_succ, i64_w, i32_w]; rfl)
              refine pure_ (i := 4) (N := some 62) (v := ?_) (a' := ?_) #[true,false,true,false,true,false,false,false,false,false,false,false,false,false] rfl rfl (any_of HT_.out (by kernel_rfl)) (fun _ _ _ h => h) (Or.inl ⟨by rfl, ?_⟩) ?_ ?_
              rotate_left; (· intro w'; go_simp; with_reducible rfl); rotate_left; (· simp only [Act.put, List.setIfInBounds_toArray, List.set_cons_zero, List.set_cons_succ, i64_w, i32_w]; rfl)
              refine pure_ (i := 8) (N := some 66) (v := ?_) (a' := ?_) #[true,false,true,false,true,false,false,false,true,false,false,false,false,false] rfl rfl (any_of HT_.out (by kernel_rfl)) (fun _ _ _ h => h) (Or.inl ⟨by rfl, ?_⟩) ?_ ?_
              rotate_left; (· intro w'; go_simp; with_reducible rfl); rotate_left; (· simp only [Act.put, List.setIfInBounds_toArray, List.set_cons_zero, List.set_cons_succ, i64_w, i32_w]; rfl)
              refine take_ (i := 1) (N := some 59) (v := ?_) (a' := ?_) #[true,true,true,false,true,false,false,false,true,false,false,false,false,false] rfl rfl (take_ofW HT_.out HW_.out (by kernel_rfl)) (fun _ _ _ h => h) (Or.inl ⟨by rfl, ?_⟩) hHeld ?_ ?_
              rotate_left; (· rintro w' ⟨s0, s1, s2, s3, s4, s5⟩; go_simp; with_reducible rfl); rotate_left; (· simp only [Act.put, List.setIfInBounds_toArray, List.set_cons_zero, List.set_cons_succ, i64_w, i32_w]; rfl)
              refine take_ (i := 3) (N := some 61) (v := ?_) (a' := ?_) #[true,true,true,true,true,false,false,false,true,false,false,false,false,false] rfl rfl (take_ofW HT_.out HW_.out (by kernel_rfl)) (fun _ _ _ h => h) (Or.inl ⟨by rfl, ?_⟩) hHeld ?_ ?_
              rotate_left; (· rintro w' ⟨s0, s1, s2, s3, s4, s5⟩; go_simp; with_reducible rfl); rotate_left; (· simp only [Act.put, List.setIfInBounds_toArray, List.set_cons_zero, List.set_cons_succ, i64_w, i32_w]; rfl)
              refine pure_ (i := 5) (N := some 63) (v := ?_) (a' := ?_) #[true,true,true,true,true,true,false,false,true,false,false,false,false,false] rfl rfl (any_of HT_.out (by kernel_rfl)) (fun _ _ _ h => h) (Or.inl ⟨by rfl, ?_⟩) ?_ ?_
              rotate_left; (· intro w'; go_simp; with_reducible rfl); rotate_left; (· simp only [Act.put, List.setIfInBounds_toArray, List.set_cons_zero, List.set_cons_succ, i64_w, i32_w]; rfl)
              refine pure_ (i := 6) (N := some 64) (v := ?_) (a' := ?_) #[true,true,true,true,true,true,true,false,true,false,false,false,false,false] rfl rfl (any_of HT_.out (by kernel_rfl)) (fun _ _ _ h => h) (Or.inl ⟨by rfl, ?_⟩) ?_ ?_
              rotate_left; (· intro w'; go_simp; with_reducible rfl); rotate_left; (· simp only [Act.put, List.setIfInBounds_toArray, List.set_cons_zero, List.set_cons_succ, i64_w, i32_w]; rfl)
              refine take_ (i := 7) (N := some 65) (v := ?_) (a' := ?_) #[true,true,true,true,true,true,true,true,true,false,false,false,false,false] rfl rfl (take_ofW HT_.out HW_.out (by kernel_rfl)) (fun _ _ _ h => h) (Or.inl ⟨by rfl, ?_⟩) hHeld ?_ ?_
              rotate_left; (· rintro w' ⟨s0, s1, s2, s3, s4, s5⟩; go_simp; with_reducible rfl); rotate_left; (· simp only [Act.put, List.setIfInBounds_toArray, List.set_cons_zero, List.set_cons_succ, i64_w, i32_w]; rfl)
              refine pure_ (i := 9) (N := some 67) (v := ?_) (a' := ?_) #[true,true,true,true,true,true,true,true,true,true,false,false,false,false] rfl rfl (any_of HT_.out (by kernel_rfl)) (fun _ _ _ h => h) (Or.inl ⟨by rfl, ?_⟩) ?_ ?_
              rotate_left; (· intro w'; go_simp; with_reducible rfl); rotate_left; (· simp only [Act.put, List.setIfInBounds_toArray, List.set_cons_zero, List.set_cons_succ, i64_w, i32_w]; rfl)
              refine one_ (i := 10) (N := some 68) #[true,true,true,true,true,true,true,true,true,true,true,false,false,false] rfl rfl (one_of HT_.out (by kernel_rfl)) (by decide) (fun K hK => ?_)
              refine value_ (w1 := ?_) (v := ?_) (by rfl) rfl ?_ ?_
              rotate_left 2
              ·go_simp
               constructor
               ·rfl
               ·rfl
              refine hK.out _ _ ⟨(blk_cell (blk_alloc BK450.out _) 0).trans rfl, (blk_cell (blk_alloc BK450.out _) 1).trans rfl, (blk_cell (blk_alloc BK446.out _) 0).trans rfl, (blk_cell (blk_alloc BK446.out _) 1).trans rfl, (World.cell?_alloc_lt _ _ _ (World.block_lt_of_cell? _ _ (((HB.out.cell (World.block_lt_of_cell? w _ hw469_0)).trans hw469_0)))).trans (((HB.out.cell (World.block_lt_of_cell? w _ hw469_0)).trans hw469_0)), (World.cell?_alloc_lt _ _ _ (World.block_lt_of_cell? _ _ (((HB.out.cell (World.block_lt_of_cell? w _ hw469_1)).trans hw469_1)))).trans (((HB.out.cell (World.block_lt_of_cell? w _ hw469_1)).trans hw469_1))⟩ (fun hHeld => ?_)
              clear hK K
              refine norm_ (a' := ?_) ?_ ?_
              rotate_left
              ·show Act.put _ (some 68) _ = _
               simp only [Act.put, List.setIfInBounds_toArray, List.set_cons_zero, List.set_cons_succ, i64_w, i32_w]
               rfl
              refine one_ (i := 11) (N := some 69) #[true,true,true,true,true,true,true,true,true,true,true,true,false,false] rfl rfl (one_of HT_.out (by kernel_rfl)) (by decide) (fun K hK => ?_)
              refine Kd.S_append_step k125 (w0 := w) w.heap.size (by rfl) (.tmp 59) (.tmp 68) 59 125 (.agg #[(.string ⟨#[]⟩), (.slice none 0 0), (.slice none 0 0)]) 64 rfl Try.underlying59 info125 rfl (by decide) (by omega) u451001 x451001_1 (⟨(rd_T30 l0_0 x5_1).f0, ([] : List ByteArray), x6_2⟩ : S125) [.string ((rd_T30 l0_0 x5_1).f0), .slice none 0 0, .slice Ao56 x6_2.length co56] (fun _ => True) (fun k_ => some k_ = (.slice Ao56 x6_2.length co56 : Value).ownBlock) rfl rfl ?aP (fun k_ hk_ => ((Kd.R_mono (ok' := fun k_ => ((fun _ => True)) k_ ∧ some k_ ≠ (u451001 : Value).ownBlock) (Kd.R_apart' (HO_6.out) (Kd.S_typed HO_451001.out) (by decide)) (fun k_ hk => ⟨trivial, hk.2⟩))).1 k_ hk_.symm) ?aF ?aO ?aB ?aS ?aL ?_
              (case aP => exact k125_mkM _ _ _ (⟨(rd_T30 l0_0 x5_1).f0, ([] : List ByteArray), x6_2⟩ : S125) (Kd.R_nil _ _ _ _ _) (Kd.R_mono (Kd.R_tight rfl (Kd.R_mono (ok' := fun k_ => ((fun _ => True)) k_ ∧ some k_ ≠ (u451001 : Value).ownBlock) (Kd.R_apart' (HO_6.out) (Kd.S_typed HO_451001.out) (by decide)) (fun k_ hk => ⟨trivial, hk.2⟩))) (fun _ h_ => h_)))
              (case aB => exact q30_0)
              (case aF => exact (fun _ _ => trivial))
              (case aO => exact (by (with_reducible repeat (first | apply Kd.S_alloc | apply Kd.S_drewN | apply Kd.S_drew)); exact Kd.S_mono HO_451001.out (fun k_ hk => ⟨trivial, fun e_ => hk e_⟩)))
              (case aS => exact (below_size q30_0))
              (case aL => have := LMc51.out; omega)
              intro v471 w57 ho hb hg hat
              rw [← Ny470.out] at ho
              have n0_ := Aside0.mk (blk_grown (g := gb446) (o := .cells #[.slice (some ad451) l0_0.length c0_0, .int .i64 a0_1] 24 (0, 0)) q30_1 hg (Kd.S_ne HO_451001.out BK446.out (by decide)))
              have n1_ := Aside0.mk (blk_grown (g := gb447) (o := .cells #[.slice none 0 0, .slice none 0 0] 61 (0, 0)) q30_3 hg (Kd.S_ne HO_451001.out BK447.out (by decide)))
              have n2_ := Aside0.mk (blk_grown (g := gb450) (o := .cells #[.slice none 0 0, u451001] 61 (0, 0)) q30_8 hg (Kd.S_ne HO_451001.out BK450.out (by decide)))
              have n3_ := Aside0.mk (hb)
              have n4_ := Aside0.mk (ho)
              clear BK446; clear BK447; clear BK450; clear HB; clear HO_451001; clear HO_6
              have BK446 := n0_
              have BK447 := n1_
              have BK450 := n2_
              have HB := n3_
              have HO472 := n4_
              clear n0_ n1_ n2_ n3_ n4_; clear ho hb hg hat
              obtain ⟨Ao58, co58, eo58⟩ := Kd.S_slice HO472.out
              (first | subst eo58 | (injection eo58 with f1_ f2_ f3_; have f4_ := f1_.symm; have f5_ := f3_.symm; clear f1_ f2_ f3_; subst f4_; subst f5_))
              refine hK.out _ _ ⟨(blk_cell BK450.out 0).trans rfl, (blk_cell BK450.out 1).trans rfl, (blk_cell BK446.out 0).trans rfl, (blk_cell BK446.out 1).trans rfl, ((HB.out.cell (World.block_lt_of_cell? w _ hw469_0)).trans hw469_0), ((HB.out.cell (World.block_lt_of_cell? w _ hw469_1)).trans hw469_1)⟩ (fun hHeld => ?_)
              clear hK K
              refine norm_ (a' := ?_) ?_ ?_
              rotate_left
              ·show Act.put _ (some 69) _ = _
               simp only [Act.put, List.setIfInBounds_toArray, List.set_cons_zero, List.set_cons_succ, i64_w, i32_w]
               rfl
              refine pure_ (i := 12) (N := some 70) (v := ?_) (a' := ?_) #[true,true,true,true,true,true,true,true,true,true,true,true,true,false] rfl rfl (any_of HT_.out (by kernel_rfl)) (fun _ _ _ h => h) (Or.inl ⟨by rfl, ?_⟩) ?_ ?_
              rotate_left; (· intro w'; go_simp; with_reducible rfl); rotate_left; (· simp only [Act.put, List.setIfInBounds_toArray, List.set_cons_zero, List.set_cons_succ, i64_w, i32_w]; rfl)
              refine last_ (i := 13) (N := none) #[true,true,true,true,true,true,true,true,true,true,true,true,true,true] rfl rfl (one_of HT_.out (by kernel_rfl)) (by decide) (fun K hK => ?_)
              have hs59 : w57.cell? ⟨gb450, 1, none⟩ = some (u451001) := (blk_cell BK450.out 1).trans rfl
              have hfs59 := blk_frozen BK450.out 1
              have hns59_0 := NB446_450.out
              have hns59_1 := NB447_450.out
              have hms59_0 := NB450_446.out
              have hms59_1 := NB450_447.out
              refine skip_ (w1 := ?_) (by rfl) rfl ?_ ?_
              rotate_left
              ·go_simp
               rfl
              refine hK.out _ _ ?_
              clear hK K
              refine done_ (done_of HT_.out (by kernel_rfl)) ?_
              try go_wp2
              go_roundg k2
              case measure => have := HK1.out; have := HK2.out; omega
              case rel => exact ⟨(wrap64 (x5_1 + 1)), (y470), (.slice Ao58 y470.length co58), q30_17, H', ⟨by have := HK1.out; have := HK2.out; omega⟩, ⟨by (with_reducible repeat (first | apply Kd.S_alloc | apply Kd.S_drewN | apply Kd.S_drew)); exact Kd.S_mono (Kd.S_far (p := ⟨gb450, 1, none⟩) (Kd.S_types HO472.out BK450.out (by decide)) (fun _ hk => hk.2) (.slice Ao58 y470.length co58)) (fun _ hk => trivial)⟩, ⟨by (with_reducible repeat (first | refine blk_drewN ?_ _ | refine blk_drew ?_ | refine blk_alloc ?_ _)); refine blk_far ?_ NB446_450.out _; (with_reducible repeat (first | refine blk_drewN ?_ _ | refine blk_drew ?_ | refine blk_alloc ?_ _)); exact BK446.out⟩, ⟨by (with_reducible repeat (first | refine blk_drewN ?_ _ | refine blk_drew ?_ | refine blk_alloc ?_ _)); refine blk_far ?_ NB447_450.out _; (with_reducible repeat (first | refine blk_drewN ?_ _ | refine blk_drew ?_ | refine blk_alloc ?_ _)); exact BK447.out⟩, ⟨by (with_reducible repeat (first | refine blk_drewN ?_ _ | refine blk_drew ?_ | refine blk_alloc ?_ _)); refine blk_put (cs := #[.slice none 0 0, u451001]) ?_ 1 _ rfl; (with_reducible repeat (first | refine blk_drewN ?_ _ | refine blk_drew ?_ | refine blk_alloc ?_ _)); exact BK450.out⟩, ⟨q30_0⟩⟩
             ·rw [if_neg c51] at H
              exact absurd H (by simp)
           ·rw [if_neg c40] at H
            exact absurd H (by simp)
          ·rw [if_neg c39] at H
           exact absurd H (by simp)
      ·rw [if_neg c26] at H
       exact absurd H (by simp)
     ·rw [if_neg c25] at H
      have c25b0 : decide (x5_1 < (l0_0.length : Int)) = false := decide_eq_false c25
      clear c25
      simp only [Option.some.injEq, Prod.mk.injEq] at H
      obtain ⟨rfl, rfl, rfl⟩ := H
      have hnb60 := NB446_447.out
      have hnc60 := NB447_446.out
      have hnb61 := NB446_450.out
      have hnc61 := NB450_446.out
      obtain ⟨hcz62_0, hcz62_1⟩ := ck2 BK446.out
      obtain ⟨hfz62_0, hfz62_1⟩ := fk2 BK446.out
      have hnb63 := NB450_447.out
      have hnc63 := NB447_450.out
      obtain ⟨hcz64_0, hcz64_1⟩ := ck2 BK450.out
      obtain ⟨hfz64_0, hfz64_1⟩ := fk2 BK450.out
      obtain ⟨hcz65_0, hcz65_1⟩ := ck2 BK447.out
      obtain ⟨hfz65_0, hfz65_1⟩ := fk2 BK447.out
      obtain ⟨Ao66, co66, eo66⟩ := Kd.S_slice HO_451001.out
      subst eo66
      go_wp2
      refine bodyPost_ret (results_ct rfl _ _ gb447 61 #[.slice none 0 0, .slice Ao66 x451001_1.length co66] (0, 0) _ rfl q30_2 Try.underlying61 rfl (by kernel_rfl)) rfl ?_
      exact ⟨_, _, q30_14, q30_9, by (with_reducible repeat (first | apply Kd.S_alloc | apply Kd.S_drewN | apply Kd.S_drew)); exact Kd.S_mono (Kd.S_far (p := ⟨gb447, 1, none⟩) (Kd.S_far (p := ⟨gb447, 0, none⟩) (Kd.S_types HO_451001.out BK447.out (by decide)) (fun _ hk => hk.2) (.slice none 0 0)) (fun _ hk => hk.2) (.slice Ao66 x451001_1.length co66)) (fun _ hk => trivial), q30_0⟩
 ·rw [if_neg c3] at H
  have c3b0 : (t448 == 0) = false := beq_eq_false_iff_ne.mpr c3
  have c3b1 : (t448 != 0) = true := bne_iff_ne.mpr c3
  simp only [Option.some.injEq, Prod.mk.injEq] at H
  obtain ⟨rfl, rfl, rfl⟩ := H
  go_enter Try.func31, Try.ntmps31
  go_wp2_with (first | ((with_reducible refine gate_dst (N := 1) rfl ?_); refine box_event ?hg (N := 1) ?hd (cs := #[.slice A0_0 l0_0.length c0_0, .int .i64 a0_1]) (t := 24) ?hr ?_; (case hd => rfl); (case hg => rfl); (case hr => first | (go_simp; done) | (go_simp; rfl)); intro gb446 hg w67 hbox hb; have z_ := bxk hb hg q30_13; have n0_ := Aside0.mk z_.1; have n1_ := Aside0.mk (hbox); have n2_ := Aside0.mk z_.2; have n3_ := Aside0.mk z_.2; clear z_; clear HB; have HB := n0_; have BK446 := n1_; have GW446 := n2_; have GE446 := n3_; clear n0_ n1_ n2_ n3_; clear hb hbox hg) | ((with_reducible refine gate_dst (N := 2) rfl ?_); refine box_event ?hg (N := 2) ?hd (cs := #[.slice none 0 0, .slice none 0 0]) (t := 61) ?hr ?_; (case hd => rfl); (case hg => rfl); (case hr => first | (go_simp; done) | (go_simp; rfl)); intro gb447 hg w68 hbox hb; have n0_ := Aside0.mk (blk_below (g := gb446) (o := .cells #[.slice A0_0 l0_0.length c0_0, .int .i64 a0_1] 24 (0, 0)) q30_1 hb); have z_ := bxk hb hg q30_12; have n1_ := Aside0.mk z_.1; have n2_ := Aside0.mk (hbox); have n3_ := Aside0.mk z_.2; have n4_ := Aside0.mk z_.2; clear z_; have n5_ := Aside0.mk ((q30_6 : gb446 ≠ gb447)); have n6_ := Aside0.mk ((q30_7 : gb447 ≠ gb446)); clear BK446; clear HB; have BK446 := n0_; have HB := n1_; have BK447 := n2_; have GW447 := n3_; have GE447 := n4_; have NB446_447 := n5_; have NB447_446 := n6_; clear n0_ n1_ n2_ n3_ n4_ n5_ n6_; clear hb hbox hg; have hnb69 := NB446_447.out; have hnc69 := NB447_446.out; obtain ⟨hcz70_0, hcz70_1⟩ := ck2 BK446.out; obtain ⟨hfz70_0, hfz70_1⟩ := fk2 BK446.out) | ((with_reducible refine gate_callee (f := 15) rfl ?_); refine goesL_ (some 9) rfl rfl Try.func15 (by kernel_rfl) rfl #[.agg #[.slice A0_0 l0_0.length c0_0, .int .i64 a0_1]] rfl q30_5 ?_; (with_reducible refine (dowelref09_Check.calls k _ _ l0_0 a0_1 t448 _ ?side1 ?side2 A2.out).mono ?_); (case side1 => repeat (first | exact (Kd.C_below HR0_0.out HB.out) | (with_reducible refine Kd.C_alloc ?_ _) | (with_reducible refine Kd.C_drewN ?_ _) | (with_reducible refine Kd.C_drew ?_))); (case side2 => exact HC0_0.out); rintro e w71 ⟨rfl, hb⟩; refine ⟨_, rfl, ?_⟩; have n0_ := Aside0.mk (blk_below (g := gb446) (o := .cells #[.slice A0_0 l0_0.length c0_0, .int .i64 a0_1] 24 (0, 0)) q30_1 hb); have n1_ := Aside0.mk (blk_below (g := gb447) (o := .cells #[.slice none 0 0, .slice none 0 0] 61 (0, 0)) q30_3 hb); have n2_ := Aside0.mk (below_step q30_4 hb); clear BK446; clear BK447; clear HB; have BK446 := n0_; have BK447 := n1_; have HB := n2_; clear n0_ n1_ n2_; (try clear hb); (try clear hb2); (try clear hk); (try clear hi); obtain ⟨hcz72_0, hcz72_1⟩ := ck2 BK447.out; obtain ⟨hfz72_0, hfz72_1⟩ := fk2 BK447.out))
  refine bodyPost_ret (results_ct rfl _ _ gb447 61 #[.slice none 0 0, .slice none 0 0] (0, 0) _ rfl q30_2 Try.underlying61 rfl (by kernel_rfl)) rfl ?_
  exact ⟨_, _, q30_14, q30_9, q30_11, q30_4⟩
end Go.Proofs.Ytebiogaacikphaa.PAll
end
