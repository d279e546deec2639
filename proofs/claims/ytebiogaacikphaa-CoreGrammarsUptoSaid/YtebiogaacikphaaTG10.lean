/- Parts of the proof of coreGrammars: PAllx8, PAllx9, Names. No condition beyond each lemma's own. -/
import Derived.Test.YtebiogaacikphaaTG4
import Derived.Test.YtebiogaacikphaaTG9
section
namespace Go.Proofs.Ytebiogaacikphaa.PAll
open Go.RowKit Go.Proofs.YtebiogaacikphaaW.PrintWords Go.Proofs.YtebiogaacikphaaW.PrintLast Go.Proofs.YtebiogaacikphaaW.PrintMore
attribute [local go_sem] max2_int max_two
set_option linter.unusedVariables false
set_option linter.unusedSimpArgs false
theorem q8_7 {p : Prop} (h : p := by have := HJ4.out; have := HJ13.out; first | omega | exact Nat.le_refl _) : p := h
theorem q8_6 {p : Prop} (h : p := by have := HJ4.out; first | omega | exact Nat.le_refl _) : p := h
theorem q8_5 {p : Prop} (h : p := by first | rfl | (simp; done) | (simp only [← hji26] <;> (first | rfl | simp)) | (simp [*]; done)) : p := h
theorem q8_4 {p : Prop} (h : p := by (try simp only [List.map_toArray, List.map_cons, List.map_nil]); first | done | (simp only [hji26]; rfl) | rfl | (simp only [List.length_drop, List.length_take]; rfl)) : p := h
theorem q8_3 {p : Prop} (h : p := by first | (with_reducible assumption) | assumption) : p := h
theorem q8_2 {p : Prop} (h : p := by first | rfl | (simp; done) | (simp [*]; done)) : p := h
theorem q8_1 {p : Prop} (h : p := by (try simp only [List.map_toArray, List.map_cons, List.map_nil]); first | done | rfl | (simp only [List.length_drop, List.length_take]; rfl)) : p := h
theorem q8_0 {p : Prop} (h : p := by repeat (first | exact Drawn0.refl _ | apply Drawn0.step)) : p := h
mutual
def dowelref04_named.j0 : Nat → ByteArray → Int → Bool → Option (Int)
 | 0, _, _, _ => none
 | k + 1, x0, x5, x32 => if x32 = true then ((dowelref04_own.f k x0 (wrap64 (x5 + 2))).bind fun t112 => (if t112 > (wrap64 (x5 + 2)) then (dowelref04_named.j1 k x0 t112) else (dowelref04_named.j1 k x0 x5))) else (dowelref04_named.j1 k x0 x5)
def dowelref04_named.j1 : Nat → ByteArray → Int → Option (Int)
 | 0, _, _ => none
 | k + 1, x0, x5 => if x5 < (x0.size : Int) then (if 0 ≤ x5 then (dowelref04_named.j2 k x0 x5 ((bt x0 x5) == 126)) else (none)) else (dowelref04_named.j2 k x0 x5 false)
def dowelref04_named.j2 : Nat → ByteArray → Int → Bool → Option (Int)
 | 0, _, _, _ => none
 | k + 1, x0, x5, x51 => if x51 = true then ((dowelref04_digits.f k x0 (wrap64 (x5 + 1))).bind fun t113 => (if t113 > (wrap64 (x5 + 1)) then (if t113 ≤ (wrap64 (x5 + 6)) then (if 0 ≤ (wrap64 (x5 + 1)) then (if (wrap64 (x5 + 1)) < (x0.size : Int) then (if (bt x0 (wrap64 (x5 + 1))) = 48 then (some x5) else (some t113)) else (none)) else (none)) else (some x5)) else (some x5))) else (some x5)
end
def dowelref04_named.f (k : Nat) (a0 : ByteArray) (a1 : Int) : Option (Int) := (dowelref04_own.f k a0 a1).bind fun t111 => (if t111 = a1 then (some a1) else (if (wrap64 (t111 + 1)) < (a0.size : Int) then (if 0 ≤ t111 then (if t111 < (a0.size : Int) then (if (bt a0 t111) = 58 then (if 0 ≤ (wrap64 (t111 + 1)) then (dowelref04_named.j0 k a0 t111 ((bt a0 (wrap64 (t111 + 1))) == 58)) else (none)) else (dowelref04_named.j0 k a0 t111 false)) else (none)) else (none)) else (dowelref04_named.j0 k a0 t111 false)))
theorem dowelref04_named.mono_l : ∀ k, (∀ y0 y1 y2, LeO (dowelref04_named.j0 k y0 y1 y2) (dowelref04_named.j0 (k + 1) y0 y1 y2)) ∧ (∀ y0 y1, LeO (dowelref04_named.j1 k y0 y1) (dowelref04_named.j1 (k + 1) y0 y1)) ∧ (∀ y0 y1 y2, LeO (dowelref04_named.j2 k y0 y1 y2) (dowelref04_named.j2 (k + 1) y0 y1 y2))
 | 0 => ⟨fun _ _ _ r h => by simp [dowelref04_named.j0] at h, fun _ _ r h => by simp [dowelref04_named.j1] at h, fun _ _ _ r h => by simp [dowelref04_named.j2] at h⟩
 | k + 1 => by
  obtain ⟨ih0, ih1, ih2⟩ := dowelref04_named.mono_l k
  refine ⟨?_, ?_, ?_⟩
  ·intro y0 y1 y2
   unfold dowelref04_named.j0
   repeat' first
   | (with_reducible exact ih0 _ _ _)
   | (with_reducible exact ih1 _ _)
   | (with_reducible exact ih2 _ _ _)
   | (with_reducible exact dowelref04_digits.mono _ _ _)
   | (with_reducible exact dowelref04_own.mono _ _ _)
   | (with_reducible exact LeO.refl _)
   | (with_reducible exact LeO.none _)
   | (with_reducible refine LeO.ite ?_ ?_)
   | (with_reducible refine LeO.bind ?_ (fun _ => ?_))
   | exact ih0 _ _ _
   | exact ih1 _ _
   | exact ih2 _ _ _
   | exact dowelref04_digits.mono _ _ _
   | exact dowelref04_own.mono _ _ _
   | exact LeO.none _
   | refine LeO.ite ?_ ?_
   | refine LeO.bind ?_ (fun _ => ?_)
  ·intro y0 y1
   unfold dowelref04_named.j1
   repeat' first
   | (with_reducible exact ih0 _ _ _)
   | (with_reducible exact ih1 _ _)
   | (with_reducible exact ih2 _ _ _)
   | (with_reducible exact dowelref04_digits.mono _ _ _)
   | (with_reducible exact dowelref04_own.mono _ _ _)
   | (with_reducible exact LeO.refl _)
   | (with_reducible exact LeO.none _)
   | (with_reducible refine LeO.ite ?_ ?_)
   | (with_reducible refine LeO.bind ?_ (fun _ => ?_))
   | exact ih0 _ _ _
   | exact ih1 _ _
   | exact ih2 _ _ _
   | exact dowelref04_digits.mono _ _ _
   | exact dowelref04_own.mono _ _ _
   | exact LeO.none _
   | refine LeO.ite ?_ ?_
   | refine LeO.bind ?_ (fun _ => ?_)
  ·intro y0 y1 y2
   unfold dowelref04_named.j2
   repeat' first
   | (with_reducible exact ih0 _ _ _)
   | (with_reducible exact ih1 _ _)
   | (with_reducible exact ih2 _ _ _)
   | (with_reducible exact dowelref04_digits.mono _ _ _)
   | (with_reducible exact dowelref04_own.mono _ _ _)
   | (with_reducible exact LeO.refl _)
   | (with_reducible exact LeO.none _)
   | (with_reducible refine LeO.ite ?_ ?_)
   | (with_reducible refine LeO.bind ?_ (fun _ => ?_))
   | exact ih0 _ _ _
   | exact ih1 _ _
   | exact ih2 _ _ _
   | exact dowelref04_digits.mono _ _ _
   | exact dowelref04_own.mono _ _ _
   | exact LeO.none _
   | refine LeO.ite ?_ ?_
   | refine LeO.bind ?_ (fun _ => ?_)
theorem dowelref04_named.mono : ∀ a0 a1 k, LeO (dowelref04_named.f k a0 a1) (dowelref04_named.f (k + 1) a0 a1) := by
 intro a0 a1 k
 obtain ⟨ih0, ih1, ih2⟩ := dowelref04_named.mono_l k
 unfold dowelref04_named.f
 repeat' first
   | (with_reducible exact ih0 _ _ _)
   | (with_reducible exact ih1 _ _)
   | (with_reducible exact ih2 _ _ _)
   | (with_reducible exact dowelref04_digits.mono _ _ _)
   | (with_reducible exact dowelref04_own.mono _ _ _)
   | (with_reducible exact LeO.refl _)
   | (with_reducible exact LeO.none _)
   | (with_reducible refine LeO.ite ?_ ?_)
   | (with_reducible refine LeO.bind ?_ (fun _ => ?_))
   | exact ih0 _ _ _
   | exact ih1 _ _
   | exact ih2 _ _ _
   | exact dowelref04_digits.mono _ _ _
   | exact dowelref04_own.mono _ _ _
   | exact LeO.none _
   | refine LeO.ite ?_ ?_
   | refine LeO.bind ?_ (fun _ => ?_)
set_option maxHeartbeats 8000000 in
set_option maxRecDepth 100000 in
theorem dowelref04_named.calls (k : Nat) (a0 : ByteArray) (a1 : Int) (r : Int) (w : World) (h : dowelref04_named.f k a0 a1 = some r) :
  Calls Try.prog 82 #[.string a0, .int .i64 a1] w fun e w' => e = .returned (.int .i64 r) ∧ Drawn0 w w' := by
 have H : ((dowelref04_own.f k a0 a1).bind fun t111 => (if t111 = a1 then (some a1) else (if (wrap64 (t111 + 1)) < (a0.size : Int) then (if 0 ≤ t111 then (if t111 < (a0.size : Int) then (if (bt a0 t111) = 58 then (if 0 ≤ (wrap64 (t111 + 1)) then (dowelref04_named.j0 k a0 t111 ((bt a0 (wrap64 (t111 + 1))) == 58)) else (none)) else (dowelref04_named.j0 k a0 t111 false)) else (none)) else (none)) else (dowelref04_named.j0 k a0 t111 false)))) = some r := h
 clear h
 replace H := Option.bind_eq_some_iff.mp H
 obtain ⟨t111, A30, H⟩ := H
 replace H : (if t111 = a1 then (some a1) else (if (wrap64 (t111 + 1)) < (a0.size : Int) then (if 0 ≤ t111 then (if t111 < (a0.size : Int) then (if (bt a0 t111) = 58 then (if 0 ≤ (wrap64 (t111 + 1)) then (dowelref04_named.j0 k a0 t111 ((bt a0 (wrap64 (t111 + 1))) == 58)) else (none)) else (dowelref04_named.j0 k a0 t111 false)) else (none)) else (none)) else (dowelref04_named.j0 k a0 t111 false))) = some r := H
 have A3 := Aside0.mk A30; clear A30
 by_cases c4 : t111 = a1
 ·rw [if_pos c4] at H
  have c4b0 : (t111 == a1) = true := beq_iff_eq.mpr c4
  have c4b1 : (t111 != a1) = false := bne_eq_false_iff_eq.mpr c4
  clear c4
  obtain rfl := Option.some.inj H
  go_enter Try.func82, Try.ntmps82
  go_wp2_with (first | ((with_reducible refine gate_callee (f := 102) rfl ?_); refine goesL_ (some 10) rfl rfl Try.func102 (by kernel_rfl) rfl #[.string a0, .int .i64 a1] rfl q8_1 ?_; (with_reducible refine (dowelref04_own.calls k a0 a1 t111 _ A3.out).mono ?_); rintro e w' ⟨rfl, ⟨nd, rfl⟩⟩; refine ⟨_, rfl, ?_⟩))
  go_ret
  exact ⟨q8_2, q8_0⟩
 ·rw [if_neg c4] at H
  have c4b0 : (t111 == a1) = false := beq_eq_false_iff_ne.mpr c4
  have c4b1 : (t111 != a1) = true := bne_iff_ne.mpr c4
  have HC5 := Aside0.mk H; clear H
  go_enter Try.func82, Try.ntmps82
  go_upto_region 4 with (first | ((with_reducible refine gate_callee (f := 102) rfl ?_); refine goesL_ (some 10) rfl rfl Try.func102 (by kernel_rfl) rfl #[.string a0, .int .i64 a1] rfl q8_1 ?_; (with_reducible refine (dowelref04_own.calls k a0 a1 t111 _ A3.out).mono ?_); rintro e w' ⟨rfl, ⟨nd, rfl⟩⟩; refine ⟨_, rfl, ?_⟩))
  (try simp only [Act.put, List.setIfInBounds_toArray, List.set_cons_zero, List.set_cons_succ])
  go_cut [32] (fun v32 wc => ∃ (kq : Nat) (x32_4 : Bool), v32 = .bool x32_4 ∧ Aside0 (dowelref04_named.j0 kq a0 t111 x32_4 = some r) ∧ Aside0 (kq ≤ k) ∧ Drawn0 w wc)
  case first =>
   have H := HC5.out
   clear HC5
   by_cases c6 : (wrap64 (t111 + 1)) < (a0.size : Int)
   ·rw [if_pos c6] at H
    have c6b0 : decide ((wrap64 (t111 + 1)) < (a0.size : Int)) = true := decide_eq_true c6
    clear c6
    (first | rw [c6b0] | (simp only [i64_w, i32_w]; rw [c6b0]) | skip)
    by_cases c7 : 0 ≤ t111
    ·rw [if_pos c7] at H
     have c7b0 : decide (0 ≤ t111) = true := decide_eq_true c7
     clear c7
     by_cases c8 : t111 < (a0.size : Int)
     ·rw [if_pos c8] at H
      have c8b0 : decide (t111 < (a0.size : Int)) = true := decide_eq_true c8
      clear c8
      by_cases c10 : (bt a0 t111) = 58
      ·rw [if_pos c10] at H
       have c10b0 : ((bt a0 t111) == 58) = true := beq_iff_eq.mpr c10
       have c10b1 : ((bt a0 t111) != 58) = false := bne_eq_false_iff_eq.mpr c10
       clear c10
       obtain ⟨ji11, hji11⟩ : ∃ j_ : Int, (wrap64 (t111 + 1)) = j_ := ⟨_, rfl⟩
       replace H : (if 0 ≤ (ji11) then (dowelref04_named.j0 k a0 t111 ((bt a0 (ji11)) == 58)) else (none)) = some r := by first | (rw [hji11] at H; exact H) | (simp only [hji11] at H ⊢; exact H)
       (try rw [hji11] at c6b0)
       have hji11w : (IntKind.i64.wrap (t111 + 1)) = ji11 := (i64_w _).trans hji11
       by_cases c12 : 0 ≤ (ji11)
       ·rw [if_pos c12] at H
        have c12b0 : decide (0 ≤ (ji11)) = true := decide_eq_true c12
        clear c12
        have H' := Aside0.mk H
        clear H
        have p9 : 0 ≤ (t111 : Int) := of_decide_eq_true q8_3
        have q9 : t111 < (a0.size : Int) := of_decide_eq_true q8_3
        have hx9 := bt_at a0 t111
        replace p9 := eq_true p9
        replace q9 := eq_true q9
        have p13 : 0 ≤ ((ji11) : Int) := of_decide_eq_true q8_3
        have q13 : (ji11) < (a0.size : Int) := of_decide_eq_true q8_3
        have hx13 := bt_at a0 (ji11)
        replace p13 := eq_true p13
        replace q13 := eq_true q13
        go_wp2
        go_meet
        case rel => exact ⟨_, (((bt a0 (ji11)) == 58)), (by first | rfl | (simp; done) | (simp only [← hji11] <;> (first | rfl | simp)) | (simp [*]; done)), H', ⟨by first | omega | exact Nat.le_refl _⟩, q8_0⟩
       ·rw [if_neg c12] at H
        exact absurd H (by simp)
      ·rw [if_neg c10] at H
       have c10b0 : ((bt a0 t111) == 58) = false := beq_eq_false_iff_ne.mpr c10
       have c10b1 : ((bt a0 t111) != 58) = true := bne_iff_ne.mpr c10
       have H' := Aside0.mk H
       clear H
       have p9 : 0 ≤ (t111 : Int) := of_decide_eq_true q8_3
       have q9 : t111 < (a0.size : Int) := of_decide_eq_true q8_3
       have hx9 := bt_at a0 t111
       replace p9 := eq_true p9
       replace q9 := eq_true q9
       go_wp2
       go_meet
       case rel => exact ⟨_, (false), q8_2, H', ⟨by first | omega | exact Nat.le_refl _⟩, q8_0⟩
     ·rw [if_neg c8] at H
      exact absurd H (by simp)
    ·rw [if_neg c7] at H
     exact absurd H (by simp)
   ·rw [if_neg c6] at H
    have c6b0 : decide ((wrap64 (t111 + 1)) < (a0.size : Int)) = false := decide_eq_false c6
    clear c6
    (first | rw [c6b0] | (simp only [i64_w, i32_w]; rw [c6b0]) | skip)
    have H' := Aside0.mk H
    clear H
    go_wp2
    go_meet
    case rel => exact ⟨_, (false), q8_2, H', ⟨by first | omega | exact Nat.le_refl _⟩, q8_0⟩
  case rest =>
   clear HC5; (try clear c1); (try clear p1); (try clear q1); (try clear hx1); (try clear p2); (try clear c4); (try clear c4b0); (try clear c4b1); (try clear c6); (try clear c6b0); (try clear p6); (try clear c7); (try clear c7b0); (try clear c8); (try clear c8b0); (try clear p9); (try clear q9); (try clear hx9); (try clear c10); (try clear c10b0); (try clear c10b1); (try clear c12); (try clear c12b0); (try clear p13); (try clear q13); (try clear hx13); (try clear p13); (try clear p9); (try clear q13); (try clear q9)
   obtain ⟨kq, x32_4, rfl, HA, HJ4, ⟨mc4, rfl⟩⟩ := hcut
   cases kq with
   | zero => exact absurd HA.out (by simp [dowelref04_named.j0])
   | succ kj4 =>
    have H := HA.out
    clear HA
    simp only [dowelref04_named.j0] at H
    have HC14 := Aside0.mk H; clear H
    go_upto_if 32 with (fail)
    go_cut [5] (fun v5 wc => ∃ (kq : Nat) (x5_13 : Int), v5 = .int .i64 x5_13 ∧ Aside0 (dowelref04_named.j1 kq a0 x5_13 = some r) ∧ Aside0 (kq ≤ kj4) ∧ Drawn0 w wc)
    case first =>
     have H := HC14.out
     clear HC14
     by_cases c15 : x32_4 = true
     ·subst c15
      have H1 : ((dowelref04_own.f kj4 a0 (wrap64 (t111 + 2))).bind fun t112 => (if t112 > (wrap64 (t111 + 2)) then (dowelref04_named.j1 kj4 a0 t112) else (dowelref04_named.j1 kj4 a0 t111))) = some r := by rw [if_pos rfl] at H; exact H
      clear H
      have H := H1
      clear H1
      replace H := Option.bind_eq_some_iff.mp H
      obtain ⟨t112, A160, H⟩ := H
      replace H : (if t112 > (wrap64 (t111 + 2)) then (dowelref04_named.j1 kj4 a0 t112) else (dowelref04_named.j1 kj4 a0 t111)) = some r := H
      have A16 := Aside0.mk A160; clear A160
      by_cases c17 : t112 > (wrap64 (t111 + 2))
      ·rw [if_pos c17] at H
       have c17b0 : decide ((wrap64 (t111 + 2)) < t112) = true := decide_eq_true c17
       clear c17
       (first | rw [c17b0] | (simp only [i64_w, i32_w]; rw [c17b0]) | skip)
       have H' := Aside0.mk H
       clear H
       go_wp2_with (first | ((with_reducible refine gate_callee (f := 102) rfl ?_); refine goesL_ (some 36) rfl rfl Try.func102 (by kernel_rfl) rfl #[.string a0, .int .i64 (wrap64 (t111 + 2))] rfl q8_1 ?_; (with_reducible refine (dowelref04_own.calls kj4 a0 (wrap64 (t111 + 2)) t112 _ A16.out).mono ?_); rintro e w' ⟨rfl, ⟨nd, rfl⟩⟩; refine ⟨_, rfl, ?_⟩))
       go_meet
       case rel => exact ⟨_, (t112), q8_2, H', ⟨q8_6⟩, q8_0⟩
      ·rw [if_neg c17] at H
       have c17b0 : decide ((wrap64 (t111 + 2)) < t112) = false := decide_eq_false c17
       clear c17
       (first | rw [c17b0] | (simp only [i64_w, i32_w]; rw [c17b0]) | skip)
       have H' := Aside0.mk H
       clear H
       go_wp2_with (first | ((with_reducible refine gate_callee (f := 102) rfl ?_); refine goesL_ (some 36) rfl rfl Try.func102 (by kernel_rfl) rfl #[.string a0, .int .i64 (wrap64 (t111 + 2))] rfl q8_1 ?_; (with_reducible refine (dowelref04_own.calls kj4 a0 (wrap64 (t111 + 2)) t112 _ A16.out).mono ?_); rintro e w' ⟨rfl, ⟨nd, rfl⟩⟩; refine ⟨_, rfl, ?_⟩))
       go_meet
       case rel => exact ⟨_, (t111), q8_2, H', ⟨q8_6⟩, q8_0⟩
     ·replace c15 := Bool.eq_false_iff.mpr c15
      subst c15
      have H1 : (dowelref04_named.j1 kj4 a0 t111) = some r := by rw [if_neg (show ¬ (false = true) by decide)] at H; exact H
      clear H
      have H := H1
      clear H1
      have H' := Aside0.mk H
      clear H
      go_wp2
      go_meet
      case rel => exact ⟨_, (t111), q8_2, H', ⟨q8_6⟩, q8_0⟩
    case rest =>
     clear HC14; (try clear c1); (try clear p1); (try clear q1); (try clear hx1); (try clear p2); (try clear c4); (try clear c4b0); (try clear c4b1); (try clear c6); (try clear c6b0); (try clear p6); (try clear c7); (try clear c7b0); (try clear c8); (try clear c8b0); (try clear p9); (try clear q9); (try clear hx9); (try clear c10); (try clear c10b0); (try clear c10b1); (try clear c12); (try clear c12b0); (try clear p13); (try clear q13); (try clear hx13); (try clear c15); (try clear c17); (try clear c17b0); (try clear p1); (try clear p13); (try clear p2); (try clear p6); (try clear p9); (try clear q1); (try clear q13); (try clear q9)
     obtain ⟨kq, x5_13, rfl, HA, HJ13, ⟨mc13, rfl⟩⟩ := hcut
     cases kq with
     | zero => exact absurd HA.out (by simp [dowelref04_named.j1])
     | succ kj13 =>
      have H := HA.out
      clear HA
      simp only [dowelref04_named.j1] at H
      have HC18 := Aside0.mk H; clear H
      go_upto_region 8 with (fail)
      go_cut [51] (fun v51 wc => ∃ (kq : Nat) (x51_17 : Bool), v51 = .bool x51_17 ∧ Aside0 (dowelref04_named.j2 kq a0 x5_13 x51_17 = some r) ∧ Aside0 (kq ≤ kj13) ∧ Drawn0 w wc)
      case first =>
       have H := HC18.out
       clear HC18
       by_cases c19 : x5_13 < (a0.size : Int)
       ·rw [if_pos c19] at H
        have c19b0 : decide (x5_13 < (a0.size : Int)) = true := decide_eq_true c19
        clear c19
        (first | rw [c19b0] | (simp only [i64_w, i32_w]; rw [c19b0]) | skip)
        by_cases c20 : 0 ≤ x5_13
        ·rw [if_pos c20] at H
         have c20b0 : decide (0 ≤ x5_13) = true := decide_eq_true c20
         clear c20
         have H' := Aside0.mk H
         clear H
         have p21 : 0 ≤ (x5_13 : Int) := of_decide_eq_true q8_3
         have q21 : x5_13 < (a0.size : Int) := of_decide_eq_true q8_3
         have hx21 := bt_at a0 x5_13
         replace p21 := eq_true p21
         replace q21 := eq_true q21
         go_wp2
         go_meet
         case rel => exact ⟨_, (((bt a0 x5_13) == 126)), q8_2, H', ⟨q8_7⟩, q8_0⟩
        ·rw [if_neg c20] at H
         exact absurd H (by simp)
       ·rw [if_neg c19] at H
        have c19b0 : decide (x5_13 < (a0.size : Int)) = false := decide_eq_false c19
        clear c19
        (first | rw [c19b0] | (simp only [i64_w, i32_w]; rw [c19b0]) | skip)
        have H' := Aside0.mk H
        clear H
        go_wp2
        go_meet
        case rel => exact ⟨_, (false), q8_2, H', ⟨q8_7⟩, q8_0⟩
      case rest =>
       clear HC18; (try clear c1); (try clear p1); (try clear q1); (try clear hx1); (try clear c2); (try clear p2); (try clear q2); (try clear hx2); (try clear c4); (try clear c4b0); (try clear c4b1); (try clear c6); (try clear c6b0); (try clear p6); (try clear c7); (try clear c7b0); (try clear c8); (try clear c8b0); (try clear p9); (try clear q9); (try clear hx9); (try clear c10); (try clear c10b0); (try clear c10b1); (try clear c12); (try clear c12b0); (try clear c13); (try clear p13); (try clear q13); (try clear hx13); (try clear c15); (try clear c17); (try clear c17b0); (try clear c19); (try clear c19b0); (try clear c20); (try clear c20b0); (try clear p21); (try clear q21); (try clear hx21); (try clear p1); (try clear p13); (try clear p2); (try clear p21); (try clear p6); (try clear p9); (try clear q1); (try clear q13); (try clear q21); (try clear q9)
       obtain ⟨kq, x51_17, rfl, HA, HJ17, ⟨mc17, rfl⟩⟩ := hcut
       cases kq with
       | zero => exact absurd HA.out (by simp [dowelref04_named.j2])
       | succ kj17 =>
        have H := HA.out
        clear HA
        simp only [dowelref04_named.j2] at H
        by_cases c22 : x51_17 = true
        ·subst c22
         have H1 : ((dowelref04_digits.f kj17 a0 (wrap64 (x5_13 + 1))).bind fun t113 => (if t113 > (wrap64 (x5_13 + 1)) then (if t113 ≤ (wrap64 (x5_13 + 6)) then (if 0 ≤ (wrap64 (x5_13 + 1)) then (if (wrap64 (x5_13 + 1)) < (a0.size : Int) then (if (bt a0 (wrap64 (x5_13 + 1))) = 48 then (some x5_13) else (some t113)) else (none)) else (none)) else (some x5_13)) else (some x5_13))) = some r := by rw [if_pos rfl] at H; exact H
         clear H
         have H := H1
         clear H1
         replace H := Option.bind_eq_some_iff.mp H
         obtain ⟨t113, A230, H⟩ := H
         replace H : (if t113 > (wrap64 (x5_13 + 1)) then (if t113 ≤ (wrap64 (x5_13 + 6)) then (if 0 ≤ (wrap64 (x5_13 + 1)) then (if (wrap64 (x5_13 + 1)) < (a0.size : Int) then (if (bt a0 (wrap64 (x5_13 + 1))) = 48 then (some x5_13) else (some t113)) else (none)) else (none)) else (some x5_13)) else (some x5_13)) = some r := H
         have A23 := Aside0.mk A230; clear A230
         by_cases c24 : t113 > (wrap64 (x5_13 + 1))
         ·rw [if_pos c24] at H
          have c24b0 : decide ((wrap64 (x5_13 + 1)) < t113) = true := decide_eq_true c24
          clear c24
          by_cases c25 : t113 ≤ (wrap64 (x5_13 + 6))
          ·rw [if_pos c25] at H
           have c25b0 : decide (t113 ≤ (wrap64 (x5_13 + 6))) = true := decide_eq_true c25
           clear c25
           obtain ⟨ji26, hji26⟩ : ∃ j_ : Int, (wrap64 (x5_13 + 1)) = j_ := ⟨_, rfl⟩
           replace H : (if 0 ≤ (ji26) then (if (ji26) < (a0.size : Int) then (if (bt a0 (ji26)) = 48 then (some x5_13) else (some t113)) else (none)) else (none)) = some r := by first | (rw [hji26] at H; exact H) | (simp only [hji26] at H ⊢; exact H)
           (try rw [hji26] at c24b0)
           (try rw [hji26] at A23)
           have hji26w : (IntKind.i64.wrap (x5_13 + 1)) = ji26 := (i64_w _).trans hji26
           by_cases c27 : 0 ≤ (ji26)
           ·rw [if_pos c27] at H
            have c27b0 : decide (0 ≤ (ji26)) = true := decide_eq_true c27
            clear c27
            by_cases c28 : (ji26) < (a0.size : Int)
            ·rw [if_pos c28] at H
             have c28b0 : decide ((ji26) < (a0.size : Int)) = true := decide_eq_true c28
             clear c28
             by_cases c30 : (bt a0 (ji26)) = 48
             ·rw [if_pos c30] at H
              have c30b0 : ((bt a0 (ji26)) == 48) = true := beq_iff_eq.mpr c30
              have c30b1 : ((bt a0 (ji26)) != 48) = false := bne_eq_false_iff_eq.mpr c30
              clear c30
              obtain rfl := Option.some.inj H
              go_wp2_with (first | ((with_reducible refine gate_callee (f := 103) rfl ?_); refine goesL_ (some 55) rfl rfl Try.func103 (by kernel_rfl) rfl #[.string a0, .int .i64 ji26] rfl q8_4 ?_; (with_reducible refine (dowelref04_digits.calls kj17 a0 ji26 t113 _ A23.out).mono ?_); rintro e w' ⟨rfl, ⟨nd, rfl⟩⟩; refine ⟨_, rfl, ?_⟩; have p29 : 0 ≤ ((ji26) : Int) := of_decide_eq_true q8_3; have q29 : (ji26) < (a0.size : Int) := of_decide_eq_true q8_3; have hx29 := bt_at a0 (ji26); replace p29 := eq_true p29; replace q29 := eq_true q29))
              go_ret
              exact ⟨q8_5, q8_0⟩
             ·rw [if_neg c30] at H
              have c30b0 : ((bt a0 (ji26)) == 48) = false := beq_eq_false_iff_ne.mpr c30
              have c30b1 : ((bt a0 (ji26)) != 48) = true := bne_iff_ne.mpr c30
              obtain rfl := Option.some.inj H
              go_wp2_with (first | ((with_reducible refine gate_callee (f := 103) rfl ?_); refine goesL_ (some 55) rfl rfl Try.func103 (by kernel_rfl) rfl #[.string a0, .int .i64 ji26] rfl q8_4 ?_; (with_reducible refine (dowelref04_digits.calls kj17 a0 ji26 t113 _ A23.out).mono ?_); rintro e w' ⟨rfl, ⟨nd, rfl⟩⟩; refine ⟨_, rfl, ?_⟩; have p29 : 0 ≤ ((ji26) : Int) := of_decide_eq_true q8_3; have q29 : (ji26) < (a0.size : Int) := of_decide_eq_true q8_3; have hx29 := bt_at a0 (ji26); replace p29 := eq_true p29; replace q29 := eq_true q29))
              go_ret
              exact ⟨q8_5, q8_0⟩
            ·rw [if_neg c28] at H
             exact absurd H (by simp)
           ·rw [if_neg c27] at H
            exact absurd H (by simp)
          ·rw [if_neg c25] at H
           have c25b0 : decide (t113 ≤ (wrap64 (x5_13 + 6))) = false := decide_eq_false c25
           clear c25
           obtain rfl := Option.some.inj H
           go_wp2_with (first | ((with_reducible refine gate_callee (f := 103) rfl ?_); refine goesL_ (some 55) rfl rfl Try.func103 (by kernel_rfl) rfl #[.string a0, .int .i64 (wrap64 (x5_13 + 1))] rfl q8_1 ?_; (with_reducible refine (dowelref04_digits.calls kj17 a0 (wrap64 (x5_13 + 1)) t113 _ A23.out).mono ?_); rintro e w' ⟨rfl, ⟨nd, rfl⟩⟩; refine ⟨_, rfl, ?_⟩))
           go_ret
           exact ⟨q8_2, q8_0⟩
         ·rw [if_neg c24] at H
          have c24b0 : decide ((wrap64 (x5_13 + 1)) < t113) = false := decide_eq_false c24
          clear c24
          obtain rfl := Option.some.inj H
          go_wp2_with (first | ((with_reducible refine gate_callee (f := 103) rfl ?_); refine goesL_ (some 55) rfl rfl Try.func103 (by kernel_rfl) rfl #[.string a0, .int .i64 (wrap64 (x5_13 + 1))] rfl q8_1 ?_; (with_reducible refine (dowelref04_digits.calls kj17 a0 (wrap64 (x5_13 + 1)) t113 _ A23.out).mono ?_); rintro e w' ⟨rfl, ⟨nd, rfl⟩⟩; refine ⟨_, rfl, ?_⟩))
          go_ret
          exact ⟨q8_2, q8_0⟩
        ·replace c22 := Bool.eq_false_iff.mpr c22
         subst c22
         have H1 : (some x5_13) = some r := by rw [if_neg (show ¬ (false = true) by decide)] at H; exact H
         clear H
         have H := H1
         clear H1
         obtain rfl := Option.some.inj H
         go_wp2
         go_ret
         exact ⟨q8_2, q8_0⟩
def dowelref04_Name.f (k : Nat) (a0 : ByteArray) : Option (Bool) := if a0.toList = ([] : List UInt8) then (some false) else (if (a0.size : Int) ≤ 64 then ((dowelref04_named.f k a0 0).bind fun t114 => (some (t114 == (a0.size : Int)))) else (some false))
theorem dowelref04_Name.mono : ∀ a0 k, LeO (dowelref04_Name.f k a0) (dowelref04_Name.f (k + 1) a0) := by
 intro a0 k
 unfold dowelref04_Name.f
 repeat' first
   | (with_reducible exact dowelref04_named.mono _ _ _)
   | (with_reducible exact LeO.refl _)
   | (with_reducible exact LeO.none _)
   | (with_reducible refine LeO.ite ?_ ?_)
   | (with_reducible refine LeO.bind ?_ (fun _ => ?_))
   | exact dowelref04_named.mono _ _ _
   | exact LeO.none _
   | refine LeO.ite ?_ ?_
   | refine LeO.bind ?_ (fun _ => ?_)
set_option maxHeartbeats 8000000 in
set_option maxRecDepth 100000 in
theorem dowelref04_Name.calls (k : Nat) (a0 : ByteArray) (r : Bool) (w : World) (h : dowelref04_Name.f k a0 = some r) :
  Calls Try.prog 43 #[.string a0] w fun e w' => e = .returned (.bool r) ∧ Drawn0 w w' := by
 have H : (if a0.toList = ([] : List UInt8) then (some false) else (if (a0.size : Int) ≤ 64 then ((dowelref04_named.f k a0 0).bind fun t114 => (some (t114 == (a0.size : Int)))) else (some false))) = some r := h
 clear h
 by_cases c2 : a0.toList = ([] : List UInt8)
 ·rw [if_pos c2] at H
  have c2b0 : (a0.toList == ([] : List UInt8)) = true := beq_iff_eq.mpr c2
  have c2b1 : (a0.toList != ([] : List UInt8)) = false := bne_eq_false_iff_eq.mpr c2
  clear c2
  obtain rfl := Option.some.inj H
  go_enter Try.func43, Try.ntmps43
  go_wp2
  go_ret
  exact ⟨q8_2, q8_0⟩
 ·rw [if_neg c2] at H
  have c2b0 : (a0.toList == ([] : List UInt8)) = false := beq_eq_false_iff_ne.mpr c2
  have c2b1 : (a0.toList != ([] : List UInt8)) = true := bne_iff_ne.mpr c2
  by_cases c3 : (a0.size : Int) ≤ 64
  ·rw [if_pos c3] at H
   have c3b0 : decide ((a0.size : Int) ≤ 64) = true := decide_eq_true c3
   have c3b1 : decide (a0.size ≤ 64) = true := decide_eq_true (by omega)
   clear c3
   replace H := Option.bind_eq_some_iff.mp H
   obtain ⟨t114, A40, H⟩ := H
   replace H : (some (t114 == (a0.size : Int))) = some r := H
   have A4 := Aside0.mk A40; clear A40
   obtain rfl := Option.some.inj H
   go_enter Try.func43, Try.ntmps43
   go_wp2_with (first | (go_at_call 82; (with_reducible refine (dowelref04_named.calls k a0 0 t114 _ A4.out).mono ?_); rintro e w' ⟨rfl, ⟨nd, rfl⟩⟩))
   go_ret
   exact ⟨q8_2, q8_0⟩
  ·rw [if_neg c3] at H
   have c3b0 : decide ((a0.size : Int) ≤ 64) = false := decide_eq_false c3
   have c3b1 : decide (a0.size ≤ 64) = false := decide_eq_false (by omega)
   clear c3
   obtain rfl := Option.some.inj H
   go_enter Try.func43, Try.ntmps43
   go_wp2
   go_ret
   exact ⟨q8_2, q8_0⟩
end Go.Proofs.Ytebiogaacikphaa.PAll
end
section
namespace Go.Proofs.Ytebiogaacikphaa.PAll
open Go.RowKit Go.Proofs.YtebiogaacikphaaW.PrintWords Go.Proofs.YtebiogaacikphaaW.PrintLast Go.Proofs.YtebiogaacikphaaW.PrintMore
attribute [local go_sem] max2_int max_two
set_option linter.unusedVariables false
set_option linter.unusedSimpArgs false
theorem q9_4 {p : Prop} (h : p := by first | omega | exact Nat.le_refl _) : p := h
theorem q9_3 {p : Prop} (h : p := by have := HJ1.out; first | omega | exact Nat.le_refl _) : p := h
theorem q9_2 {p : Prop} (h : p := by first | (with_reducible assumption) | assumption) : p := h
theorem q9_1 {p : Prop} (h : p := by first | rfl | (simp; done) | (simp [*]; done)) : p := h
theorem q9_0 {p : Prop} (h : p := by repeat (first | exact Drawn0.refl _ | apply Drawn0.step)) : p := h
mutual
def dowelref09_count.j0 : Nat → Int → Bool → Option (Int)
 | 0, _, _ => none
 | k + 1, x3, x4 => if x4 = true then (some 0) else (if x3 = 6 then (dowelref09_count.j1 k x3 (x3 == 6)) else (if x3 = 7 then (dowelref09_count.j1 k x3 (x3 == 7)) else (dowelref09_count.j1 k x3 (x3 == 8))))
def dowelref09_count.j1 : Nat → Int → Bool → Option (Int)
 | 0, _, _ => none
 | k + 1, x3, x9 => if x9 = true then (some 1) else (if x3 = 4 then (some 2) else (if x3 = 5 then (some 2) else (some (-1))))
end
def dowelref09_count.f (k : Nat) (a0 : Int) : Option (Int) := if a0 = 0 then (dowelref09_count.j0 k a0 (a0 == 0)) else (if a0 = 1 then (dowelref09_count.j0 k a0 (a0 == 1)) else (if a0 = 2 then (dowelref09_count.j0 k a0 (a0 == 2)) else (dowelref09_count.j0 k a0 (a0 == 3))))
theorem dowelref09_count.mono_l : ∀ k, (∀ y0 y1, LeO (dowelref09_count.j0 k y0 y1) (dowelref09_count.j0 (k + 1) y0 y1)) ∧ (∀ y0 y1, LeO (dowelref09_count.j1 k y0 y1) (dowelref09_count.j1 (k + 1) y0 y1))
 | 0 => ⟨fun _ _ r h => by simp [dowelref09_count.j0] at h, fun _ _ r h => by simp [dowelref09_count.j1] at h⟩
 | k + 1 => by
  obtain ⟨ih0, ih1⟩ := dowelref09_count.mono_l k
  refine ⟨?_, ?_⟩
  ·intro y0 y1
   unfold dowelref09_count.j0
   repeat' first
   | (with_reducible exact ih0 _ _)
   | (with_reducible exact ih1 _ _)
   | (with_reducible exact LeO.refl _)
   | (with_reducible exact LeO.none _)
   | (with_reducible refine LeO.ite ?_ ?_)
   | (with_reducible refine LeO.bind ?_ (fun _ => ?_))
   | exact ih0 _ _
   | exact ih1 _ _
   | exact LeO.none _
   | refine LeO.ite ?_ ?_
   | refine LeO.bind ?_ (fun _ => ?_)
  ·intro y0 y1
   unfold dowelref09_count.j1
   repeat' first
   | (with_reducible exact ih0 _ _)
   | (with_reducible exact ih1 _ _)
   | (with_reducible exact LeO.refl _)
   | (with_reducible exact LeO.none _)
   | (with_reducible refine LeO.ite ?_ ?_)
   | (with_reducible refine LeO.bind ?_ (fun _ => ?_))
   | exact ih0 _ _
   | exact ih1 _ _
   | exact LeO.none _
   | refine LeO.ite ?_ ?_
   | refine LeO.bind ?_ (fun _ => ?_)
theorem dowelref09_count.mono : ∀ a0 k, LeO (dowelref09_count.f k a0) (dowelref09_count.f (k + 1) a0) := by
 intro a0 k
 obtain ⟨ih0, ih1⟩ := dowelref09_count.mono_l k
 unfold dowelref09_count.f
 repeat' first
   | (with_reducible exact ih0 _ _)
   | (with_reducible exact ih1 _ _)
   | (with_reducible exact LeO.refl _)
   | (with_reducible exact LeO.none _)
   | (with_reducible refine LeO.ite ?_ ?_)
   | (with_reducible refine LeO.bind ?_ (fun _ => ?_))
   | exact ih0 _ _
   | exact ih1 _ _
   | exact LeO.none _
   | refine LeO.ite ?_ ?_
   | refine LeO.bind ?_ (fun _ => ?_)
set_option maxHeartbeats 8000000 in
set_option maxRecDepth 100000 in
theorem dowelref09_count.calls (k : Nat) (a0 : Int) (r : Int) (w : World) (h : dowelref09_count.f k a0 = some r) :
  Calls Try.prog 45 #[.int .i64 a0] w fun e w' => e = .returned (.int .i64 r) ∧ Drawn0 w w' := by
 have H : (if a0 = 0 then (dowelref09_count.j0 k a0 (a0 == 0)) else (if a0 = 1 then (dowelref09_count.j0 k a0 (a0 == 1)) else (if a0 = 2 then (dowelref09_count.j0 k a0 (a0 == 2)) else (dowelref09_count.j0 k a0 (a0 == 3))))) = some r := h
 clear h; have HC2 := Aside0.mk H; clear H
 go_enter Try.func45, Try.ntmps45
 go_upto_if 4 with (fail)
 go_cut [4] (fun v4 wc => ∃ (kq : Nat) (x4_1 : Bool), v4 = .bool x4_1 ∧ Aside0 (dowelref09_count.j0 kq a0 x4_1 = some r) ∧ Aside0 (kq ≤ k) ∧ Drawn0 w wc)
 case first =>
  have H := HC2.out
  clear HC2
  by_cases c3 : a0 = 0
  ·rw [if_pos c3] at H
   have c3b0 : (a0 == 0) = true := beq_iff_eq.mpr c3
   have c3b1 : (a0 != 0) = false := bne_eq_false_iff_eq.mpr c3
   clear c3
   (first | rw [c3b0] | (simp only [i64_w, i32_w]; rw [c3b0]) | skip)
   have H' := Aside0.mk H
   clear H
   go_wp2
   go_meet
   case rel => exact ⟨_, ((a0 == 0)), q9_1, H', ⟨q9_4⟩, q9_0⟩
  ·rw [if_neg c3] at H
   have c3b0 : (a0 == 0) = false := beq_eq_false_iff_ne.mpr c3
   have c3b1 : (a0 != 0) = true := bne_iff_ne.mpr c3
   (first | rw [c3b0] | (simp only [i64_w, i32_w]; rw [c3b0]) | skip)
   by_cases c4 : a0 = 1
   ·rw [if_pos c4] at H
    have c4b0 : (a0 == 1) = true := beq_iff_eq.mpr c4
    have c4b1 : (a0 != 1) = false := bne_eq_false_iff_eq.mpr c4
    clear c4
    have H' := Aside0.mk H
    clear H
    go_wp2
    go_meet
    case rel => exact ⟨_, ((a0 == 1)), q9_1, H', ⟨q9_4⟩, q9_0⟩
   ·rw [if_neg c4] at H
    have c4b0 : (a0 == 1) = false := beq_eq_false_iff_ne.mpr c4
    have c4b1 : (a0 != 1) = true := bne_iff_ne.mpr c4
    by_cases c5 : a0 = 2
    ·rw [if_pos c5] at H
     have c5b0 : (a0 == 2) = true := beq_iff_eq.mpr c5
     have c5b1 : (a0 != 2) = false := bne_eq_false_iff_eq.mpr c5
     clear c5
     have H' := Aside0.mk H
     clear H
     go_wp2
     go_meet
     case rel => exact ⟨_, ((a0 == 2)), q9_1, H', ⟨q9_4⟩, q9_0⟩
    ·rw [if_neg c5] at H
     have c5b0 : (a0 == 2) = false := beq_eq_false_iff_ne.mpr c5
     have c5b1 : (a0 != 2) = true := bne_iff_ne.mpr c5
     have H' := Aside0.mk H
     clear H
     go_wp2
     go_meet
     case rel => exact ⟨_, ((a0 == 3)), q9_1, H', ⟨q9_4⟩, q9_0⟩
 case rest =>
  clear HC2; (try clear p2); (try clear c3); (try clear c3b0); (try clear c3b1); (try clear c4); (try clear c4b0); (try clear c4b1); (try clear c5); (try clear c5b0); (try clear c5b1)
  obtain ⟨kq, x4_1, rfl, HA, HJ1, ⟨mc1, rfl⟩⟩ := hcut
  cases kq with
  | zero => exact absurd HA.out (by simp [dowelref09_count.j0])
  | succ kj1 =>
   have H := HA.out
   clear HA
   simp only [dowelref09_count.j0] at H
   by_cases c6 : x4_1 = true
   ·subst c6
    have H1 : (some 0) = some r := by rw [if_pos rfl] at H; exact H
    clear H
    have H := H1
    clear H1
    obtain rfl := Option.some.inj H
    go_wp2
    go_ret
    exact ⟨q9_1, q9_0⟩
   ·replace c6 := Bool.eq_false_iff.mpr c6
    subst c6
    have H1 : (if a0 = 6 then (dowelref09_count.j1 kj1 a0 (a0 == 6)) else (if a0 = 7 then (dowelref09_count.j1 kj1 a0 (a0 == 7)) else (dowelref09_count.j1 kj1 a0 (a0 == 8)))) = some r := by rw [if_neg (show ¬ (false = true) by decide)] at H; exact H
    clear H
    have H := H1
    clear H1; have HC7 := Aside0.mk H; clear H
    go_upto_if 9 with (fail)
    go_cut [9] (fun v9 wc => ∃ (kq : Nat) (x9_6 : Bool), v9 = .bool x9_6 ∧ Aside0 (dowelref09_count.j1 kq a0 x9_6 = some r) ∧ Aside0 (kq ≤ kj1) ∧ Drawn0 w wc)
    case first =>
     have H := HC7.out
     clear HC7
     by_cases c8 : a0 = 6
     ·rw [if_pos c8] at H
      have c8b0 : (a0 == 6) = true := beq_iff_eq.mpr c8
      have c8b1 : (a0 != 6) = false := bne_eq_false_iff_eq.mpr c8
      clear c8
      (first | rw [c8b0] | (simp only [i64_w, i32_w]; rw [c8b0]) | skip)
      have H' := Aside0.mk H
      clear H
      go_wp2
      go_meet
      case rel => exact ⟨_, ((a0 == 6)), q9_1, H', ⟨q9_3⟩, q9_0⟩
     ·rw [if_neg c8] at H
      have c8b0 : (a0 == 6) = false := beq_eq_false_iff_ne.mpr c8
      have c8b1 : (a0 != 6) = true := bne_iff_ne.mpr c8
      (first | rw [c8b0] | (simp only [i64_w, i32_w]; rw [c8b0]) | skip)
      by_cases c9 : a0 = 7
      ·rw [if_pos c9] at H
       have c9b0 : (a0 == 7) = true := beq_iff_eq.mpr c9
       have c9b1 : (a0 != 7) = false := bne_eq_false_iff_eq.mpr c9
       clear c9
       have H' := Aside0.mk H
       clear H
       go_wp2
       go_meet
       case rel => exact ⟨_, ((a0 == 7)), q9_1, H', ⟨q9_3⟩, q9_0⟩
      ·rw [if_neg c9] at H
       have c9b0 : (a0 == 7) = false := beq_eq_false_iff_ne.mpr c9
       have c9b1 : (a0 != 7) = true := bne_iff_ne.mpr c9
       have H' := Aside0.mk H
       clear H
       go_wp2
       go_meet
       case rel => exact ⟨_, ((a0 == 8)), q9_1, H', ⟨q9_3⟩, q9_0⟩
    case rest =>
     clear HC7; (try clear c1); (try clear p2); (try clear c3); (try clear c3b0); (try clear c3b1); (try clear c4); (try clear c4b0); (try clear c4b1); (try clear c5); (try clear c5b0); (try clear c5b1); (try clear c6); (try clear c8); (try clear c8b0); (try clear c8b1); (try clear c9); (try clear c9b0); (try clear c9b1); (try clear p2)
     obtain ⟨kq, x9_6, rfl, HA, HJ6, ⟨mc6, rfl⟩⟩ := hcut
     cases kq with
     | zero => exact absurd HA.out (by simp [dowelref09_count.j1])
     | succ kj6 =>
      have H := HA.out
      clear HA
      simp only [dowelref09_count.j1] at H
      by_cases c10 : x9_6 = true
      ·subst c10
       have H1 : (some 1) = some r := by rw [if_pos rfl] at H; exact H
       clear H
       have H := H1
       clear H1
       obtain rfl := Option.some.inj H
       go_wp2
       go_ret
       exact ⟨q9_1, q9_0⟩
      ·replace c10 := Bool.eq_false_iff.mpr c10
       subst c10
       have H1 : (if a0 = 4 then (some 2) else (if a0 = 5 then (some 2) else (some (-1)))) = some r := by rw [if_neg (show ¬ (false = true) by decide)] at H; exact H
       clear H
       have H := H1
       clear H1
       by_cases c11 : a0 = 4
       ·rw [if_pos c11] at H
        have c11b0 : (a0 == 4) = true := beq_iff_eq.mpr c11
        have c11b1 : (a0 != 4) = false := bne_eq_false_iff_eq.mpr c11
        clear c11
        obtain rfl := Option.some.inj H
        go_wp2
        go_ret
        exact ⟨q9_1, q9_0⟩
       ·rw [if_neg c11] at H
        have c11b0 : (a0 == 4) = false := beq_eq_false_iff_ne.mpr c11
        have c11b1 : (a0 != 4) = true := bne_iff_ne.mpr c11
        by_cases c12 : a0 = 5
        ·rw [if_pos c12] at H
         have c12b0 : (a0 == 5) = true := beq_iff_eq.mpr c12
         have c12b1 : (a0 != 5) = false := bne_eq_false_iff_eq.mpr c12
         clear c12
         obtain rfl := Option.some.inj H
         go_wp2
         go_ret
         exact ⟨q9_1, q9_0⟩
        ·rw [if_neg c12] at H
         have c12b0 : (a0 == 5) = false := beq_eq_false_iff_ne.mpr c12
         have c12b1 : (a0 != 5) = true := bne_iff_ne.mpr c12
         obtain rfl := Option.some.inj H
         go_wp2
         go_ret
         exact ⟨q9_1, q9_0⟩
def dowelbase_Own.l0 : Nat → ByteArray → Int → Option (Bool)
 | 0, _, _ => none
 | k + 1, x0, x3 => if x3 < (x0.size : Int) then (if 0 ≤ x3 then (if (bt x0 x3) = 58 then (some false) else (if (bt x0 x3) = 126 then (some false) else (dowelbase_Own.l0 k x0 (wrap64 (x3 + 1))))) else (none)) else (some true)
def dowelbase_Own.f (k : Nat) (a0 : ByteArray) : Option (Bool) := dowelbase_Own.l0 k a0 0
theorem dowelbase_Own.mono_l : ∀ k, (∀ y0 y1, LeO (dowelbase_Own.l0 k y0 y1) (dowelbase_Own.l0 (k + 1) y0 y1))
 | 0 => fun _ _ r h => by simp [dowelbase_Own.l0] at h
 | k + 1 => by
  have ih0 := dowelbase_Own.mono_l k
  ·intro y0 y1
   unfold dowelbase_Own.l0
   repeat' first
   | (with_reducible exact ih0 _ _)
   | (with_reducible exact LeO.refl _)
   | (with_reducible exact LeO.none _)
   | (with_reducible refine LeO.ite ?_ ?_)
   | (with_reducible refine LeO.bind ?_ (fun _ => ?_))
   | exact ih0 _ _
   | exact LeO.none _
   | refine LeO.ite ?_ ?_
   | refine LeO.bind ?_ (fun _ => ?_)
theorem dowelbase_Own.mono : ∀ a0 k, LeO (dowelbase_Own.f k a0) (dowelbase_Own.f (k + 1) a0) := by
 intro a0 k
 have ih0 := dowelbase_Own.mono_l k
 unfold dowelbase_Own.f
 repeat' first
   | (with_reducible exact ih0 _ _)
   | (with_reducible exact LeO.refl _)
   | (with_reducible exact LeO.none _)
   | (with_reducible refine LeO.ite ?_ ?_)
   | (with_reducible refine LeO.bind ?_ (fun _ => ?_))
   | exact ih0 _ _
   | exact LeO.none _
   | refine LeO.ite ?_ ?_
   | refine LeO.bind ?_ (fun _ => ?_)
set_option maxHeartbeats 8000000 in
set_option maxRecDepth 100000 in
theorem dowelbase_Own.calls (k : Nat) (a0 : ByteArray) (r : Bool) (w : World) (h : dowelbase_Own.f k a0 = some r) :
  Calls Try.prog 104 #[.string a0] w fun e w' => e = .returned (.bool r) ∧ Drawn0 w w' := by
 have H : (dowelbase_Own.l0 k a0 0) = some r := h
 clear h
 have H' := Aside0.mk H
 clear H
 go_enter Try.func104, Try.ntmps104
 go_wp2
 go_loopg [3] k (fun kq v3 w' => ∃ (x3_1 : Int), v3 = .int .i64 x3_1 ∧ Aside0 (dowelbase_Own.l0 kq a0 x3_1 = some r) ∧ Aside0 (kq ≤ k) ∧ Drawn0 w w')
 case atStart => exact ⟨(0), q9_1, H', ⟨Nat.le_refl _⟩, q9_0⟩
 case round =>
  clear H'; (try clear c1)
  obtain ⟨x3_1, rfl, HA, HK1, ⟨m1, rfl⟩⟩ := hrel
  cases gk with
  | zero => exact absurd HA.out (by simp [dowelbase_Own.l0])
  | succ k1 =>
   have H := HA.out
   clear HA
   simp only [dowelbase_Own.l0] at H
   by_cases c2 : x3_1 < (a0.size : Int)
   ·rw [if_pos c2] at H
    have c2b0 : decide (x3_1 < (a0.size : Int)) = true := decide_eq_true c2
    clear c2
    by_cases c3 : 0 ≤ x3_1
    ·rw [if_pos c3] at H
     have c3b0 : decide (0 ≤ x3_1) = true := decide_eq_true c3
     clear c3
     by_cases c5 : (bt a0 x3_1) = 58
     ·rw [if_pos c5] at H
      have c5b0 : ((bt a0 x3_1) == 58) = true := beq_iff_eq.mpr c5
      have c5b1 : ((bt a0 x3_1) != 58) = false := bne_eq_false_iff_eq.mpr c5
      clear c5
      obtain rfl := Option.some.inj H
      have p4 : 0 ≤ (x3_1 : Int) := of_decide_eq_true q9_2
      have q4 : x3_1 < (a0.size : Int) := of_decide_eq_true q9_2
      have hx4 := bt_at a0 x3_1
      replace p4 := eq_true p4
      replace q4 := eq_true q4
      go_wp2
      go_ret
      exact ⟨q9_1, q9_0⟩
     ·rw [if_neg c5] at H
      have c5b0 : ((bt a0 x3_1) == 58) = false := beq_eq_false_iff_ne.mpr c5
      have c5b1 : ((bt a0 x3_1) != 58) = true := bne_iff_ne.mpr c5
      by_cases c7 : (bt a0 x3_1) = 126
      ·rw [if_pos c7] at H
       have c7b0 : ((bt a0 x3_1) == 126) = true := beq_iff_eq.mpr c7
       have c7b1 : ((bt a0 x3_1) != 126) = false := bne_eq_false_iff_eq.mpr c7
       clear c7
       obtain rfl := Option.some.inj H
       have p4 : 0 ≤ (x3_1 : Int) := of_decide_eq_true q9_2
       have q4 : x3_1 < (a0.size : Int) := of_decide_eq_true q9_2
       have hx4 := bt_at a0 x3_1
       replace p4 := eq_true p4
       replace q4 := eq_true q4
       have p6 : 0 ≤ (x3_1 : Int) := of_decide_eq_true q9_2
       have q6 : x3_1 < (a0.size : Int) := of_decide_eq_true q9_2
       have hx6 := bt_at a0 x3_1
       replace p6 := eq_true p6
       replace q6 := eq_true q6
       go_wp2
       go_ret
       exact ⟨q9_1, q9_0⟩
      ·rw [if_neg c7] at H
       have c7b0 : ((bt a0 x3_1) == 126) = false := beq_eq_false_iff_ne.mpr c7
       have c7b1 : ((bt a0 x3_1) != 126) = true := bne_iff_ne.mpr c7
       have H' := Aside0.mk H
       clear H
       have p4 : 0 ≤ (x3_1 : Int) := of_decide_eq_true q9_2
       have q4 : x3_1 < (a0.size : Int) := of_decide_eq_true q9_2
       have hx4 := bt_at a0 x3_1
       replace p4 := eq_true p4
       replace q4 := eq_true q4
       have p6 : 0 ≤ (x3_1 : Int) := of_decide_eq_true q9_2
       have q6 : x3_1 < (a0.size : Int) := of_decide_eq_true q9_2
       have hx6 := bt_at a0 x3_1
       replace p6 := eq_true p6
       replace q6 := eq_true q6
       go_wp2
       go_roundg k1
       case measure => have := HK1.out; omega
       case rel => exact ⟨(wrap64 (x3_1 + 1)), q9_1, H', ⟨by have := HK1.out; omega⟩, q9_0⟩
    ·rw [if_neg c3] at H
     exact absurd H (by simp)
   ·rw [if_neg c2] at H
    have c2b0 : decide (x3_1 < (a0.size : Int)) = false := decide_eq_false c2
    clear c2
    obtain rfl := Option.some.inj H
    go_wp2
    go_ret
    exact ⟨q9_1, q9_0⟩
end Go.Proofs.Ytebiogaacikphaa.PAll
end
section
namespace Go.Proofs.Ytebiogaacikphaa.Names
open Go.RowKit Go.Proofs.YtebiogaacikphaaW.PrintWords Go.Proofs.Ytebiogaacikphaa.PAll
set_option linter.unusedVariables false
def letterI (a : Int) : Bool := (decide (97 ≤ a) && decide (a ≤ 122)) || (decide (65 ≤ a) && decide (a ≤ 90)) || a == 95
def digitI (a : Int) : Bool := decide (48 ≤ a) && decide (a ≤ 57)
def letter (c : UInt8) : Bool := letterI c.toNat
def digit (c : UInt8) : Bool := digitI c.toNat
/-- How many bytes at the front meet p. -/
def run (p : UInt8 → Bool) : List UInt8 → Nat
  | [] => 0
  | c :: r => if p c then run p r + 1 else 0
def inName (c : UInt8) : Bool := letter c || digit c
def ownLen : List UInt8 → Nat
  | [] => 0
  | c :: r => if letter c then run inName r + 1 else 0
/-- '::' and an own name. -/
def more (r : List UInt8) : Nat := match r with
  | 58 :: 58 :: r' => if ownLen r' = 0 then 0 else ownLen r' + 2
  | _ => 0
/-- '~' and up to five digits, the first of which isn't 0. -/
def tilde (r : List UInt8) : Nat := match r with
  | 126 :: r' => if run digit r' = 0 ∨ 5 < run digit r' ∨ r'.head? = some 48 then 0 else run digit r' + 1
  | _ => 0
def namedLen (l : List UInt8) : Nat :=
  if ownLen l = 0 then 0 else (ownLen l + more (l.drop (ownLen l))) + tilde (l.drop (ownLen l + more (l.drop (ownLen l))))
def isName (l : List UInt8) : Bool := decide (l ≠ []) && decide (l.length ≤ 64) && decide (namedLen l = l.length)
def isOwn (l : List UInt8) : Bool := l.all fun c => c != 58 && c != 126
theorem run_le (p : UInt8 → Bool) : ∀ l : List UInt8, run p l ≤ l.length
  | [] => Nat.le_refl _
  | c :: r => by
    have := run_le p r
    unfold run
    split <;> simp <;> omega
theorem ownLen_le : ∀ l : List UInt8, ownLen l ≤ l.length
  | [] => Nat.le_refl _
  | c :: r => by
    have := run_le inName r
    rw [ownLen, List.length_cons]
    split <;> omega
theorem letter_some (a : Int) : dowelref04_letter.f a = some (letterI a) := by
  unfold dowelref04_letter.f letterI
  by_cases h1 : 97 ≤ a <;> by_cases h2 : a ≤ 122 <;> by_cases h3 : 65 ≤ a <;> by_cases h4 : a ≤ 90 <;> simp [h1, h2, h3, h4]
theorem digit_some (a : Int) : dowelref04_digit.f a = some (digitI a) := by
  unfold dowelref04_digit.f digitI
  by_cases h1 : 48 ≤ a <;> simp [h1]
theorem drop_at {l : List UInt8} {i : Nat} (h : i < l.length) : l.drop i = l[i] :: l.drop (i + 1) := List.drop_eq_getElem_cons h
/-- The loop of dowelref04.own from a place on. -/
theorem refown_loop (s : ByteArray) (hs : s.data.toList.length ≤ 140737488351232) : ∀ (d i : Nat), i + d = s.data.toList.length →
    Ev (fun k => dowelref04_own.l0 k s (i : Int)) (((i + run inName (s.data.toList.drop i) : Nat) : Nat) : Int) := by
  intro d
  induction d with
  | zero =>
    intro i hi
    refine Ev.step (fun _ => by rw [dowelref04_own.l0]) ?_
    refine Ev.neg (by rw [size_list]; omega) ?_
    exact Ev.some_ (by rw [List.drop_of_length_le (by omega)]; simp [run])
  | succ d ih =>
    intro i hi
    have hlt : i < s.data.toList.length := by omega
    refine Ev.step (fun _ => by rw [dowelref04_own.l0]) ?_
    refine Ev.pos (by rw [size_list]; omega) ?_
    refine Ev.pos (by omega) ?_
    refine Ev.bind (Ev.const (letter_some _)) ?_
    have hw : wrap64 ((i : Int) + 1) = ((i + 1 : Nat) : Int) := by rw [w64] <;> omega
    rw [bt_nat s i hlt, hw, drop_at hlt]
    generalize s.data.toList[i] = c
    have hin : inName c = (letterI c.toNat || digitI c.toNat) := rfl
    refine Ev.ite (fun h => ?_) (fun h => ?_)
    · exact (ih (i + 1) (by omega)).to (by rw [run, hin, h, if_pos (by simp)]; omega)
    · refine Ev.bind (Ev.const (digit_some _)) ?_
      refine Ev.ite (fun h' => ?_) (fun h' => ?_)
      · exact (ih (i + 1) (by omega)).to (by rw [run, hin, h', if_pos (by simp)]; omega)
      · exact Ev.some_ (by rw [run, hin, if_neg (by simp [h, h'])]; rfl)
theorem refown_ev (s : ByteArray) (hs : s.data.toList.length ≤ 140737488351232) (i : Nat) (hi : i ≤ s.data.toList.length) :
    Ev (fun k => dowelref04_own.f k s (i : Int)) ((i + ownLen (s.data.toList.drop i) : Nat) : Int) := by
  unfold dowelref04_own.f
  rcases Nat.lt_or_ge i s.data.toList.length with h | h
  · refine Ev.neg (by rw [size_list]; omega) ?_
    refine Ev.pos (by omega) ?_
    refine Ev.pos (by rw [size_list]; omega) ?_
    refine Ev.bind (Ev.const (letter_some _)) ?_
    have hloop := refown_loop s hs (s.data.toList.length - i) i (by omega)
    rw [bt_nat s i h]
    rw [drop_at h] at hloop ⊢
    generalize s.data.toList[i] = c at hloop ⊢
    have hc : letterI c.toNat = letter c := rfl
    rw [hc]
    refine Ev.step (fun _ => by rw [dowelref04_own.j0]) ?_
    refine Ev.ite (fun hl => ?_) (fun hl => ?_)
    · have hl' : letter c = false := by simpa using hl
      exact Ev.some_ (by rw [ownLen, hl']; simp)
    · have hl' : letter c = true := by simpa using hl
      refine hloop.to ?_
      rw [ownLen, run, if_pos hl', if_pos (by simp [inName, hl'])]
  · refine Ev.pos (by rw [size_list]; omega) ?_
    refine Ev.step (fun _ => by rw [dowelref04_own.j0]) ?_
    exact Ev.pos rfl (Ev.some_ (by rw [List.drop_of_length_le (by omega)]; simp [ownLen]))
theorem refdigits_ev (s : ByteArray) (hs : s.data.toList.length ≤ 140737488351232) : ∀ (d i : Nat), i + d = s.data.toList.length →
    Ev (fun k => dowelref04_digits.l0 k s (i : Int)) ((i + run digit (s.data.toList.drop i) : Nat) : Int) := by
  intro d
  induction d with
  | zero =>
    intro i hi
    refine Ev.step (fun _ => by rw [dowelref04_digits.l0]) ?_
    refine Ev.neg (by rw [size_list]; omega) ?_
    exact Ev.some_ (by rw [List.drop_of_length_le (by omega)]; simp [run])
  | succ d ih =>
    intro i hi
    have hlt : i < s.data.toList.length := by omega
    refine Ev.step (fun _ => by rw [dowelref04_digits.l0]) ?_
    refine Ev.pos (by rw [size_list]; omega) ?_
    refine Ev.pos (by omega) ?_
    refine Ev.bind (Ev.const (digit_some _)) ?_
    have hw : wrap64 ((i : Int) + 1) = ((i + 1 : Nat) : Int) := by rw [w64] <;> omega
    rw [bt_nat s i hlt, hw, drop_at hlt]
    generalize s.data.toList[i] = c
    have hin : digit c = digitI c.toNat := rfl
    refine Ev.ite (fun h => ?_) (fun h => ?_)
    · exact (ih (i + 1) (by omega)).to (by rw [run, hin, h, if_pos (by simp)]; omega)
    · exact Ev.some_ (by rw [run, hin, if_neg (by simp [h])]; rfl)
theorem tilde_le (r : List UInt8) : tilde r ≤ r.length := by
  unfold tilde
  split
  · rename_i r'
    have := run_le digit r'
    split <;> simp <;> omega
  · exact Nat.zero_le _
theorem byte_eq {c : UInt8} {n : Nat} (hn : n < 256) : ((c.toNat : Int) = (n : Int)) ↔ c = UInt8.ofNat n := by
  constructor
  · intro h
    have h' : c.toNat = n := by omega
    rw [← h']
    exact (UInt8.ofNat_toNat).symm
  · rintro rfl
    rw [UInt8.toNat_ofNat_of_lt' (by simpa using hn)]
theorem byte_beq {c : UInt8} {n : Nat} (hn : n < 256) : ((c.toNat : Int) == (n : Int)) = (c == UInt8.ofNat n) := by
  rw [Bool.eq_iff_iff, beq_iff_eq, beq_iff_eq, byte_eq hn]
theorem beq58 (c : UInt8) : ((c.toNat : Int) == 58) = (c == 58) := @byte_beq c 58 (by omega)
theorem beq126 (c : UInt8) : ((c.toNat : Int) == 126) = (c == 126) := @byte_beq c 126 (by omega)
theorem tilde_126 (r' : List UInt8) : tilde (126 :: r') = if run digit r' = 0 ∨ 5 < run digit r' ∨ r'.head? = some 48 then 0 else run digit r' + 1 := rfl
theorem refj1_ev (s : ByteArray) (hs : s.data.toList.length ≤ 140737488351232) (i : Nat) (hi : i ≤ s.data.toList.length) :
    Ev (fun k => dowelref04_named.j1 k s (i : Int)) ((i + tilde (s.data.toList.drop i) : Nat) : Int) := by
  refine Ev.step (fun _ => by rw [dowelref04_named.j1]) ?_
  rcases Nat.lt_or_ge i s.data.toList.length with h | h
  · refine Ev.pos (by rw [size_list]; omega) ?_
    refine Ev.pos (by omega) ?_
    refine Ev.step (fun _ => by rw [dowelref04_named.j2]) ?_
    have hd := refdigits_ev s hs (s.data.toList.length - (i + 1)) (i + 1) (by omega)
    have hw : wrap64 ((i : Int) + 1) = ((i + 1 : Nat) : Int) := by rw [w64] <;> omega
    have hw6 : wrap64 ((i : Int) + 6) = ((i + 6 : Nat) : Int) := by rw [w64] <;> omega
    rw [bt_nat s i h, drop_at h, hw, hw6]
    generalize s.data.toList[i] = c
    rw [beq126]
    refine Ev.ite (fun hc => ?_) (fun hc => ?_)
    · have hc' : c = 126 := by simpa using hc
      subst hc'
      refine Ev.bind (Ev.congr (fun k => by rw [dowelref04_digits.f]) hd) ?_
      rw [tilde_126]
      refine Ev.ite (fun h1 => ?_) (fun h1 => ?_)
      · have h1' : run digit (s.data.toList.drop (i + 1)) ≠ 0 := by omega
        have hlt : i + 1 < s.data.toList.length := by
          rcases Nat.lt_or_ge (i + 1) s.data.toList.length with h' | h'
          · exact h'
          · rw [List.drop_of_length_le h'] at h1'
            exact absurd rfl h1'
        refine Ev.ite (fun h2 => ?_) (fun h2 => ?_)
        · refine Ev.pos (by omega) ?_
          refine Ev.pos (by rw [size_list]; omega) ?_
          rw [bt_nat s (i + 1) hlt]
          have hh : (s.data.toList.drop (i + 1)).head? = some s.data.toList[i + 1] := by rw [drop_at hlt]; rfl
          rw [hh]
          generalize s.data.toList[i + 1] = e
          refine Ev.ite (fun h3 => ?_) (fun h3 => ?_)
          · have h3' : e = 48 := (@byte_eq e 48 (by omega)).1 h3
            exact Ev.some_ (by rw [if_pos (.inr (.inr (by rw [h3'])))]; omega)
          · have h3' : ¬ e = 48 := fun h => h3 ((@byte_eq e 48 (by omega)).2 h)
            exact Ev.some_ (by rw [if_neg (by rintro (h | h | h); exact h1' h; omega; exact h3' (Option.some.inj h))]; omega)
        · exact Ev.some_ (by rw [if_pos (.inr (.inl (by omega)))]; omega)
      · exact Ev.some_ (by rw [if_pos (.inl (by omega))]; omega)
    · have hc' : ¬ c = 126 := by simpa using hc
      refine Ev.some_ ?_
      have : tilde (c :: s.data.toList.drop (i + 1)) = 0 := by
        unfold tilde
        split
        · rename_i heq
          injection heq with h1 _
          exact absurd h1 hc'
        · rfl
      rw [this]
      omega
  · refine Ev.neg (by rw [size_list]; omega) ?_
    refine Ev.step (fun _ => by rw [dowelref04_named.j2]) ?_
    exact Ev.neg (by simp) (Ev.some_ (by rw [List.drop_of_length_le h]; simp [tilde]))
theorem refj0_ev (s : ByteArray) (hs : s.data.toList.length ≤ 140737488351232) (i : Nat) (hi : i ≤ s.data.toList.length) (b : Bool) (hb : b = true → ∃ r, s.data.toList.drop i = 58 :: 58 :: r) (hb' : b = false → more (s.data.toList.drop i) = 0) :
    Ev (fun k => dowelref04_named.j0 k s (i : Int) b) (((i + more (s.data.toList.drop i)) + tilde (s.data.toList.drop (i + more (s.data.toList.drop i))) : Nat) : Int) := by
  refine Ev.step (fun _ => by rw [dowelref04_named.j0]) ?_
  refine Ev.ite (fun h => ?_) (fun h => ?_)
  · obtain ⟨r, hr⟩ := hb h
    have hl : i + 2 ≤ s.data.toList.length := by
      have := congrArg List.length hr
      simp only [List.length_drop, List.length_cons] at this
      omega
    have hw : wrap64 ((i : Int) + 2) = ((i + 2 : Nat) : Int) := by rw [w64] <;> omega
    rw [hw]
    have hr2 : s.data.toList.drop (i + 2) = r := by rw [← List.drop_drop, hr]; rfl
    have ho := refown_ev s hs (i + 2) hl
    have hle := ownLen_le r
    have hrl : r.length = s.data.toList.length - (i + 2) := by rw [← hr2, List.length_drop]
    rw [hr2] at ho
    refine Ev.bind ho ?_
    have hm : more (s.data.toList.drop i) = if ownLen r = 0 then 0 else ownLen r + 2 := by rw [hr, more]
    refine Ev.ite (fun h1 => ?_) (fun h1 => ?_)
    · rw [hm, if_neg (by omega)]
      have := refj1_ev s hs (i + 2 + ownLen r) (by omega)
      rw [show i + (ownLen r + 2) = i + 2 + ownLen r by omega]
      exact this
    · rw [hm, if_pos (by omega)]
      exact refj1_ev s hs i hi
  · have hb'' := hb' (by simpa using h)
    rw [hb'']
    exact refj1_ev s hs i hi
theorem refnamed_ev (s : ByteArray) (hs : s.data.toList.length ≤ 140737488351232) (i : Nat) (hi : i ≤ s.data.toList.length) :
    Ev (fun k => dowelref04_named.f k s (i : Int)) ((i + namedLen (s.data.toList.drop i) : Nat) : Int) := by
  unfold dowelref04_named.f
  refine Ev.bind (refown_ev s hs i hi) ?_
  have hle := ownLen_le (s.data.toList.drop i)
  rw [List.length_drop] at hle
  have key : ∀ b, (b = true → ∃ r, s.data.toList.drop (i + ownLen (s.data.toList.drop i)) = 58 :: 58 :: r) → (b = false → more (s.data.toList.drop (i + ownLen (s.data.toList.drop i))) = 0) → ownLen (s.data.toList.drop i) ≠ 0 →
      Ev (fun k => dowelref04_named.j0 k s ((i + ownLen (s.data.toList.drop i) : Nat) : Int) b) ((i + namedLen (s.data.toList.drop i) : Nat) : Int) := by
    intro b h1 h2 h0
    refine (refj0_ev s hs (i + ownLen (s.data.toList.drop i)) (by omega) b h1 h2).to ?_
    rw [namedLen, if_neg h0]
    simp only [List.drop_drop, Nat.add_assoc]
  refine Ev.ite (fun h => ?_) (fun h => ?_)
  · exact Ev.some_ (by rw [namedLen, if_pos (by omega)]; omega)
  · have h0 : ownLen (s.data.toList.drop i) ≠ 0 := by omega
    generalize ownLen (s.data.toList.drop i) = n at *
    have hw : wrap64 (((i + n : Nat) : Int) + 1) = ((i + n + 1 : Nat) : Int) := by rw [w64] <;> omega
    rw [hw]
    refine Ev.ite (fun h1 => ?_) (fun h1 => ?_)
    · have hlt : i + n + 1 < s.data.toList.length := by rw [size_list] at h1; omega
      refine Ev.pos (by omega) ?_
      refine Ev.pos (by rw [size_list]; omega) ?_
      have hd : s.data.toList.drop (i + n) = s.data.toList[i + n] :: s.data.toList[i + n + 1] :: s.data.toList.drop (i + n + 2) := by
        rw [drop_at (show i + n < s.data.toList.length by omega), drop_at hlt]
      rw [bt_nat s (i + n) (by omega), bt_nat s (i + n + 1) hlt]
      rw [hd] at key
      generalize s.data.toList[i + n] = c at *
      generalize s.data.toList[i + n + 1] = e at *
      refine Ev.ite (fun h2 => ?_) (fun h2 => ?_)
      · have hc : c = 58 := (@byte_eq c 58 (by omega)).1 h2
        refine Ev.pos (by omega) ?_
        rw [beq58]
        refine key _ (fun h3 => ?_) (fun h3 => ?_) h0
        · have he : e = 58 := by simpa using h3
          exact ⟨_, by rw [hc, he]⟩
        · have he : e ≠ 58 := by simpa using h3
          unfold more
          split
          · rename_i heq
            injection heq with _ h5
            injection h5 with h6 _
            exact absurd h6 he
          · rfl
      · have hc : c ≠ 58 := fun h => h2 ((@byte_eq c 58 (by omega)).2 h)
        refine key _ (fun h3 => by cases h3) (fun _ => ?_) h0
        unfold more
        split
        · rename_i heq
          injection heq with h5 _
          exact absurd h5 hc
        · rfl
    · refine key _ (fun h3 => by cases h3) (fun _ => ?_) h0
      have hlen : (s.data.toList.drop (i + n)).length ≤ 1 := by rw [List.length_drop]; rw [size_list] at h1; omega
      unfold more
      split
      · rename_i heq
        rw [heq] at hlen
        simp at hlen
      · rfl
theorem refName_ev (s : ByteArray) (hs : s.size ≤ 140737488351232) : Ev (fun k => dowelref04_Name.f k s) (isName s.data.toList) := by
  rw [size_list] at hs
  unfold dowelref04_Name.f isName
  rw [ByteArray.toList_eq, size_list]
  refine Ev.ite (fun h => ?_) (fun h => ?_)
  · exact Ev.some_ (by simp [h])
  · refine Ev.ite (fun h1 => ?_) (fun h1 => ?_)
    · refine Ev.bind (refnamed_ev s hs 0 (Nat.zero_le _)) ?_
      refine Ev.some_ ?_
      rw [List.drop_zero, Nat.zero_add, Bool.eq_iff_iff, beq_iff_eq]
      simp only [Bool.and_eq_true, decide_eq_true_eq]
      constructor
      · intro h2
        exact ⟨⟨h, by omega⟩, by omega⟩
      · intro h2
        omega
    · refine Ev.some_ ?_
      rw [decide_eq_false (show ¬ s.data.toList.length ≤ 64 by omega), Bool.and_false, Bool.false_and]
theorem own_loop (s : ByteArray) (hs : s.data.toList.length ≤ 140737488351232) : ∀ (d i : Nat), i + d = s.data.toList.length → Ev (fun k => dowelbase_Own.l0 k s (i : Int)) (isOwn (s.data.toList.drop i)) := by
  intro d
  induction d with
  | zero =>
    intro i hi
    refine Ev.step (fun _ => by rw [dowelbase_Own.l0]) ?_
    refine Ev.neg (by rw [size_list]; omega) ?_
    exact Ev.some_ (by rw [List.drop_of_length_le (by omega)]; simp [isOwn])
  | succ d ih =>
    intro i hi
    have hlt : i < s.data.toList.length := by omega
    refine Ev.step (fun _ => by rw [dowelbase_Own.l0]) ?_
    refine Ev.pos (by rw [size_list]; omega) ?_
    refine Ev.pos (by omega) ?_
    have hw : wrap64 ((i : Int) + 1) = ((i + 1 : Nat) : Int) := by rw [w64] <;> omega
    rw [bt_nat s i hlt, hw, drop_at hlt]
    generalize s.data.toList[i] = c
    refine Ev.ite (fun h => ?_) (fun h => ?_)
    · have hc : c = 58 := (@byte_eq c 58 (by omega)).1 h
      exact Ev.some_ (by simp [isOwn, hc])
    · have hc : c ≠ 58 := fun h' => h ((@byte_eq c 58 (by omega)).2 h')
      refine Ev.ite (fun h2 => ?_) (fun h2 => ?_)
      · have hc2 : c = 126 := (@byte_eq c 126 (by omega)).1 h2
        exact Ev.some_ (by simp [isOwn, hc2])
      · have hc2 : c ≠ 126 := fun h' => h2 ((@byte_eq c 126 (by omega)).2 h')
        refine (ih (i + 1) (by omega)).to ?_
        simp [isOwn, hc, hc2]
theorem own_ev (s : ByteArray) (hs : s.size ≤ 140737488351232) : Ev (fun k => dowelbase_Own.f k s) (isOwn s.data.toList) := by
  rw [size_list] at hs
  have := own_loop s hs s.data.toList.length 0 (by omega)
  rwa [List.drop_zero] at this
end Go.Proofs.Ytebiogaacikphaa.Names
end
