-- Written by a program of this session's, out of the translation. Not trusted: Lean checks it.
import Derived.Test.YtebiogaacikphaaPAllx0
import Derived.Test.YtebiogaacikphaaPAllx7
namespace Go.Proofs.Ytebiogaacikphaa.PAll
open Go.RowKit Go.Proofs.YtebiogaacikphaaW.PrintWords Go.Proofs.YtebiogaacikphaaW.PrintLast Go.Proofs.YtebiogaacikphaaW.PrintMore
attribute [local go_sem] max2_int min2_int max_two min_two max_three min_three max_four min_four   -- for this text's walks alone
set_option linter.unusedVariables false
set_option linter.unusedSimpArgs false

/-! ### dowelref04_named: function 82 -/
mutual
def dowelref04_named.j0 : Nat → ByteArray → Int → Bool → Option (Int)
  | 0, _, _, _ => none
  | k + 1, x0, x5, x32 => if x32 = true then ((dowelref04_own.f k x0 (wrap64 (x5 + 2))).bind fun t112 => (if t112 > (wrap64 (x5 + 2)) then (dowelref04_named.j1 k x0 t112) else (dowelref04_named.j1 k x0 x5))) else (dowelref04_named.j1 k x0 x5)
def dowelref04_named.j1 : Nat → ByteArray → Int → Option (Int)
  | 0, _, _ => none
  | k + 1, x0, x5 => if x5 < (x0.size : Int) then (if 0 ≤ x5 then (dowelref04_named.j2 k x0 x5 ((bt x0 x5) == 126)) else (none)) else (dowelref04_named.j2 k x0 x5 false)
def dowelref04_named.j2 : Nat → ByteArray → Int → Bool → Option (Int)
  | 0, _, _, _ => none
  | k + 1, x0, x5, x51 => if x51 = true then ((dowelref04_digits.f k x0 (wrap64 (x5 + 1))).bind fun t113 => (if t113 > (wrap64 (x5 + 1)) then (if t113 ≤ (wrap64 (x5 + 6)) then (if 0 ≤ (wrap64 (x5 + 1)) then (if (wrap64 (x5 + 1)) < (x0.size : Int) then (if (bt x0 (wrap64 (x5 + 1))) = 48 then (some x5) else (some t113)) else (none)) else (none)) else (some x5)) else (some x5))) else (some x5)
end
def dowelref04_named.f (k : Nat) (a0 : ByteArray) (a1 : Int) : Option (Int) := (dowelref04_own.f k a0 a1).bind fun t111 => (if t111 = a1 then (some a1) else (if (wrap64 (t111 + 1)) < (a0.size : Int) then (if 0 ≤ t111 then (if t111 < (a0.size : Int) then (if (bt a0 t111) = 58 then (if 0 ≤ (wrap64 (t111 + 1)) then (dowelref04_named.j0 k a0 t111 ((bt a0 (wrap64 (t111 + 1))) == 58)) else (none)) else (dowelref04_named.j0 k a0 t111 false)) else (none)) else (none)) else (dowelref04_named.j0 k a0 t111 false)))
theorem dowelref04_named.mono_l : ∀ k, (∀ y0 y1 y2, LeO (dowelref04_named.j0 k y0 y1 y2) (dowelref04_named.j0 (k + 1) y0 y1 y2)) ∧ (∀ y0 y1, LeO (dowelref04_named.j1 k y0 y1) (dowelref04_named.j1 (k + 1) y0 y1)) ∧ (∀ y0 y1 y2, LeO (dowelref04_named.j2 k y0 y1 y2) (dowelref04_named.j2 (k + 1) y0 y1 y2))
  | 0 => ⟨fun _ _ _ r h => by simp [dowelref04_named.j0] at h, fun _ _ r h => by simp [dowelref04_named.j1] at h, fun _ _ _ r h => by simp [dowelref04_named.j2] at h⟩
  | k + 1 => by
    obtain ⟨ih0, ih1, ih2⟩ := dowelref04_named.mono_l k
    refine ⟨?_, ?_, ?_⟩
    · intro y0 y1 y2
      unfold dowelref04_named.j0
      repeat' first
      | (with_reducible exact ih0 _ _ _)
      | (with_reducible exact ih1 _ _)
      | (with_reducible exact ih2 _ _ _)
      | (with_reducible exact dowelref04_digits.mono _ _ _)
      | (with_reducible exact dowelref04_own.mono _ _ _)
      | (with_reducible exact LeO.refl _)
      | (with_reducible exact LeO.none _)
      | (with_reducible refine LeO.ite ?_ ?_)
      | (with_reducible refine LeO.bind ?_ (fun _ => ?_))
      | exact ih0 _ _ _
      | exact ih1 _ _
      | exact ih2 _ _ _
      | exact dowelref04_digits.mono _ _ _
      | exact dowelref04_own.mono _ _ _
      | exact LeO.none _
      | refine LeO.ite ?_ ?_
      | refine LeO.bind ?_ (fun _ => ?_)
    · intro y0 y1
      unfold dowelref04_named.j1
      repeat' first
      | (with_reducible exact ih0 _ _ _)
      | (with_reducible exact ih1 _ _)
      | (with_reducible exact ih2 _ _ _)
      | (with_reducible exact dowelref04_digits.mono _ _ _)
      | (with_reducible exact dowelref04_own.mono _ _ _)
      | (with_reducible exact LeO.refl _)
      | (with_reducible exact LeO.none _)
      | (with_reducible refine LeO.ite ?_ ?_)
      | (with_reducible refine LeO.bind ?_ (fun _ => ?_))
      | exact ih0 _ _ _
      | exact ih1 _ _
      | exact ih2 _ _ _
      | exact dowelref04_digits.mono _ _ _
      | exact dowelref04_own.mono _ _ _
      | exact LeO.none _
      | refine LeO.ite ?_ ?_
      | refine LeO.bind ?_ (fun _ => ?_)
    · intro y0 y1 y2
      unfold dowelref04_named.j2
      repeat' first
      | (with_reducible exact ih0 _ _ _)
      | (with_reducible exact ih1 _ _)
      | (with_reducible exact ih2 _ _ _)
      | (with_reducible exact dowelref04_digits.mono _ _ _)
      | (with_reducible exact dowelref04_own.mono _ _ _)
      | (with_reducible exact LeO.refl _)
      | (with_reducible exact LeO.none _)
      | (with_reducible refine LeO.ite ?_ ?_)
      | (with_reducible refine LeO.bind ?_ (fun _ => ?_))
      | exact ih0 _ _ _
      | exact ih1 _ _
      | exact ih2 _ _ _
      | exact dowelref04_digits.mono _ _ _
      | exact dowelref04_own.mono _ _ _
      | exact LeO.none _
      | refine LeO.ite ?_ ?_
      | refine LeO.bind ?_ (fun _ => ?_)
theorem dowelref04_named.mono : ∀ a0 a1 k, LeO (dowelref04_named.f k a0 a1) (dowelref04_named.f (k + 1) a0 a1) := by
  intro a0 a1 k
  obtain ⟨ih0, ih1, ih2⟩ := dowelref04_named.mono_l k
  unfold dowelref04_named.f
  repeat' first
      | (with_reducible exact ih0 _ _ _)
      | (with_reducible exact ih1 _ _)
      | (with_reducible exact ih2 _ _ _)
      | (with_reducible exact dowelref04_digits.mono _ _ _)
      | (with_reducible exact dowelref04_own.mono _ _ _)
      | (with_reducible exact LeO.refl _)
      | (with_reducible exact LeO.none _)
      | (with_reducible refine LeO.ite ?_ ?_)
      | (with_reducible refine LeO.bind ?_ (fun _ => ?_))
      | exact ih0 _ _ _
      | exact ih1 _ _
      | exact ih2 _ _ _
      | exact dowelref04_digits.mono _ _ _
      | exact dowelref04_own.mono _ _ _
      | exact LeO.none _
      | refine LeO.ite ?_ ?_
      | refine LeO.bind ?_ (fun _ => ?_)
set_option maxHeartbeats 8000000 in
set_option maxRecDepth 100000 in
theorem dowelref04_named.calls (k : Nat) (a0 : ByteArray) (a1 : Int) (r : Int) (w : World) (h : dowelref04_named.f k a0 a1 = some r) :
    Calls Try.prog 82 #[.string a0, .int .i64 a1] w fun e w' => e = .returned (.int .i64 r) ∧ Drawn0 w w' := by
  have H : ((dowelref04_own.f k a0 a1).bind fun t111 => (if t111 = a1 then (some a1) else (if (wrap64 (t111 + 1)) < (a0.size : Int) then (if 0 ≤ t111 then (if t111 < (a0.size : Int) then (if (bt a0 t111) = 58 then (if 0 ≤ (wrap64 (t111 + 1)) then (dowelref04_named.j0 k a0 t111 ((bt a0 (wrap64 (t111 + 1))) == 58)) else (none)) else (dowelref04_named.j0 k a0 t111 false)) else (none)) else (none)) else (dowelref04_named.j0 k a0 t111 false)))) = some r := h
  clear h
  replace H := Option.bind_eq_some_iff.mp H
  obtain ⟨t111, A30, H⟩ := H
  replace H : (if t111 = a1 then (some a1) else (if (wrap64 (t111 + 1)) < (a0.size : Int) then (if 0 ≤ t111 then (if t111 < (a0.size : Int) then (if (bt a0 t111) = 58 then (if 0 ≤ (wrap64 (t111 + 1)) then (dowelref04_named.j0 k a0 t111 ((bt a0 (wrap64 (t111 + 1))) == 58)) else (none)) else (dowelref04_named.j0 k a0 t111 false)) else (none)) else (none)) else (dowelref04_named.j0 k a0 t111 false))) = some r := H
  have A3 := Aside0.mk A30
  clear A30
  by_cases c4 : t111 = a1
  · rw [if_pos c4] at H
    have c4b0 : (t111 == a1) = true := beq_iff_eq.mpr c4
    have c4b1 : (t111 != a1) = false := bne_eq_false_iff_eq.mpr c4
    clear c4
    obtain rfl := Option.some.inj H
    go_enter Try.func82, Try.ntmps82
    go_wp2_with (first | ((with_reducible refine gate_callee (f := 102) rfl ?_); refine goesL_ (some 10) rfl rfl Try.func102 (by kernel_rfl) rfl #[.string a0, .int .i64 a1] rfl (by (try simp only [List.map_toArray, List.map_cons, List.map_nil]); first | done | rfl | (simp only [List.length_drop, List.length_take]; rfl)) ?_; (with_reducible refine (dowelref04_own.calls k a0 a1 t111 _ A3.out).mono ?_); rintro e w' ⟨rfl, ⟨nd, rfl⟩⟩; refine ⟨_, rfl, ?_⟩))
    go_ret
    exact ⟨by first | rfl | (simp; done) | (simp [*]; done), by repeat (first | exact Drawn0.refl _ | apply Drawn0.step)⟩
  · rw [if_neg c4] at H
    have c4b0 : (t111 == a1) = false := beq_eq_false_iff_ne.mpr c4
    have c4b1 : (t111 != a1) = true := bne_iff_ne.mpr c4
    have HC5 := Aside0.mk H
    clear H
    go_enter Try.func82, Try.ntmps82
    go_upto_region 4 with (first | ((with_reducible refine gate_callee (f := 102) rfl ?_); refine goesL_ (some 10) rfl rfl Try.func102 (by kernel_rfl) rfl #[.string a0, .int .i64 a1] rfl (by (try simp only [List.map_toArray, List.map_cons, List.map_nil]); first | done | rfl | (simp only [List.length_drop, List.length_take]; rfl)) ?_; (with_reducible refine (dowelref04_own.calls k a0 a1 t111 _ A3.out).mono ?_); rintro e w' ⟨rfl, ⟨nd, rfl⟩⟩; refine ⟨_, rfl, ?_⟩))
    (try simp only [Act.put, List.setIfInBounds_toArray, List.set_cons_zero, List.set_cons_succ])
    go_cut [32] (fun v32 wc => ∃ (kq : Nat) (x32_4 : Bool), v32 = .bool x32_4 ∧ Aside0 (dowelref04_named.j0 kq a0 t111 x32_4 = some r) ∧ Aside0 (kq ≤ k) ∧ Drawn0 w wc)
    case first =>
      have H := HC5.out
      clear HC5
      by_cases c6 : (wrap64 (t111 + 1)) < (a0.size : Int)
      · rw [if_pos c6] at H
        have c6b0 : decide ((wrap64 (t111 + 1)) < (a0.size : Int)) = true := decide_eq_true c6
        clear c6
        (first | rw [c6b0] | (simp only [i64_w, i32_w]; rw [c6b0]) | skip)
        by_cases c7 : 0 ≤ t111
        · rw [if_pos c7] at H
          have c7b0 : decide (0 ≤ t111) = true := decide_eq_true c7
          clear c7
          by_cases c8 : t111 < (a0.size : Int)
          · rw [if_pos c8] at H
            have c8b0 : decide (t111 < (a0.size : Int)) = true := decide_eq_true c8
            clear c8
            by_cases c10 : (bt a0 t111) = 58
            · rw [if_pos c10] at H
              have c10b0 : ((bt a0 t111) == 58) = true := beq_iff_eq.mpr c10
              have c10b1 : ((bt a0 t111) != 58) = false := bne_eq_false_iff_eq.mpr c10
              clear c10
              obtain ⟨ji11, hji11⟩ : ∃ j_ : Int, (wrap64 (t111 + 1)) = j_ := ⟨_, rfl⟩
              replace H : (if 0 ≤ (ji11) then (dowelref04_named.j0 k a0 t111 ((bt a0 (ji11)) == 58)) else (none)) = some r := by first | (rw [hji11] at H; exact H) | (simp only [hji11] at H ⊢; exact H)
              (try rw [hji11] at c6b0)
              have hji11w : (IntKind.i64.wrap (t111 + 1)) = ji11 := (i64_w _).trans hji11
              by_cases c12 : 0 ≤ (ji11)
              · rw [if_pos c12] at H
                have c12b0 : decide (0 ≤ (ji11)) = true := decide_eq_true c12
                clear c12
                have H' := Aside0.mk H
                clear H
                have p9 : 0 ≤ (t111 : Int) := of_decide_eq_true (by first | (with_reducible assumption) | assumption)
                have q9 : t111 < (a0.size : Int) := of_decide_eq_true (by first | (with_reducible assumption) | assumption)
                have hx9 := bt_at a0 t111
                replace p9 := eq_true p9
                replace q9 := eq_true q9
                have p13 : 0 ≤ ((ji11) : Int) := of_decide_eq_true (by first | (with_reducible assumption) | assumption)
                have q13 : (ji11) < (a0.size : Int) := of_decide_eq_true (by first | (with_reducible assumption) | assumption)
                have hx13 := bt_at a0 (ji11)
                replace p13 := eq_true p13
                replace q13 := eq_true q13
                go_wp2
                go_meet
                case rel => exact ⟨_, (((bt a0 (ji11)) == 58)), (by first | rfl | (simp; done) | (simp only [← hji11] <;> (first | rfl | simp)) | (simp [*]; done)), H', ⟨by first | omega | exact Nat.le_refl _⟩, by repeat (first | exact Drawn0.refl _ | apply Drawn0.step)⟩
              · rw [if_neg c12] at H
                exact absurd H (by simp)
            · rw [if_neg c10] at H
              have c10b0 : ((bt a0 t111) == 58) = false := beq_eq_false_iff_ne.mpr c10
              have c10b1 : ((bt a0 t111) != 58) = true := bne_iff_ne.mpr c10
              have H' := Aside0.mk H
              clear H
              have p9 : 0 ≤ (t111 : Int) := of_decide_eq_true (by first | (with_reducible assumption) | assumption)
              have q9 : t111 < (a0.size : Int) := of_decide_eq_true (by first | (with_reducible assumption) | assumption)
              have hx9 := bt_at a0 t111
              replace p9 := eq_true p9
              replace q9 := eq_true q9
              go_wp2
              go_meet
              case rel => exact ⟨_, (false), (by first | rfl | (simp; done) | (simp [*]; done)), H', ⟨by first | omega | exact Nat.le_refl _⟩, by repeat (first | exact Drawn0.refl _ | apply Drawn0.step)⟩
          · rw [if_neg c8] at H
            exact absurd H (by simp)
        · rw [if_neg c7] at H
          exact absurd H (by simp)
      · rw [if_neg c6] at H
        have c6b0 : decide ((wrap64 (t111 + 1)) < (a0.size : Int)) = false := decide_eq_false c6
        clear c6
        (first | rw [c6b0] | (simp only [i64_w, i32_w]; rw [c6b0]) | skip)
        have H' := Aside0.mk H
        clear H
        go_wp2
        go_meet
        case rel => exact ⟨_, (false), (by first | rfl | (simp; done) | (simp [*]; done)), H', ⟨by first | omega | exact Nat.le_refl _⟩, by repeat (first | exact Drawn0.refl _ | apply Drawn0.step)⟩
    case rest =>
      clear HC5
      try clear c1
      try clear p1
      try clear q1
      try clear hx1
      try clear p2
      try clear c4
      try clear c4b0
      try clear c4b1
      try clear c6
      try clear c6b0
      try clear p6
      try clear c7
      try clear c7b0
      try clear c8
      try clear c8b0
      try clear p9
      try clear q9
      try clear hx9
      try clear c10
      try clear c10b0
      try clear c10b1
      try clear c12
      try clear c12b0
      try clear p13
      try clear q13
      try clear hx13
      try clear p13
      try clear p9
      try clear q13
      try clear q9
      obtain ⟨kq, x32_4, rfl, HA, HJ4, ⟨mc4, rfl⟩⟩ := hcut
      cases kq with
      | zero => exact absurd HA.out (by simp [dowelref04_named.j0])
      | succ kj4 =>
        have H := HA.out
        clear HA
        simp only [dowelref04_named.j0] at H
        have HC14 := Aside0.mk H
        clear H
        go_upto_if 32 with (fail)
        go_cut [5] (fun v5 wc => ∃ (kq : Nat) (x5_13 : Int), v5 = .int .i64 x5_13 ∧ Aside0 (dowelref04_named.j1 kq a0 x5_13 = some r) ∧ Aside0 (kq ≤ kj4) ∧ Drawn0 w wc)
        case first =>
          have H := HC14.out
          clear HC14
          by_cases c15 : x32_4 = true
          · subst c15
            have H1 : ((dowelref04_own.f kj4 a0 (wrap64 (t111 + 2))).bind fun t112 => (if t112 > (wrap64 (t111 + 2)) then (dowelref04_named.j1 kj4 a0 t112) else (dowelref04_named.j1 kj4 a0 t111))) = some r := by rw [if_pos rfl] at H; exact H
            clear H
            have H := H1
            clear H1
            replace H := Option.bind_eq_some_iff.mp H
            obtain ⟨t112, A160, H⟩ := H
            replace H : (if t112 > (wrap64 (t111 + 2)) then (dowelref04_named.j1 kj4 a0 t112) else (dowelref04_named.j1 kj4 a0 t111)) = some r := H
            have A16 := Aside0.mk A160
            clear A160
            by_cases c17 : t112 > (wrap64 (t111 + 2))
            · rw [if_pos c17] at H
              have c17b0 : decide ((wrap64 (t111 + 2)) < t112) = true := decide_eq_true c17
              clear c17
              (first | rw [c17b0] | (simp only [i64_w, i32_w]; rw [c17b0]) | skip)
              have H' := Aside0.mk H
              clear H
              go_wp2_with (first | ((with_reducible refine gate_callee (f := 102) rfl ?_); refine goesL_ (some 36) rfl rfl Try.func102 (by kernel_rfl) rfl #[.string a0, .int .i64 (wrap64 (t111 + 2))] rfl (by (try simp only [List.map_toArray, List.map_cons, List.map_nil]); first | done | rfl | (simp only [List.length_drop, List.length_take]; rfl)) ?_; (with_reducible refine (dowelref04_own.calls kj4 a0 (wrap64 (t111 + 2)) t112 _ A16.out).mono ?_); rintro e w' ⟨rfl, ⟨nd, rfl⟩⟩; refine ⟨_, rfl, ?_⟩))
              go_meet
              case rel => exact ⟨_, (t112), (by first | rfl | (simp; done) | (simp [*]; done)), H', ⟨by have := HJ4.out; first | omega | exact Nat.le_refl _⟩, by repeat (first | exact Drawn0.refl _ | apply Drawn0.step)⟩
            · rw [if_neg c17] at H
              have c17b0 : decide ((wrap64 (t111 + 2)) < t112) = false := decide_eq_false c17
              clear c17
              (first | rw [c17b0] | (simp only [i64_w, i32_w]; rw [c17b0]) | skip)
              have H' := Aside0.mk H
              clear H
              go_wp2_with (first | ((with_reducible refine gate_callee (f := 102) rfl ?_); refine goesL_ (some 36) rfl rfl Try.func102 (by kernel_rfl) rfl #[.string a0, .int .i64 (wrap64 (t111 + 2))] rfl (by (try simp only [List.map_toArray, List.map_cons, List.map_nil]); first | done | rfl | (simp only [List.length_drop, List.length_take]; rfl)) ?_; (with_reducible refine (dowelref04_own.calls kj4 a0 (wrap64 (t111 + 2)) t112 _ A16.out).mono ?_); rintro e w' ⟨rfl, ⟨nd, rfl⟩⟩; refine ⟨_, rfl, ?_⟩))
              go_meet
              case rel => exact ⟨_, (t111), (by first | rfl | (simp; done) | (simp [*]; done)), H', ⟨by have := HJ4.out; first | omega | exact Nat.le_refl _⟩, by repeat (first | exact Drawn0.refl _ | apply Drawn0.step)⟩
          · replace c15 := Bool.eq_false_iff.mpr c15
            subst c15
            have H1 : (dowelref04_named.j1 kj4 a0 t111) = some r := by rw [if_neg (show ¬ (false = true) by decide)] at H; exact H
            clear H
            have H := H1
            clear H1
            have H' := Aside0.mk H
            clear H
            go_wp2
            go_meet
            case rel => exact ⟨_, (t111), (by first | rfl | (simp; done) | (simp [*]; done)), H', ⟨by have := HJ4.out; first | omega | exact Nat.le_refl _⟩, by repeat (first | exact Drawn0.refl _ | apply Drawn0.step)⟩
        case rest =>
          clear HC14
          try clear c1
          try clear p1
          try clear q1
          try clear hx1
          try clear p2
          try clear c4
          try clear c4b0
          try clear c4b1
          try clear c6
          try clear c6b0
          try clear p6
          try clear c7
          try clear c7b0
          try clear c8
          try clear c8b0
          try clear p9
          try clear q9
          try clear hx9
          try clear c10
          try clear c10b0
          try clear c10b1
          try clear c12
          try clear c12b0
          try clear p13
          try clear q13
          try clear hx13
          try clear c15
          try clear c17
          try clear c17b0
          try clear p1
          try clear p13
          try clear p2
          try clear p6
          try clear p9
          try clear q1
          try clear q13
          try clear q9
          obtain ⟨kq, x5_13, rfl, HA, HJ13, ⟨mc13, rfl⟩⟩ := hcut
          cases kq with
          | zero => exact absurd HA.out (by simp [dowelref04_named.j1])
          | succ kj13 =>
            have H := HA.out
            clear HA
            simp only [dowelref04_named.j1] at H
            have HC18 := Aside0.mk H
            clear H
            go_upto_region 8 with (fail)
            go_cut [51] (fun v51 wc => ∃ (kq : Nat) (x51_17 : Bool), v51 = .bool x51_17 ∧ Aside0 (dowelref04_named.j2 kq a0 x5_13 x51_17 = some r) ∧ Aside0 (kq ≤ kj13) ∧ Drawn0 w wc)
            case first =>
              have H := HC18.out
              clear HC18
              by_cases c19 : x5_13 < (a0.size : Int)
              · rw [if_pos c19] at H
                have c19b0 : decide (x5_13 < (a0.size : Int)) = true := decide_eq_true c19
                clear c19
                (first | rw [c19b0] | (simp only [i64_w, i32_w]; rw [c19b0]) | skip)
                by_cases c20 : 0 ≤ x5_13
                · rw [if_pos c20] at H
                  have c20b0 : decide (0 ≤ x5_13) = true := decide_eq_true c20
                  clear c20
                  have H' := Aside0.mk H
                  clear H
                  have p21 : 0 ≤ (x5_13 : Int) := of_decide_eq_true (by first | (with_reducible assumption) | assumption)
                  have q21 : x5_13 < (a0.size : Int) := of_decide_eq_true (by first | (with_reducible assumption) | assumption)
                  have hx21 := bt_at a0 x5_13
                  replace p21 := eq_true p21
                  replace q21 := eq_true q21
                  go_wp2
                  go_meet
                  case rel => exact ⟨_, (((bt a0 x5_13) == 126)), (by first | rfl | (simp; done) | (simp [*]; done)), H', ⟨by have := HJ4.out; have := HJ13.out; first | omega | exact Nat.le_refl _⟩, by repeat (first | exact Drawn0.refl _ | apply Drawn0.step)⟩
                · rw [if_neg c20] at H
                  exact absurd H (by simp)
              · rw [if_neg c19] at H
                have c19b0 : decide (x5_13 < (a0.size : Int)) = false := decide_eq_false c19
                clear c19
                (first | rw [c19b0] | (simp only [i64_w, i32_w]; rw [c19b0]) | skip)
                have H' := Aside0.mk H
                clear H
                go_wp2
                go_meet
                case rel => exact ⟨_, (false), (by first | rfl | (simp; done) | (simp [*]; done)), H', ⟨by have := HJ4.out; have := HJ13.out; first | omega | exact Nat.le_refl _⟩, by repeat (first | exact Drawn0.refl _ | apply Drawn0.step)⟩
            case rest =>
              clear HC18
              try clear c1
              try clear p1
              try clear q1
              try clear hx1
              try clear c2
              try clear p2
              try clear q2
              try clear hx2
              try clear c4
              try clear c4b0
              try clear c4b1
              try clear c6
              try clear c6b0
              try clear p6
              try clear c7
              try clear c7b0
              try clear c8
              try clear c8b0
              try clear p9
              try clear q9
              try clear hx9
              try clear c10
              try clear c10b0
              try clear c10b1
              try clear c12
              try clear c12b0
              try clear c13
              try clear p13
              try clear q13
              try clear hx13
              try clear c15
              try clear c17
              try clear c17b0
              try clear c19
              try clear c19b0
              try clear c20
              try clear c20b0
              try clear p21
              try clear q21
              try clear hx21
              try clear p1
              try clear p13
              try clear p2
              try clear p21
              try clear p6
              try clear p9
              try clear q1
              try clear q13
              try clear q21
              try clear q9
              obtain ⟨kq, x51_17, rfl, HA, HJ17, ⟨mc17, rfl⟩⟩ := hcut
              cases kq with
              | zero => exact absurd HA.out (by simp [dowelref04_named.j2])
              | succ kj17 =>
                have H := HA.out
                clear HA
                simp only [dowelref04_named.j2] at H
                by_cases c22 : x51_17 = true
                · subst c22
                  have H1 : ((dowelref04_digits.f kj17 a0 (wrap64 (x5_13 + 1))).bind fun t113 => (if t113 > (wrap64 (x5_13 + 1)) then (if t113 ≤ (wrap64 (x5_13 + 6)) then (if 0 ≤ (wrap64 (x5_13 + 1)) then (if (wrap64 (x5_13 + 1)) < (a0.size : Int) then (if (bt a0 (wrap64 (x5_13 + 1))) = 48 then (some x5_13) else (some t113)) else (none)) else (none)) else (some x5_13)) else (some x5_13))) = some r := by rw [if_pos rfl] at H; exact H
                  clear H
                  have H := H1
                  clear H1
                  replace H := Option.bind_eq_some_iff.mp H
                  obtain ⟨t113, A230, H⟩ := H
                  replace H : (if t113 > (wrap64 (x5_13 + 1)) then (if t113 ≤ (wrap64 (x5_13 + 6)) then (if 0 ≤ (wrap64 (x5_13 + 1)) then (if (wrap64 (x5_13 + 1)) < (a0.size : Int) then (if (bt a0 (wrap64 (x5_13 + 1))) = 48 then (some x5_13) else (some t113)) else (none)) else (none)) else (some x5_13)) else (some x5_13)) = some r := H
                  have A23 := Aside0.mk A230
                  clear A230
                  by_cases c24 : t113 > (wrap64 (x5_13 + 1))
                  · rw [if_pos c24] at H
                    have c24b0 : decide ((wrap64 (x5_13 + 1)) < t113) = true := decide_eq_true c24
                    clear c24
                    by_cases c25 : t113 ≤ (wrap64 (x5_13 + 6))
                    · rw [if_pos c25] at H
                      have c25b0 : decide (t113 ≤ (wrap64 (x5_13 + 6))) = true := decide_eq_true c25
                      clear c25
                      obtain ⟨ji26, hji26⟩ : ∃ j_ : Int, (wrap64 (x5_13 + 1)) = j_ := ⟨_, rfl⟩
                      replace H : (if 0 ≤ (ji26) then (if (ji26) < (a0.size : Int) then (if (bt a0 (ji26)) = 48 then (some x5_13) else (some t113)) else (none)) else (none)) = some r := by first | (rw [hji26] at H; exact H) | (simp only [hji26] at H ⊢; exact H)
                      (try rw [hji26] at c24b0)
                      (try rw [hji26] at A23)
                      have hji26w : (IntKind.i64.wrap (x5_13 + 1)) = ji26 := (i64_w _).trans hji26
                      by_cases c27 : 0 ≤ (ji26)
                      · rw [if_pos c27] at H
                        have c27b0 : decide (0 ≤ (ji26)) = true := decide_eq_true c27
                        clear c27
                        by_cases c28 : (ji26) < (a0.size : Int)
                        · rw [if_pos c28] at H
                          have c28b0 : decide ((ji26) < (a0.size : Int)) = true := decide_eq_true c28
                          clear c28
                          by_cases c30 : (bt a0 (ji26)) = 48
                          · rw [if_pos c30] at H
                            have c30b0 : ((bt a0 (ji26)) == 48) = true := beq_iff_eq.mpr c30
                            have c30b1 : ((bt a0 (ji26)) != 48) = false := bne_eq_false_iff_eq.mpr c30
                            clear c30
                            obtain rfl := Option.some.inj H
                            go_wp2_with (first | ((with_reducible refine gate_callee (f := 103) rfl ?_); refine goesL_ (some 55) rfl rfl Try.func103 (by kernel_rfl) rfl #[.string a0, .int .i64 ji26] rfl (by (try simp only [List.map_toArray, List.map_cons, List.map_nil]); first | done | (simp only [hji26]; rfl) | rfl | (simp only [List.length_drop, List.length_take]; rfl)) ?_; (with_reducible refine (dowelref04_digits.calls kj17 a0 ji26 t113 _ A23.out).mono ?_); rintro e w' ⟨rfl, ⟨nd, rfl⟩⟩; refine ⟨_, rfl, ?_⟩; have p29 : 0 ≤ ((ji26) : Int) := of_decide_eq_true (by first | (with_reducible assumption) | assumption); have q29 : (ji26) < (a0.size : Int) := of_decide_eq_true (by first | (with_reducible assumption) | assumption); have hx29 := bt_at a0 (ji26); replace p29 := eq_true p29; replace q29 := eq_true q29))
                            go_ret
                            exact ⟨by first | rfl | (simp; done) | (simp only [← hji26] <;> (first | rfl | simp)) | (simp [*]; done), by repeat (first | exact Drawn0.refl _ | apply Drawn0.step)⟩
                          · rw [if_neg c30] at H
                            have c30b0 : ((bt a0 (ji26)) == 48) = false := beq_eq_false_iff_ne.mpr c30
                            have c30b1 : ((bt a0 (ji26)) != 48) = true := bne_iff_ne.mpr c30
                            obtain rfl := Option.some.inj H
                            go_wp2_with (first | ((with_reducible refine gate_callee (f := 103) rfl ?_); refine goesL_ (some 55) rfl rfl Try.func103 (by kernel_rfl) rfl #[.string a0, .int .i64 ji26] rfl (by (try simp only [List.map_toArray, List.map_cons, List.map_nil]); first | done | (simp only [hji26]; rfl) | rfl | (simp only [List.length_drop, List.length_take]; rfl)) ?_; (with_reducible refine (dowelref04_digits.calls kj17 a0 ji26 t113 _ A23.out).mono ?_); rintro e w' ⟨rfl, ⟨nd, rfl⟩⟩; refine ⟨_, rfl, ?_⟩; have p29 : 0 ≤ ((ji26) : Int) := of_decide_eq_true (by first | (with_reducible assumption) | assumption); have q29 : (ji26) < (a0.size : Int) := of_decide_eq_true (by first | (with_reducible assumption) | assumption); have hx29 := bt_at a0 (ji26); replace p29 := eq_true p29; replace q29 := eq_true q29))
                            go_ret
                            exact ⟨by first | rfl | (simp; done) | (simp only [← hji26] <;> (first | rfl | simp)) | (simp [*]; done), by repeat (first | exact Drawn0.refl _ | apply Drawn0.step)⟩
                        · rw [if_neg c28] at H
                          exact absurd H (by simp)
                      · rw [if_neg c27] at H
                        exact absurd H (by simp)
                    · rw [if_neg c25] at H
                      have c25b0 : decide (t113 ≤ (wrap64 (x5_13 + 6))) = false := decide_eq_false c25
                      clear c25
                      obtain rfl := Option.some.inj H
                      go_wp2_with (first | ((with_reducible refine gate_callee (f := 103) rfl ?_); refine goesL_ (some 55) rfl rfl Try.func103 (by kernel_rfl) rfl #[.string a0, .int .i64 (wrap64 (x5_13 + 1))] rfl (by (try simp only [List.map_toArray, List.map_cons, List.map_nil]); first | done | rfl | (simp only [List.length_drop, List.length_take]; rfl)) ?_; (with_reducible refine (dowelref04_digits.calls kj17 a0 (wrap64 (x5_13 + 1)) t113 _ A23.out).mono ?_); rintro e w' ⟨rfl, ⟨nd, rfl⟩⟩; refine ⟨_, rfl, ?_⟩))
                      go_ret
                      exact ⟨by first | rfl | (simp; done) | (simp [*]; done), by repeat (first | exact Drawn0.refl _ | apply Drawn0.step)⟩
                  · rw [if_neg c24] at H
                    have c24b0 : decide ((wrap64 (x5_13 + 1)) < t113) = false := decide_eq_false c24
                    clear c24
                    obtain rfl := Option.some.inj H
                    go_wp2_with (first | ((with_reducible refine gate_callee (f := 103) rfl ?_); refine goesL_ (some 55) rfl rfl Try.func103 (by kernel_rfl) rfl #[.string a0, .int .i64 (wrap64 (x5_13 + 1))] rfl (by (try simp only [List.map_toArray, List.map_cons, List.map_nil]); first | done | rfl | (simp only [List.length_drop, List.length_take]; rfl)) ?_; (with_reducible refine (dowelref04_digits.calls kj17 a0 (wrap64 (x5_13 + 1)) t113 _ A23.out).mono ?_); rintro e w' ⟨rfl, ⟨nd, rfl⟩⟩; refine ⟨_, rfl, ?_⟩))
                    go_ret
                    exact ⟨by first | rfl | (simp; done) | (simp [*]; done), by repeat (first | exact Drawn0.refl _ | apply Drawn0.step)⟩
                · replace c22 := Bool.eq_false_iff.mpr c22
                  subst c22
                  have H1 : (some x5_13) = some r := by rw [if_neg (show ¬ (false = true) by decide)] at H; exact H
                  clear H
                  have H := H1
                  clear H1
                  obtain rfl := Option.some.inj H
                  go_wp2
                  go_ret
                  exact ⟨by first | rfl | (simp; done) | (simp [*]; done), by repeat (first | exact Drawn0.refl _ | apply Drawn0.step)⟩

/-! ### dowelref04_Name: function 43 -/
def dowelref04_Name.f (k : Nat) (a0 : ByteArray) : Option (Bool) := if a0.toList = ([] : List UInt8) then (some false) else (if (a0.size : Int) ≤ 64 then ((dowelref04_named.f k a0 0).bind fun t114 => (some (t114 == (a0.size : Int)))) else (some false))
theorem dowelref04_Name.mono : ∀ a0 k, LeO (dowelref04_Name.f k a0) (dowelref04_Name.f (k + 1) a0) := by
  intro a0 k
  unfold dowelref04_Name.f
  repeat' first
      | (with_reducible exact dowelref04_named.mono _ _ _)
      | (with_reducible exact LeO.refl _)
      | (with_reducible exact LeO.none _)
      | (with_reducible refine LeO.ite ?_ ?_)
      | (with_reducible refine LeO.bind ?_ (fun _ => ?_))
      | exact dowelref04_named.mono _ _ _
      | exact LeO.none _
      | refine LeO.ite ?_ ?_
      | refine LeO.bind ?_ (fun _ => ?_)
set_option maxHeartbeats 8000000 in
set_option maxRecDepth 100000 in
theorem dowelref04_Name.calls (k : Nat) (a0 : ByteArray) (r : Bool) (w : World) (h : dowelref04_Name.f k a0 = some r) :
    Calls Try.prog 43 #[.string a0] w fun e w' => e = .returned (.bool r) ∧ Drawn0 w w' := by
  have H : (if a0.toList = ([] : List UInt8) then (some false) else (if (a0.size : Int) ≤ 64 then ((dowelref04_named.f k a0 0).bind fun t114 => (some (t114 == (a0.size : Int)))) else (some false))) = some r := h
  clear h
  by_cases c2 : a0.toList = ([] : List UInt8)
  · rw [if_pos c2] at H
    have c2b0 : (a0.toList == ([] : List UInt8)) = true := beq_iff_eq.mpr c2
    have c2b1 : (a0.toList != ([] : List UInt8)) = false := bne_eq_false_iff_eq.mpr c2
    clear c2
    obtain rfl := Option.some.inj H
    go_enter Try.func43, Try.ntmps43
    go_wp2
    go_ret
    exact ⟨by first | rfl | (simp; done) | (simp [*]; done), by repeat (first | exact Drawn0.refl _ | apply Drawn0.step)⟩
  · rw [if_neg c2] at H
    have c2b0 : (a0.toList == ([] : List UInt8)) = false := beq_eq_false_iff_ne.mpr c2
    have c2b1 : (a0.toList != ([] : List UInt8)) = true := bne_iff_ne.mpr c2
    by_cases c3 : (a0.size : Int) ≤ 64
    · rw [if_pos c3] at H
      have c3b0 : decide ((a0.size : Int) ≤ 64) = true := decide_eq_true c3
      have c3b1 : decide (a0.size ≤ 64) = true := decide_eq_true (by omega)
      clear c3
      replace H := Option.bind_eq_some_iff.mp H
      obtain ⟨t114, A40, H⟩ := H
      replace H : (some (t114 == (a0.size : Int))) = some r := H
      have A4 := Aside0.mk A40
      clear A40
      obtain rfl := Option.some.inj H
      go_enter Try.func43, Try.ntmps43
      go_wp2_with (first | (go_at_call 82; (with_reducible refine (dowelref04_named.calls k a0 0 t114 _ A4.out).mono ?_); rintro e w' ⟨rfl, ⟨nd, rfl⟩⟩))
      go_ret
      exact ⟨by first | rfl | (simp; done) | (simp [*]; done), by repeat (first | exact Drawn0.refl _ | apply Drawn0.step)⟩
    · rw [if_neg c3] at H
      have c3b0 : decide ((a0.size : Int) ≤ 64) = false := decide_eq_false c3
      have c3b1 : decide (a0.size ≤ 64) = false := decide_eq_false (by omega)
      clear c3
      obtain rfl := Option.some.inj H
      go_enter Try.func43, Try.ntmps43
      go_wp2
      go_ret
      exact ⟨by first | rfl | (simp; done) | (simp [*]; done), by repeat (first | exact Drawn0.refl _ | apply Drawn0.step)⟩

end Go.Proofs.Ytebiogaacikphaa.PAll
