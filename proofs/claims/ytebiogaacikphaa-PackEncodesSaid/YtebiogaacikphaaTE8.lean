/- Parts of the proof of packEncodes: PAllx25, CodeRight, PackInss. No condition beyond each lemma's own. -/
import Derived.Test.YtebiogaacikphaaTE3
import Derived.Test.YtebiogaacikphaaTE5
import Derived.Test.YtebiogaacikphaaTE6
import Derived.Test.YtebiogaacikphaaTE7
section
namespace Go.Proofs.Ytebiogaacikphaa.PAll
open Go.RowKit Go.Proofs.YtebiogaacikphaaW.PrintWords Go.Proofs.YtebiogaacikphaaW.PrintLast Go.Proofs.YtebiogaacikphaaW.PrintMore
set_option linter.unusedVariables false
set_option linter.unusedSimpArgs false
attribute [local go_sem high] eqA78
mutual
def dowelref20_kind.j0 : Nat → Int → Bool → Option (Int)
  | 0, _, _ => none
  | k + 1, x3, x4 => if x4 = true then (some 1) else (if x3 = 1 then (dowelref20_kind.j1 k x3 (x3 == 1)) else (dowelref20_kind.j1 k x3 (x3 == 2)))
def dowelref20_kind.j1 : Nat → Int → Bool → Option (Int)
  | 0, _, _ => none
  | k + 1, x3, x12 => if x12 = true then (some 2) else (if x3 = 12 then (some 3) else (if x3 = 14 then (some 3) else (some 0)))
end
def dowelref20_kind.f (k : Nat) (a0 : Int) : Option (Int) := if a0 = 3 then (dowelref20_kind.j0 k a0 (a0 == 3)) else (if a0 = 4 then (dowelref20_kind.j0 k a0 (a0 == 4)) else (if a0 = 5 then (dowelref20_kind.j0 k a0 (a0 == 5)) else (if a0 = 6 then (dowelref20_kind.j0 k a0 (a0 == 6)) else (if a0 = 7 then (dowelref20_kind.j0 k a0 (a0 == 7)) else (if a0 = 10 then (dowelref20_kind.j0 k a0 (a0 == 10)) else (dowelref20_kind.j0 k a0 (a0 == 15)))))))
theorem dowelref20_kind.mono_l : ∀ k, (∀ y0 y1, LeO (dowelref20_kind.j0 k y0 y1) (dowelref20_kind.j0 (k + 1) y0 y1)) ∧ (∀ y0 y1, LeO (dowelref20_kind.j1 k y0 y1) (dowelref20_kind.j1 (k + 1) y0 y1))
  | 0 => ⟨fun _ _ r h => by simp [dowelref20_kind.j0] at h, fun _ _ r h => by simp [dowelref20_kind.j1] at h⟩
  | k + 1 => by
    obtain ⟨ih0, ih1⟩ := dowelref20_kind.mono_l k
    refine ⟨?_, ?_⟩
    · intro y0 y1
      unfold dowelref20_kind.j0
      repeat' first
      | (with_reducible exact ih0 _ _)
      | (with_reducible exact ih1 _ _)
      | (with_reducible exact LeO.refl _)
      | (with_reducible exact LeO.none _)
      | (with_reducible refine LeO.ite ?_ ?_)
      | (with_reducible refine LeO.bind ?_ (fun _ => ?_))
      | exact ih0 _ _
      | exact ih1 _ _
      | exact LeO.none _
      | refine LeO.ite ?_ ?_
      | refine LeO.bind ?_ (fun _ => ?_)
    · intro y0 y1
      unfold dowelref20_kind.j1
      repeat' first
      | (with_reducible exact ih0 _ _)
      | (with_reducible exact ih1 _ _)
      | (with_reducible exact LeO.refl _)
      | (with_reducible exact LeO.none _)
      | (with_reducible refine LeO.ite ?_ ?_)
      | (with_reducible refine LeO.bind ?_ (fun _ => ?_))
      | exact ih0 _ _
      | exact ih1 _ _
      | exact LeO.none _
      | refine LeO.ite ?_ ?_
      | refine LeO.bind ?_ (fun _ => ?_)
theorem dowelref20_kind.mono : ∀ a0 k, LeO (dowelref20_kind.f k a0) (dowelref20_kind.f (k + 1) a0) := by
  intro a0 k
  obtain ⟨ih0, ih1⟩ := dowelref20_kind.mono_l k
  unfold dowelref20_kind.f
  repeat' first
      | (with_reducible exact ih0 _ _)
      | (with_reducible exact ih1 _ _)
      | (with_reducible exact LeO.refl _)
      | (with_reducible exact LeO.none _)
      | (with_reducible refine LeO.ite ?_ ?_)
      | (with_reducible refine LeO.bind ?_ (fun _ => ?_))
      | exact ih0 _ _
      | exact ih1 _ _
      | exact LeO.none _
      | refine LeO.ite ?_ ?_
      | refine LeO.bind ?_ (fun _ => ?_)
set_option maxHeartbeats 8000000 in
set_option maxRecDepth 100000 in
theorem dowelref20_kind.calls (k : Nat) (a0 : Int) (r : Int) (w : World) (h : dowelref20_kind.f k a0 = some r) :
    Calls Try.prog 80 #[.int .i64 a0] w fun e w' => e = .returned (.int .i64 r) ∧ Drawn0 w w' := by
  have H : (if a0 = 3 then (dowelref20_kind.j0 k a0 (a0 == 3)) else (if a0 = 4 then (dowelref20_kind.j0 k a0 (a0 == 4)) else (if a0 = 5 then (dowelref20_kind.j0 k a0 (a0 == 5)) else (if a0 = 6 then (dowelref20_kind.j0 k a0 (a0 == 6)) else (if a0 = 7 then (dowelref20_kind.j0 k a0 (a0 == 7)) else (if a0 = 10 then (dowelref20_kind.j0 k a0 (a0 == 10)) else (dowelref20_kind.j0 k a0 (a0 == 15)))))))) = some r := h
  clear h
  have HC2 := Aside0.mk H
  clear H
  go_enter Try.func80, Try.ntmps80
  go_upto_if 4 with (fail)
  go_cut [4] (fun v4 wc => ∃ (kq : Nat) (x4_1 : Bool), v4 = .bool x4_1 ∧ Aside0 (dowelref20_kind.j0 kq a0 x4_1 = some r) ∧ Aside0 (kq ≤ k) ∧ Drawn0 w wc)
  case first =>
    have H := HC2.out
    clear HC2
    by_cases c3 : a0 = 3
    · rw [if_pos c3] at H
      have c3b0 : (a0 == 3) = true := beq_iff_eq.mpr c3
      have c3b1 : (a0 != 3) = false := bne_eq_false_iff_eq.mpr c3
      clear c3
      (first | rw [c3b0] | (simp only [i64_w, i32_w]; rw [c3b0]) | skip)
      have H' := Aside0.mk H
      clear H
      go_wp2
      go_meet
      case rel => exact ⟨_, ((a0 == 3)), (by first | rfl | (simp; done) | (simp [*]; done)), H', ⟨by first | omega | exact Nat.le_refl _⟩, by repeat (first | exact Drawn0.refl _ | apply Drawn0.step)⟩
    · rw [if_neg c3] at H
      have c3b0 : (a0 == 3) = false := beq_eq_false_iff_ne.mpr c3
      have c3b1 : (a0 != 3) = true := bne_iff_ne.mpr c3
      (first | rw [c3b0] | (simp only [i64_w, i32_w]; rw [c3b0]) | skip)
      by_cases c4 : a0 = 4
      · rw [if_pos c4] at H
        have c4b0 : (a0 == 4) = true := beq_iff_eq.mpr c4
        have c4b1 : (a0 != 4) = false := bne_eq_false_iff_eq.mpr c4
        clear c4
        have H' := Aside0.mk H
        clear H
        go_wp2
        go_meet
        case rel => exact ⟨_, ((a0 == 4)), (by first | rfl | (simp; done) | (simp [*]; done)), H', ⟨by first | omega | exact Nat.le_refl _⟩, by repeat (first | exact Drawn0.refl _ | apply Drawn0.step)⟩
      · rw [if_neg c4] at H
        have c4b0 : (a0 == 4) = false := beq_eq_false_iff_ne.mpr c4
        have c4b1 : (a0 != 4) = true := bne_iff_ne.mpr c4
        by_cases c5 : a0 = 5
        · rw [if_pos c5] at H
          have c5b0 : (a0 == 5) = true := beq_iff_eq.mpr c5
          have c5b1 : (a0 != 5) = false := bne_eq_false_iff_eq.mpr c5
          clear c5
          have H' := Aside0.mk H
          clear H
          go_wp2
          go_meet
          case rel => exact ⟨_, ((a0 == 5)), (by first | rfl | (simp; done) | (simp [*]; done)), H', ⟨by first | omega | exact Nat.le_refl _⟩, by repeat (first | exact Drawn0.refl _ | apply Drawn0.step)⟩
        · rw [if_neg c5] at H
          have c5b0 : (a0 == 5) = false := beq_eq_false_iff_ne.mpr c5
          have c5b1 : (a0 != 5) = true := bne_iff_ne.mpr c5
          by_cases c6 : a0 = 6
          · rw [if_pos c6] at H
            have c6b0 : (a0 == 6) = true := beq_iff_eq.mpr c6
            have c6b1 : (a0 != 6) = false := bne_eq_false_iff_eq.mpr c6
            clear c6
            have H' := Aside0.mk H
            clear H
            go_wp2
            go_meet
            case rel => exact ⟨_, ((a0 == 6)), (by first | rfl | (simp; done) | (simp [*]; done)), H', ⟨by first | omega | exact Nat.le_refl _⟩, by repeat (first | exact Drawn0.refl _ | apply Drawn0.step)⟩
          · rw [if_neg c6] at H
            have c6b0 : (a0 == 6) = false := beq_eq_false_iff_ne.mpr c6
            have c6b1 : (a0 != 6) = true := bne_iff_ne.mpr c6
            by_cases c7 : a0 = 7
            · rw [if_pos c7] at H
              have c7b0 : (a0 == 7) = true := beq_iff_eq.mpr c7
              have c7b1 : (a0 != 7) = false := bne_eq_false_iff_eq.mpr c7
              clear c7
              have H' := Aside0.mk H
              clear H
              go_wp2
              go_meet
              case rel => exact ⟨_, ((a0 == 7)), (by first | rfl | (simp; done) | (simp [*]; done)), H', ⟨by first | omega | exact Nat.le_refl _⟩, by repeat (first | exact Drawn0.refl _ | apply Drawn0.step)⟩
            · rw [if_neg c7] at H
              have c7b0 : (a0 == 7) = false := beq_eq_false_iff_ne.mpr c7
              have c7b1 : (a0 != 7) = true := bne_iff_ne.mpr c7
              by_cases c8 : a0 = 10
              · rw [if_pos c8] at H
                have c8b0 : (a0 == 10) = true := beq_iff_eq.mpr c8
                have c8b1 : (a0 != 10) = false := bne_eq_false_iff_eq.mpr c8
                clear c8
                have H' := Aside0.mk H
                clear H
                go_wp2
                go_meet
                case rel => exact ⟨_, ((a0 == 10)), (by first | rfl | (simp; done) | (simp [*]; done)), H', ⟨by first | omega | exact Nat.le_refl _⟩, by repeat (first | exact Drawn0.refl _ | apply Drawn0.step)⟩
              · rw [if_neg c8] at H
                have c8b0 : (a0 == 10) = false := beq_eq_false_iff_ne.mpr c8
                have c8b1 : (a0 != 10) = true := bne_iff_ne.mpr c8
                have H' := Aside0.mk H
                clear H
                go_wp2
                go_meet
                case rel => exact ⟨_, ((a0 == 15)), (by first | rfl | (simp; done) | (simp [*]; done)), H', ⟨by first | omega | exact Nat.le_refl _⟩, by repeat (first | exact Drawn0.refl _ | apply Drawn0.step)⟩
  case rest =>
    clear HC2
    try clear p2
    try clear c3
    try clear c3b0
    try clear c3b1
    try clear c4
    try clear c4b0
    try clear c4b1
    try clear c5
    try clear c5b0
    try clear c5b1
    try clear c6
    try clear c6b0
    try clear c6b1
    try clear c7
    try clear c7b0
    try clear c7b1
    try clear c8
    try clear c8b0
    try clear c8b1
    obtain ⟨kq, x4_1, rfl, HA, HJ1, ⟨mc1, rfl⟩⟩ := hcut
    cases kq with
    | zero => exact absurd HA.out (by simp [dowelref20_kind.j0])
    | succ kj1 =>
      have H := HA.out
      clear HA
      simp only [dowelref20_kind.j0] at H
      by_cases c9 : x4_1 = true
      · subst c9
        have H1 : (some 1) = some r := by rw [if_pos rfl] at H; exact H
        clear H
        have H := H1
        clear H1
        obtain rfl := Option.some.inj H
        go_wp2
        go_ret
        exact ⟨by first | rfl | (simp; done) | (simp [*]; done), by repeat (first | exact Drawn0.refl _ | apply Drawn0.step)⟩
      · replace c9 := Bool.eq_false_iff.mpr c9
        subst c9
        have H1 : (if a0 = 1 then (dowelref20_kind.j1 kj1 a0 (a0 == 1)) else (dowelref20_kind.j1 kj1 a0 (a0 == 2))) = some r := by rw [if_neg (show ¬ (false = true) by decide)] at H; exact H
        clear H
        have H := H1
        clear H1
        have HC10 := Aside0.mk H
        clear H
        go_upto_if 12 with (fail)
        go_cut [12] (fun v12 wc => ∃ (kq : Nat) (x12_9 : Bool), v12 = .bool x12_9 ∧ Aside0 (dowelref20_kind.j1 kq a0 x12_9 = some r) ∧ Aside0 (kq ≤ kj1) ∧ Drawn0 w wc)
        case first =>
          have H := HC10.out
          clear HC10
          by_cases c11 : a0 = 1
          · rw [if_pos c11] at H
            have c11b0 : (a0 == 1) = true := beq_iff_eq.mpr c11
            have c11b1 : (a0 != 1) = false := bne_eq_false_iff_eq.mpr c11
            clear c11
            (first | rw [c11b0] | (simp only [i64_w, i32_w]; rw [c11b0]) | skip)
            have H' := Aside0.mk H
            clear H
            go_wp2
            go_meet
            case rel => exact ⟨_, ((a0 == 1)), (by first | rfl | (simp; done) | (simp [*]; done)), H', ⟨by have := HJ1.out; first | omega | exact Nat.le_refl _⟩, by repeat (first | exact Drawn0.refl _ | apply Drawn0.step)⟩
          · rw [if_neg c11] at H
            have c11b0 : (a0 == 1) = false := beq_eq_false_iff_ne.mpr c11
            have c11b1 : (a0 != 1) = true := bne_iff_ne.mpr c11
            (first | rw [c11b0] | (simp only [i64_w, i32_w]; rw [c11b0]) | skip)
            have H' := Aside0.mk H
            clear H
            go_wp2
            go_meet
            case rel => exact ⟨_, ((a0 == 2)), (by first | rfl | (simp; done) | (simp [*]; done)), H', ⟨by have := HJ1.out; first | omega | exact Nat.le_refl _⟩, by repeat (first | exact Drawn0.refl _ | apply Drawn0.step)⟩
        case rest =>
          clear HC10
          try clear c1
          try clear p2
          try clear c3
          try clear c3b0
          try clear c3b1
          try clear c4
          try clear c4b0
          try clear c4b1
          try clear c5
          try clear c5b0
          try clear c5b1
          try clear c6
          try clear c6b0
          try clear c6b1
          try clear c7
          try clear c7b0
          try clear c7b1
          try clear c8
          try clear c8b0
          try clear c8b1
          try clear c9
          try clear c11
          try clear c11b0
          try clear c11b1
          try clear p2
          obtain ⟨kq, x12_9, rfl, HA, HJ9, ⟨mc9, rfl⟩⟩ := hcut
          cases kq with
          | zero => exact absurd HA.out (by simp [dowelref20_kind.j1])
          | succ kj9 =>
            have H := HA.out
            clear HA
            simp only [dowelref20_kind.j1] at H
            by_cases c12 : x12_9 = true
            · subst c12
              have H1 : (some 2) = some r := by rw [if_pos rfl] at H; exact H
              clear H
              have H := H1
              clear H1
              obtain rfl := Option.some.inj H
              go_wp2
              go_ret
              exact ⟨by first | rfl | (simp; done) | (simp [*]; done), by repeat (first | exact Drawn0.refl _ | apply Drawn0.step)⟩
            · replace c12 := Bool.eq_false_iff.mpr c12
              subst c12
              have H1 : (if a0 = 12 then (some 3) else (if a0 = 14 then (some 3) else (some 0))) = some r := by rw [if_neg (show ¬ (false = true) by decide)] at H; exact H
              clear H
              have H := H1
              clear H1
              by_cases c13 : a0 = 12
              · rw [if_pos c13] at H
                have c13b0 : (a0 == 12) = true := beq_iff_eq.mpr c13
                have c13b1 : (a0 != 12) = false := bne_eq_false_iff_eq.mpr c13
                clear c13
                obtain rfl := Option.some.inj H
                go_wp2
                go_ret
                exact ⟨by first | rfl | (simp; done) | (simp [*]; done), by repeat (first | exact Drawn0.refl _ | apply Drawn0.step)⟩
              · rw [if_neg c13] at H
                have c13b0 : (a0 == 12) = false := beq_eq_false_iff_ne.mpr c13
                have c13b1 : (a0 != 12) = true := bne_iff_ne.mpr c13
                by_cases c14 : a0 = 14
                · rw [if_pos c14] at H
                  have c14b0 : (a0 == 14) = true := beq_iff_eq.mpr c14
                  have c14b1 : (a0 != 14) = false := bne_eq_false_iff_eq.mpr c14
                  clear c14
                  obtain rfl := Option.some.inj H
                  go_wp2
                  go_ret
                  exact ⟨by first | rfl | (simp; done) | (simp [*]; done), by repeat (first | exact Drawn0.refl _ | apply Drawn0.step)⟩
                · rw [if_neg c14] at H
                  have c14b0 : (a0 == 14) = false := beq_eq_false_iff_ne.mpr c14
                  have c14b1 : (a0 != 14) = true := bne_iff_ne.mpr c14
                  obtain rfl := Option.some.inj H
                  go_wp2
                  go_ret
                  exact ⟨by first | rfl | (simp; done) | (simp [*]; done), by repeat (first | exact Drawn0.refl _ | apply Drawn0.step)⟩
def dowelbook_Inss.l0 : Nat → List (S78) → List (S78) → Int → Option (Bool)
  | 0, _, _, _ => none
  | k + 1, x0, x1, x5 => if x5 < (x0.length : Int) then (if 0 ≤ x5 then (if x5 < (x1.length : Int) then (if (!(((rd_T78 x0 x5).f0) == ((rd_T78 x1 x5).f0)) || (!(((rd_T78 x0 x5).f1) == ((rd_T78 x1 x5).f1)) || ((!(((rd_T78 x0 x5).f2.f0) == ((rd_T78 x1 x5).f2.f0)) || (!(((rd_T78 x0 x5).f2.f1) == ((rd_T78 x1 x5).f2.f1)) || (!(((rd_T78 x0 x5).f2.f2) == ((rd_T78 x1 x5).f2.f2)) || (!(((rd_T78 x0 x5).f2.f3) == ((rd_T78 x1 x5).f2.f3)))))) || (!((((rd_T78 x0 x5).f3).toList) == (((rd_T78 x1 x5).f3).toList)))))) = true then (some false) else (dowelbook_Inss.l0 k x0 x1 (wrap64 (x5 + 1)))) else (none)) else (none)) else (some true)
def dowelbook_Inss.f (k : Nat) (l0 : List (S78)) (l1 : List (S78)) : Option (Bool) := if (l0.length : Int) = (l1.length : Int) then (dowelbook_Inss.l0 k l0 l1 0) else (some false)
set_option maxHeartbeats 8000000 in
set_option maxRecDepth 100000 in
theorem dowelbook_Inss.calls (k : Nat) (A0 : Option Addr) (c0 : Nat) (l0 : List (S78)) (A1 : Option Addr) (c1 : Nat) (l1 : List (S78)) (r : Bool) (w : World) (hr0 : Kd.C k78 w A0 l0.length l0) (hc0 : l0.length ≤ c0) (hr1 : Kd.C k78 w A1 l1.length l1) (hc1 : l1.length ≤ c1) (h : dowelbook_Inss.f k l0 l1 = some r) :
    Calls Try.prog 26 #[.slice A0 l0.length c0, .slice A1 l1.length c1] w fun e w' => e = .returned (.bool r) ∧ Drawn0 w w' := by
  have hu78 := Try.underlying78
  have HR0 := Aside0.mk hr0
  have HC0 := Aside0.mk hc0
  clear hr0 hc0
  have HR1 := Aside0.mk hr1
  have HC1 := Aside0.mk hc1
  clear hr1 hc1
  have H : (if (l0.length : Int) = (l1.length : Int) then (dowelbook_Inss.l0 k l0 l1 0) else (some false)) = some r := h
  clear h
  by_cases c3 : (l0.length : Int) = (l1.length : Int)
  · rw [if_pos c3] at H
    have c3b0 : ((l0.length : Int) == (l1.length : Int)) = true := beq_iff_eq.mpr c3
    have c3b1 : ((l0.length : Int) != (l1.length : Int)) = false := bne_eq_false_iff_eq.mpr c3
    have c3b2 : (l0.length == l1.length) = true := by first | simpa using c3 | (simp at c3 ⊢; omega)
    clear c3
    have H' := Aside0.mk H
    clear H
    go_enter Try.func26, Try.ntmps26
    go_wp2
    repeat (go_quiet (fail); try go_wp2)
    go_loopg [5] k (fun kq v5 w' => ∃ (x5_1 : Int), v5 = .int .i64 x5_1 ∧ Aside0 (dowelbook_Inss.l0 kq l0 l1 x5_1 = some r) ∧ Aside0 (kq ≤ k) ∧ Drawn0 w w')
    case atStart => exact ⟨(0), (by first | rfl | (simp; done) | (simp [*]; done)), H', ⟨Nat.le_refl _⟩, by repeat (first | exact Drawn0.refl _ | apply Drawn0.step)⟩
    case round =>
      clear H'
      try clear c1
      try clear c2
      try clear p2
      try clear c3
      try clear c3b0
      try clear c3b1
      try clear c3b2
      obtain ⟨x5_1, rfl, HA, HK1, ⟨m1, rfl⟩⟩ := hrel
      cases gk with
      | zero => exact absurd HA.out (by simp [dowelbook_Inss.l0])
      | succ k1 =>
        have H := HA.out
        clear HA
        simp only [dowelbook_Inss.l0] at H
        by_cases c4 : x5_1 < (l0.length : Int)
        · rw [if_pos c4] at H
          have c4b0 : decide (x5_1 < (l0.length : Int)) = true := decide_eq_true c4
          clear c4
          by_cases c5 : 0 ≤ x5_1
          · rw [if_pos c5] at H
            have c5b0 : decide (0 ≤ x5_1) = true := decide_eq_true c5
            clear c5
            by_cases c6 : x5_1 < (l1.length : Int)
            · rw [if_pos c6] at H
              have c6b0 : decide (x5_1 < (l1.length : Int)) = true := decide_eq_true c6
              clear c6
              by_cases c7 : (!(((rd_T78 l0 x5_1).f0) == ((rd_T78 l1 x5_1).f0)) || (!(((rd_T78 l0 x5_1).f1) == ((rd_T78 l1 x5_1).f1)) || ((!(((rd_T78 l0 x5_1).f2.f0) == ((rd_T78 l1 x5_1).f2.f0)) || (!(((rd_T78 l0 x5_1).f2.f1) == ((rd_T78 l1 x5_1).f2.f1)) || (!(((rd_T78 l0 x5_1).f2.f2) == ((rd_T78 l1 x5_1).f2.f2)) || (!(((rd_T78 l0 x5_1).f2.f3) == ((rd_T78 l1 x5_1).f2.f3)))))) || (!((((rd_T78 l0 x5_1).f3).toList) == (((rd_T78 l1 x5_1).f3).toList)))))) = true
              · rw [if_pos c7] at H
                have c7b0 : (!(((rd_T78 l0 x5_1).f0) == ((rd_T78 l1 x5_1).f0)) || (!(((rd_T78 l0 x5_1).f1) == ((rd_T78 l1 x5_1).f1)) || ((!(((rd_T78 l0 x5_1).f2.f0) == ((rd_T78 l1 x5_1).f2.f0)) || (!(((rd_T78 l0 x5_1).f2.f1) == ((rd_T78 l1 x5_1).f2.f1)) || (!(((rd_T78 l0 x5_1).f2.f2) == ((rd_T78 l1 x5_1).f2.f2)) || (!(((rd_T78 l0 x5_1).f2.f3) == ((rd_T78 l1 x5_1).f2.f3)))))) || (!((((rd_T78 l0 x5_1).f3).toList) == (((rd_T78 l1 x5_1).f3).toList)))))) = true := c7
                clear c7
                obtain rfl := Option.some.inj H
                have p346 : 0 ≤ (x5_1 : Int) := of_decide_eq_true (by first | (with_reducible assumption) | assumption)
                have q346 : x5_1 < (l0.length : Int) := of_decide_eq_true (by first | (with_reducible assumption) | assumption)
                obtain ⟨ad346, e346, hx346_0, hx346_1, hx346_2, hx346_3, hx346_4, hx346_5, hx346_6⟩ := at_T78 HR0.out x5_1 p346 q346
                cases e346
                replace p346 := eq_true p346
                replace q346 := eq_true q346
                have p347 : 0 ≤ (x5_1 : Int) := of_decide_eq_true (by first | (with_reducible assumption) | assumption)
                have q347 : x5_1 < (l1.length : Int) := of_decide_eq_true (by first | (with_reducible assumption) | assumption)
                obtain ⟨ad347, e347, hx347_0, hx347_1, hx347_2, hx347_3, hx347_4, hx347_5, hx347_6⟩ := at_T78 HR1.out x5_1 p347 q347
                cases e347
                replace p347 := eq_true p347
                replace q347 := eq_true q347
                go_wp2
                repeat (go_quiet (fail); try go_wp2)
                go_ret
                exact ⟨by first | rfl | (simp; done) | (simp [*]; done), by repeat (first | exact Drawn0.refl _ | apply Drawn0.step)⟩
              · rw [if_neg c7] at H
                have c7b0 : (!(((rd_T78 l0 x5_1).f0) == ((rd_T78 l1 x5_1).f0)) || (!(((rd_T78 l0 x5_1).f1) == ((rd_T78 l1 x5_1).f1)) || ((!(((rd_T78 l0 x5_1).f2.f0) == ((rd_T78 l1 x5_1).f2.f0)) || (!(((rd_T78 l0 x5_1).f2.f1) == ((rd_T78 l1 x5_1).f2.f1)) || (!(((rd_T78 l0 x5_1).f2.f2) == ((rd_T78 l1 x5_1).f2.f2)) || (!(((rd_T78 l0 x5_1).f2.f3) == ((rd_T78 l1 x5_1).f2.f3)))))) || (!((((rd_T78 l0 x5_1).f3).toList) == (((rd_T78 l1 x5_1).f3).toList)))))) = false := by simpa using c7
                clear c7
                have H' := Aside0.mk H
                clear H
                have p346 : 0 ≤ (x5_1 : Int) := of_decide_eq_true (by first | (with_reducible assumption) | assumption)
                have q346 : x5_1 < (l0.length : Int) := of_decide_eq_true (by first | (with_reducible assumption) | assumption)
                obtain ⟨ad346, e346, hx346_0, hx346_1, hx346_2, hx346_3, hx346_4, hx346_5, hx346_6⟩ := at_T78 HR0.out x5_1 p346 q346
                cases e346
                replace p346 := eq_true p346
                replace q346 := eq_true q346
                have p347 : 0 ≤ (x5_1 : Int) := of_decide_eq_true (by first | (with_reducible assumption) | assumption)
                have q347 : x5_1 < (l1.length : Int) := of_decide_eq_true (by first | (with_reducible assumption) | assumption)
                obtain ⟨ad347, e347, hx347_0, hx347_1, hx347_2, hx347_3, hx347_4, hx347_5, hx347_6⟩ := at_T78 HR1.out x5_1 p347 q347
                cases e347
                replace p347 := eq_true p347
                replace q347 := eq_true q347
                go_wp2
                repeat (go_quiet (fail); try go_wp2)
                go_roundg k1
                case measure => have := HK1.out; omega
                case rel => exact ⟨(wrap64 (x5_1 + 1)), (by first | rfl | (simp; done) | (simp [*]; done)), H', ⟨by have := HK1.out; omega⟩, by repeat (first | exact Drawn0.refl _ | apply Drawn0.step)⟩
            · rw [if_neg c6] at H
              exact absurd H (by simp)
          · rw [if_neg c5] at H
            exact absurd H (by simp)
        · rw [if_neg c4] at H
          have c4b0 : decide (x5_1 < (l0.length : Int)) = false := decide_eq_false c4
          clear c4
          obtain rfl := Option.some.inj H
          go_wp2
          repeat (go_quiet (fail); try go_wp2)
          go_ret
          exact ⟨by first | rfl | (simp; done) | (simp [*]; done), by repeat (first | exact Drawn0.refl _ | apply Drawn0.step)⟩
  · rw [if_neg c3] at H
    have c3b0 : ((l0.length : Int) == (l1.length : Int)) = false := beq_eq_false_iff_ne.mpr c3
    have c3b1 : ((l0.length : Int) != (l1.length : Int)) = true := bne_iff_ne.mpr c3
    have c3b2 : (l0.length == l1.length) = false := by first | simpa using c3 | (simp at c3 ⊢; omega)
    obtain rfl := Option.some.inj H
    go_enter Try.func26, Try.ntmps26
    go_wp2
    repeat (go_quiet (fail); try go_wp2)
    go_ret
    exact ⟨by first | rfl | (simp; done) | (simp [*]; done), by repeat (first | exact Drawn0.refl _ | apply Drawn0.step)⟩
def dowelbook_Bytes.l0 : Nat → List Int → List Int → Int → Option (Bool)
  | 0, _, _, _ => none
  | k + 1, x0, x1, x5 => if x5 < (x0.length : Int) then (if 0 ≤ x5 then (if x5 < (x1.length : Int) then (if (rd x0 x5) = (rd x1 x5) then (dowelbook_Bytes.l0 k x0 x1 (wrap64 (x5 + 1))) else (some false)) else (none)) else (none)) else (some true)
def dowelbook_Bytes.f (k : Nat) (l0 : List Int) (l1 : List Int) : Option (Bool) := if (l0.length : Int) = (l1.length : Int) then (dowelbook_Bytes.l0 k l0 l1 0) else (some false)
set_option maxHeartbeats 8000000 in
set_option maxRecDepth 100000 in
theorem dowelbook_Bytes.calls (k : Nat) (A0 : Option Addr) (c0 : Nat) (l0 : List Int) (A1 : Option Addr) (c1 : Nat) (l1 : List Int) (r : Bool) (w : World) (hr0 : Kd.C (Kd.int .u8) w A0 l0.length l0) (hc0 : l0.length ≤ c0) (hr1 : Kd.C (Kd.int .u8) w A1 l1.length l1) (hc1 : l1.length ≤ c1) (h : dowelbook_Bytes.f k l0 l1 = some r) :
    Calls Try.prog 37 #[.slice A0 l0.length c0, .slice A1 l1.length c1] w fun e w' => e = .returned (.bool r) ∧ Drawn0 w w' := by
  have HR0 := Aside0.mk hr0
  have HC0 := Aside0.mk hc0
  clear hr0 hc0
  have HR1 := Aside0.mk hr1
  have HC1 := Aside0.mk hc1
  clear hr1 hc1
  have H : (if (l0.length : Int) = (l1.length : Int) then (dowelbook_Bytes.l0 k l0 l1 0) else (some false)) = some r := h
  clear h
  by_cases c3 : (l0.length : Int) = (l1.length : Int)
  · rw [if_pos c3] at H
    have c3b0 : ((l0.length : Int) == (l1.length : Int)) = true := beq_iff_eq.mpr c3
    have c3b1 : ((l0.length : Int) != (l1.length : Int)) = false := bne_eq_false_iff_eq.mpr c3
    have c3b2 : (l0.length == l1.length) = true := by first | simpa using c3 | (simp at c3 ⊢; omega)
    clear c3
    have H' := Aside0.mk H
    clear H
    go_enter Try.func37, Try.ntmps37
    go_wp2
    repeat (go_quiet (fail); try go_wp2)
    go_loopg [5] k (fun kq v5 w' => ∃ (x5_1 : Int), v5 = .int .i64 x5_1 ∧ Aside0 (dowelbook_Bytes.l0 kq l0 l1 x5_1 = some r) ∧ Aside0 (kq ≤ k) ∧ Drawn0 w w')
    case atStart => exact ⟨(0), (by first | rfl | (simp; done) | (simp [*]; done)), H', ⟨Nat.le_refl _⟩, by repeat (first | exact Drawn0.refl _ | apply Drawn0.step)⟩
    case round =>
      clear H'
      try clear c1
      try clear p2
      try clear c3
      try clear c3b0
      try clear c3b1
      try clear c3b2
      obtain ⟨x5_1, rfl, HA, HK1, ⟨m1, rfl⟩⟩ := hrel
      cases gk with
      | zero => exact absurd HA.out (by simp [dowelbook_Bytes.l0])
      | succ k1 =>
        have H := HA.out
        clear HA
        simp only [dowelbook_Bytes.l0] at H
        by_cases c4 : x5_1 < (l0.length : Int)
        · rw [if_pos c4] at H
          have c4b0 : decide (x5_1 < (l0.length : Int)) = true := decide_eq_true c4
          clear c4
          by_cases c5 : 0 ≤ x5_1
          · rw [if_pos c5] at H
            have c5b0 : decide (0 ≤ x5_1) = true := decide_eq_true c5
            clear c5
            by_cases c6 : x5_1 < (l1.length : Int)
            · rw [if_pos c6] at H
              have c6b0 : decide (x5_1 < (l1.length : Int)) = true := decide_eq_true c6
              clear c6
              by_cases c7 : (rd l0 x5_1) = (rd l1 x5_1)
              · rw [if_pos c7] at H
                have c7b0 : ((rd l0 x5_1) == (rd l1 x5_1)) = true := beq_iff_eq.mpr c7
                have c7b1 : ((rd l0 x5_1) != (rd l1 x5_1)) = false := bne_eq_false_iff_eq.mpr c7
                clear c7
                have H' := Aside0.mk H
                clear H
                have p348 : 0 ≤ (x5_1 : Int) := of_decide_eq_true (by first | (with_reducible assumption) | assumption)
                have q348 : x5_1 < (l0.length : Int) := of_decide_eq_true (by first | (with_reducible assumption) | assumption)
                obtain ⟨ad348, e348, hx348_0⟩ := Kd.at_int HR0.out x5_1 p348 q348
                cases e348
                replace p348 := eq_true p348
                replace q348 := eq_true q348
                have p349 : 0 ≤ (x5_1 : Int) := of_decide_eq_true (by first | (with_reducible assumption) | assumption)
                have q349 : x5_1 < (l1.length : Int) := of_decide_eq_true (by first | (with_reducible assumption) | assumption)
                obtain ⟨ad349, e349, hx349_0⟩ := Kd.at_int HR1.out x5_1 p349 q349
                cases e349
                replace p349 := eq_true p349
                replace q349 := eq_true q349
                go_wp2
                repeat (go_quiet (fail); try go_wp2)
                go_roundg k1
                case measure => have := HK1.out; omega
                case rel => exact ⟨(wrap64 (x5_1 + 1)), (by first | rfl | (simp; done) | (simp [*]; done)), H', ⟨by have := HK1.out; omega⟩, by repeat (first | exact Drawn0.refl _ | apply Drawn0.step)⟩
              · rw [if_neg c7] at H
                have c7b0 : ((rd l0 x5_1) == (rd l1 x5_1)) = false := beq_eq_false_iff_ne.mpr c7
                have c7b1 : ((rd l0 x5_1) != (rd l1 x5_1)) = true := bne_iff_ne.mpr c7
                obtain rfl := Option.some.inj H
                have p348 : 0 ≤ (x5_1 : Int) := of_decide_eq_true (by first | (with_reducible assumption) | assumption)
                have q348 : x5_1 < (l0.length : Int) := of_decide_eq_true (by first | (with_reducible assumption) | assumption)
                obtain ⟨ad348, e348, hx348_0⟩ := Kd.at_int HR0.out x5_1 p348 q348
                cases e348
                replace p348 := eq_true p348
                replace q348 := eq_true q348
                have p349 : 0 ≤ (x5_1 : Int) := of_decide_eq_true (by first | (with_reducible assumption) | assumption)
                have q349 : x5_1 < (l1.length : Int) := of_decide_eq_true (by first | (with_reducible assumption) | assumption)
                obtain ⟨ad349, e349, hx349_0⟩ := Kd.at_int HR1.out x5_1 p349 q349
                cases e349
                replace p349 := eq_true p349
                replace q349 := eq_true q349
                go_wp2
                repeat (go_quiet (fail); try go_wp2)
                go_ret
                exact ⟨by first | rfl | (simp; done) | (simp [*]; done), by repeat (first | exact Drawn0.refl _ | apply Drawn0.step)⟩
            · rw [if_neg c6] at H
              exact absurd H (by simp)
          · rw [if_neg c5] at H
            exact absurd H (by simp)
        · rw [if_neg c4] at H
          have c4b0 : decide (x5_1 < (l0.length : Int)) = false := decide_eq_false c4
          clear c4
          obtain rfl := Option.some.inj H
          go_wp2
          repeat (go_quiet (fail); try go_wp2)
          go_ret
          exact ⟨by first | rfl | (simp; done) | (simp [*]; done), by repeat (first | exact Drawn0.refl _ | apply Drawn0.step)⟩
  · rw [if_neg c3] at H
    have c3b0 : ((l0.length : Int) == (l1.length : Int)) = false := beq_eq_false_iff_ne.mpr c3
    have c3b1 : ((l0.length : Int) != (l1.length : Int)) = true := bne_iff_ne.mpr c3
    have c3b2 : (l0.length == l1.length) = false := by first | simpa using c3 | (simp at c3 ⊢; omega)
    obtain rfl := Option.some.inj H
    go_enter Try.func37, Try.ntmps37
    go_wp2
    repeat (go_quiet (fail); try go_wp2)
    go_ret
    exact ⟨by first | rfl | (simp; done) | (simp [*]; done), by repeat (first | exact Drawn0.refl _ | apply Drawn0.step)⟩
def dowelbook_inssMark.f (a0 : Int) : Option (Int × Int × Int × Int × Int × Int × ByteArray) := some (0, wrap64 ((-1) - a0), 0, 0, 0, 0, (⟨#[]⟩ : ByteArray))
set_option maxHeartbeats 8000000 in
set_option maxRecDepth 100000 in
theorem dowelbook_inssMark.calls (a0 : Int) (r1 : Int) (r2 : Int) (r3 : Int) (r4 : Int) (r5 : Int) (r6 : Int) (r7 : ByteArray) (w : World) (h : dowelbook_inssMark.f a0 = some (r1, r2, r3, r4, r5, r6, r7)) :
    Calls Try.prog 62 #[.int .i64 a0] w fun e w' => e = .returned (.agg #[.int .i64 r1, .int .i64 r2, .int .u64 r3, .int .u64 r4, .int .u64 r5, .int .u64 r6, .string r7]) ∧ Below w.heap.size w w' := by
  have hu78 := Try.underlying78
  have HB := Aside0.mk (Below.refl w.heap.size w)
  have H : (some (0, wrap64 ((-1) - a0), 0, 0, 0, 0, (⟨#[]⟩ : ByteArray))) = some (r1, r2, r3, r4, r5, r6, r7) := h
  clear h
  simp only [Option.some.injEq, Prod.mk.injEq] at H
  obtain ⟨rfl, rfl, rfl, rfl, rfl, rfl, rfl⟩ := H
  go_enter Try.func62, Try.ntmps62
  go_wp2_with (first | ((with_reducible refine gate_dst (N := 2) rfl ?_); refine box_event ?hg (N := 2) ?hd (cs := #[.int .i64 0, .int .i64 0, .int .u64 0, .int .u64 0, .int .u64 0, .int .u64 0, .string (⟨#[]⟩ : ByteArray)]) (t := 78) ?hr ?_; (case hd => rfl); (case hg => rfl); (case hr => first | (go_simp; done) | (go_simp; rfl)); intro gb350 hg w2 hbox hb; have n0_ := Aside0.mk (below_step (by repeat (first | (with_reducible first | exact HB.out | apply below_alloc | apply pw_below_drewN | apply below_drew1) | exact HB.out)) hb); have n1_ := Aside0.mk (hbox); have n2_ := Aside0.mk ((by rw [hg]; exact (below_size (by repeat (first | (with_reducible first | exact HB.out | apply below_alloc | apply pw_below_drewN | apply below_drew1) | exact HB.out))) : w.heap.size ≤ gb350)); have n3_ := Aside0.mk ((by rw [hg]; exact (below_size (by repeat (first | (with_reducible first | exact HB.out | apply below_alloc | apply pw_below_drewN | apply below_drew1) | exact HB.out))) : w.heap.size ≤ gb350)); clear HB; have HB := n0_; have BK350 := n1_; have GW350 := n2_; have GE350 := n3_; clear n0_ n1_ n2_ n3_; clear hb hbox hg; have hcz3_0 : w2.cell? ⟨gb350, 0, none⟩ = some (.int .i64 0) := (blk_cell BK350.out 0).trans rfl; have hcz3_1 : w2.cell? ⟨gb350, 1, none⟩ = some (.int .i64 0) := (blk_cell BK350.out 1).trans rfl; have hcz3_2 : w2.cell? ⟨gb350, 2, none⟩ = some (.int .u64 0) := (blk_cell BK350.out 2).trans rfl; have hcz3_3 : w2.cell? ⟨gb350, 3, none⟩ = some (.int .u64 0) := (blk_cell BK350.out 3).trans rfl; have hcz3_4 : w2.cell? ⟨gb350, 4, none⟩ = some (.int .u64 0) := (blk_cell BK350.out 4).trans rfl; have hcz3_5 : w2.cell? ⟨gb350, 5, none⟩ = some (.int .u64 0) := (blk_cell BK350.out 5).trans rfl; have hcz3_6 : w2.cell? ⟨gb350, 6, none⟩ = some (.string (⟨#[]⟩ : ByteArray)) := (blk_cell BK350.out 6).trans rfl; have hfz3_0 := blk_frozen BK350.out 0; have hfz3_1 := blk_frozen BK350.out 1; have hfz3_2 := blk_frozen BK350.out 2; have hfz3_3 := blk_frozen BK350.out 3; have hfz3_4 := blk_frozen BK350.out 4; have hfz3_5 := blk_frozen BK350.out 5; have hfz3_6 := blk_frozen BK350.out 6))
  refine bodyPost_ret (results_cell_row rfl _ _ gb350 78 #[.int .i64 0, .int .i64 (wrap64 ((-1) - a0)), .int .u64 0, .int .u64 0, .int .u64 0, .int .u64 0, .string (⟨#[]⟩ : ByteArray)] (0, 0) _ rfl (by (with_reducible repeat (first | refine blk_drewN ?_ _ | refine blk_drew ?_ | refine blk_alloc ?_ _)); refine blk_put (cs := #[.int .i64 0, .int .i64 (wrap64 ((-1) - a0)), .int .u64 0, .int .u64 0, .int .u64 0, .int .u64 0, .string (⟨#[]⟩ : ByteArray)]) ?_ 6 _ rfl; (with_reducible repeat (first | refine blk_drewN ?_ _ | refine blk_drew ?_ | refine blk_alloc ?_ _)); refine blk_put (cs := #[.int .i64 0, .int .i64 (wrap64 ((-1) - a0)), .int .u64 0, .int .u64 0, .int .u64 0, .int .u64 0, .string (⟨#[]⟩ : ByteArray)]) ?_ 5 _ rfl; (with_reducible repeat (first | refine blk_drewN ?_ _ | refine blk_drew ?_ | refine blk_alloc ?_ _)); refine blk_put (cs := #[.int .i64 0, .int .i64 (wrap64 ((-1) - a0)), .int .u64 0, .int .u64 0, .int .u64 0, .int .u64 0, .string (⟨#[]⟩ : ByteArray)]) ?_ 4 _ rfl; (with_reducible repeat (first | refine blk_drewN ?_ _ | refine blk_drew ?_ | refine blk_alloc ?_ _)); refine blk_put (cs := #[.int .i64 0, .int .i64 (wrap64 ((-1) - a0)), .int .u64 0, .int .u64 0, .int .u64 0, .int .u64 0, .string (⟨#[]⟩ : ByteArray)]) ?_ 3 _ rfl; (with_reducible repeat (first | refine blk_drewN ?_ _ | refine blk_drew ?_ | refine blk_alloc ?_ _)); refine blk_put (cs := #[.int .i64 0, .int .i64 (wrap64 ((-1) - a0)), .int .u64 0, .int .u64 0, .int .u64 0, .int .u64 0, .string (⟨#[]⟩ : ByteArray)]) ?_ 2 _ rfl; (with_reducible repeat (first | refine blk_drewN ?_ _ | refine blk_drew ?_ | refine blk_alloc ?_ _)); refine blk_put (cs := #[.int .i64 0, .int .i64 0, .int .u64 0, .int .u64 0, .int .u64 0, .int .u64 0, .string (⟨#[]⟩ : ByteArray)]) ?_ 1 _ rfl; (with_reducible repeat (first | refine blk_drewN ?_ _ | refine blk_drew ?_ | refine blk_alloc ?_ _)); refine blk_put (cs := #[.int .i64 0, .int .i64 0, .int .u64 0, .int .u64 0, .int .u64 0, .int .u64 0, .string (⟨#[]⟩ : ByteArray)]) ?_ 0 _ rfl; (with_reducible repeat (first | refine blk_drewN ?_ _ | refine blk_drew ?_ | refine blk_alloc ?_ _)); exact BK350.out) Try.underlying78 rfl (by kernel_rfl)) rfl ?_
  exact ⟨by first | rfl | (simp [errW_none, errW_some] <;> rfl) | (simp [*, errW_none, errW_some] <;> rfl), by repeat (first | (with_reducible first | exact HB.out | apply below_alloc | apply pw_below_drewN | apply below_drew1 | refine below_set ?_ GE350.out) | exact HB.out)⟩
def dowelbook_inssMore.f (a0 : Int) : Option (Int × Int × Int × Int × Int × Int × ByteArray) := some (0, wrap64 ((-100000) - a0), 0, 0, 0, 0, (⟨#[]⟩ : ByteArray))
set_option maxHeartbeats 8000000 in
set_option maxRecDepth 100000 in
theorem dowelbook_inssMore.calls (a0 : Int) (r1 : Int) (r2 : Int) (r3 : Int) (r4 : Int) (r5 : Int) (r6 : Int) (r7 : ByteArray) (w : World) (h : dowelbook_inssMore.f a0 = some (r1, r2, r3, r4, r5, r6, r7)) :
    Calls Try.prog 63 #[.int .i64 a0] w fun e w' => e = .returned (.agg #[.int .i64 r1, .int .i64 r2, .int .u64 r3, .int .u64 r4, .int .u64 r5, .int .u64 r6, .string r7]) ∧ Below w.heap.size w w' := by
  have hu78 := Try.underlying78
  have HB := Aside0.mk (Below.refl w.heap.size w)
  have H : (some (0, wrap64 ((-100000) - a0), 0, 0, 0, 0, (⟨#[]⟩ : ByteArray))) = some (r1, r2, r3, r4, r5, r6, r7) := h
  clear h
  simp only [Option.some.injEq, Prod.mk.injEq] at H
  obtain ⟨rfl, rfl, rfl, rfl, rfl, rfl, rfl⟩ := H
  go_enter Try.func63, Try.ntmps63
  go_wp2_with (first | ((with_reducible refine gate_dst (N := 2) rfl ?_); refine box_event ?hg (N := 2) ?hd (cs := #[.int .i64 0, .int .i64 0, .int .u64 0, .int .u64 0, .int .u64 0, .int .u64 0, .string (⟨#[]⟩ : ByteArray)]) (t := 78) ?hr ?_; (case hd => rfl); (case hg => rfl); (case hr => first | (go_simp; done) | (go_simp; rfl)); intro gb351 hg w2 hbox hb; have n0_ := Aside0.mk (below_step (by repeat (first | (with_reducible first | exact HB.out | apply below_alloc | apply pw_below_drewN | apply below_drew1) | exact HB.out)) hb); have n1_ := Aside0.mk (hbox); have n2_ := Aside0.mk ((by rw [hg]; exact (below_size (by repeat (first | (with_reducible first | exact HB.out | apply below_alloc | apply pw_below_drewN | apply below_drew1) | exact HB.out))) : w.heap.size ≤ gb351)); have n3_ := Aside0.mk ((by rw [hg]; exact (below_size (by repeat (first | (with_reducible first | exact HB.out | apply below_alloc | apply pw_below_drewN | apply below_drew1) | exact HB.out))) : w.heap.size ≤ gb351)); clear HB; have HB := n0_; have BK351 := n1_; have GW351 := n2_; have GE351 := n3_; clear n0_ n1_ n2_ n3_; clear hb hbox hg; have hcz3_0 : w2.cell? ⟨gb351, 0, none⟩ = some (.int .i64 0) := (blk_cell BK351.out 0).trans rfl; have hcz3_1 : w2.cell? ⟨gb351, 1, none⟩ = some (.int .i64 0) := (blk_cell BK351.out 1).trans rfl; have hcz3_2 : w2.cell? ⟨gb351, 2, none⟩ = some (.int .u64 0) := (blk_cell BK351.out 2).trans rfl; have hcz3_3 : w2.cell? ⟨gb351, 3, none⟩ = some (.int .u64 0) := (blk_cell BK351.out 3).trans rfl; have hcz3_4 : w2.cell? ⟨gb351, 4, none⟩ = some (.int .u64 0) := (blk_cell BK351.out 4).trans rfl; have hcz3_5 : w2.cell? ⟨gb351, 5, none⟩ = some (.int .u64 0) := (blk_cell BK351.out 5).trans rfl; have hcz3_6 : w2.cell? ⟨gb351, 6, none⟩ = some (.string (⟨#[]⟩ : ByteArray)) := (blk_cell BK351.out 6).trans rfl; have hfz3_0 := blk_frozen BK351.out 0; have hfz3_1 := blk_frozen BK351.out 1; have hfz3_2 := blk_frozen BK351.out 2; have hfz3_3 := blk_frozen BK351.out 3; have hfz3_4 := blk_frozen BK351.out 4; have hfz3_5 := blk_frozen BK351.out 5; have hfz3_6 := blk_frozen BK351.out 6))
  refine bodyPost_ret (results_cell_row rfl _ _ gb351 78 #[.int .i64 0, .int .i64 (wrap64 ((-100000) - a0)), .int .u64 0, .int .u64 0, .int .u64 0, .int .u64 0, .string (⟨#[]⟩ : ByteArray)] (0, 0) _ rfl (by (with_reducible repeat (first | refine blk_drewN ?_ _ | refine blk_drew ?_ | refine blk_alloc ?_ _)); refine blk_put (cs := #[.int .i64 0, .int .i64 (wrap64 ((-100000) - a0)), .int .u64 0, .int .u64 0, .int .u64 0, .int .u64 0, .string (⟨#[]⟩ : ByteArray)]) ?_ 6 _ rfl; (with_reducible repeat (first | refine blk_drewN ?_ _ | refine blk_drew ?_ | refine blk_alloc ?_ _)); refine blk_put (cs := #[.int .i64 0, .int .i64 (wrap64 ((-100000) - a0)), .int .u64 0, .int .u64 0, .int .u64 0, .int .u64 0, .string (⟨#[]⟩ : ByteArray)]) ?_ 5 _ rfl; (with_reducible repeat (first | refine blk_drewN ?_ _ | refine blk_drew ?_ | refine blk_alloc ?_ _)); refine blk_put (cs := #[.int .i64 0, .int .i64 (wrap64 ((-100000) - a0)), .int .u64 0, .int .u64 0, .int .u64 0, .int .u64 0, .string (⟨#[]⟩ : ByteArray)]) ?_ 4 _ rfl; (with_reducible repeat (first | refine blk_drewN ?_ _ | refine blk_drew ?_ | refine blk_alloc ?_ _)); refine blk_put (cs := #[.int .i64 0, .int .i64 (wrap64 ((-100000) - a0)), .int .u64 0, .int .u64 0, .int .u64 0, .int .u64 0, .string (⟨#[]⟩ : ByteArray)]) ?_ 3 _ rfl; (with_reducible repeat (first | refine blk_drewN ?_ _ | refine blk_drew ?_ | refine blk_alloc ?_ _)); refine blk_put (cs := #[.int .i64 0, .int .i64 (wrap64 ((-100000) - a0)), .int .u64 0, .int .u64 0, .int .u64 0, .int .u64 0, .string (⟨#[]⟩ : ByteArray)]) ?_ 2 _ rfl; (with_reducible repeat (first | refine blk_drewN ?_ _ | refine blk_drew ?_ | refine blk_alloc ?_ _)); refine blk_put (cs := #[.int .i64 0, .int .i64 0, .int .u64 0, .int .u64 0, .int .u64 0, .int .u64 0, .string (⟨#[]⟩ : ByteArray)]) ?_ 1 _ rfl; (with_reducible repeat (first | refine blk_drewN ?_ _ | refine blk_drew ?_ | refine blk_alloc ?_ _)); refine blk_put (cs := #[.int .i64 0, .int .i64 0, .int .u64 0, .int .u64 0, .int .u64 0, .int .u64 0, .string (⟨#[]⟩ : ByteArray)]) ?_ 0 _ rfl; (with_reducible repeat (first | refine blk_drewN ?_ _ | refine blk_drew ?_ | refine blk_alloc ?_ _)); exact BK351.out) Try.underlying78 rfl (by kernel_rfl)) rfl ?_
  exact ⟨by first | rfl | (simp [errW_none, errW_some] <;> rfl) | (simp [*, errW_none, errW_some] <;> rfl), by repeat (first | (with_reducible first | exact HB.out | apply below_alloc | apply pw_below_drewN | apply below_drew1 | refine below_set ?_ GE351.out) | exact HB.out)⟩
end Go.Proofs.Ytebiogaacikphaa.PAll
end
section
namespace Go.Proofs.Ytebiogaacikphaa.Pack
open Go.RowKit Go.Proofs.YtebiogaacikphaaW.PrintWords Go.Proofs.Ytebiogaacikphaa.PAll Go.Proofs.Ytebiogaacikphaa.Names Go.Proofs.Ytebiogaacikphaa.Contains
set_option linter.unusedVariables false
set_option linter.unusedSimpArgs false
set_option linter.unnecessarySimpa false
theorem cells7 {W : World} {g : Nat} {e : TypeId} {y : Ins} (h : RowAt W g e (insCells y)) : W.cell? ⟨g, 0, none⟩ = some (.int .i64 y.f0) ∧ W.cell? ⟨g, 1, none⟩ = some (.int .i64 y.f1) ∧ W.cell? ⟨g, 2, none⟩ = some (.int .u64 y.f2.f0) ∧ W.cell? ⟨g, 3, none⟩ = some (.int .u64 y.f2.f1) ∧ W.cell? ⟨g, 4, none⟩ = some (.int .u64 y.f2.f2) ∧ W.cell? ⟨g, 5, none⟩ = some (.int .u64 y.f2.f3) ∧ W.cell? ⟨g, 6, none⟩ = some (.string y.f3) :=
  ⟨h.cell 0, h.cell 1, h.cell 2, h.cell 3, h.cell 4, h.cell 5, h.cell 6⟩
/-- Two instructions are the same, as Go compares them. -/
def eqI (x y : Ins) : Bool := x.f0 == y.f0 && (x.f1 == y.f1 && ((x.f2.f0 == y.f2.f0 && (x.f2.f1 == y.f2.f1 && (x.f2.f2 == y.f2.f2 && (x.f2.f3 == y.f2.f3)))) && (x.f3.toList == y.f3.toList)))
theorem eqI_iff (x y : Ins) : eqI x y = true ↔ x = y := by
  obtain ⟨a0, a1, ⟨a2, a3, a4, a5⟩, a6⟩ := x
  obtain ⟨b0, b1, ⟨b2, b3, b4, b5⟩, b6⟩ := y
  have h6 : a6.toList = b6.toList ↔ a6 = b6 := by
    constructor
    · intro h
      have h' : a6.data = b6.data := by
        have e1 := congrArg List.toArray h
        simpa [ByteArray.toList_eq] using e1
      cases a6; cases b6; simpa using h'
    · intro h; rw [h]
  simp [eqI, h6, and_assoc]
/-- What is left of an instruction that has the operand of its kind alone. -/
def bareI (x : Ins) : Ins := if kindOf x.f0 = 1 then { zIns with f0 := x.f0, f1 := x.f1 } else if kindOf x.f0 = 2 then { zIns with f0 := x.f0, f2 := x.f2 } else if kindOf x.f0 = 3 then { zIns with f0 := x.f0, f3 := x.f3 } else { zIns with f0 := x.f0 }
def rightB (x : Ins) (n : Nat) : Bool := if x.f0 < 0 ∨ 15 < x.f0 then false else if eqI x (bareI x) = false then false else if kindOf x.f0 = 1 then decide (0 ≤ x.f1 ∧ x.f1 < n) else if kindOf x.f0 = 3 then (isOwn x.f3.data.toList && isName x.f3.data.toList) else true
theorem has_ev (a : Int) : Ev (fun k => code_has.f k a) (decide (kindOf a = 1), decide (kindOf a = 2), decide (kindOf a = 3)) := by
  unfold code_has.f
  have j1 : ∀ b : Bool, ¬ (a = 3 ∨ a = 4 ∨ a = 5 ∨ a = 6 ∨ a = 7 ∨ a = 10 ∨ a = 15) → (b = true ↔ (a = 1 ∨ a = 2)) → Ev (fun k => code_has.j1 k a b) (decide (kindOf a = 1), decide (kindOf a = 2), decide (kindOf a = 3)) := by
    intro b h0 hb
    refine Ev.step (fun _ => by rw [code_has.j1]) ?_
    unfold kindOf
    rw [if_neg h0]
    refine Ev.ite (fun h => Ev.some_ (by rw [if_pos (hb.1 h)]; rfl)) (fun h => ?_)
    rw [if_neg (fun h' => h (hb.2 h'))]
    refine Ev.ite (fun h => Ev.some_ (by rw [if_pos (.inl h)]; rfl)) (fun h4 => ?_)
    exact Ev.ite (fun h => Ev.some_ (by rw [if_pos (.inr h)]; rfl)) (fun h5 => Ev.some_ (by rw [if_neg (by omega)]; rfl))
  have j0 : ∀ b : Bool, (b = true ↔ (a = 3 ∨ a = 4 ∨ a = 5 ∨ a = 6 ∨ a = 7 ∨ a = 10 ∨ a = 15)) → Ev (fun k => code_has.j0 k a b) (decide (kindOf a = 1), decide (kindOf a = 2), decide (kindOf a = 3)) := by
    intro b hb
    refine Ev.step (fun _ => by rw [code_has.j0]) ?_
    refine Ev.ite (fun h => Ev.some_ (by rw [kindOf, if_pos (hb.1 h)]; rfl)) (fun h => ?_)
    have h0 : ¬ (a = 3 ∨ a = 4 ∨ a = 5 ∨ a = 6 ∨ a = 7 ∨ a = 10 ∨ a = 15) := fun h' => h (hb.2 h')
    exact Ev.ite (fun h1 => j1 _ h0 (by simp [h1])) (fun h1 => j1 _ h0 (by simp [h1]))
  refine Ev.ite (fun h => j0 _ (by simp [h])) (fun h3 => ?_)
  refine Ev.ite (fun h => j0 _ (by simp [h])) (fun h4 => ?_)
  refine Ev.ite (fun h => j0 _ (by simp [h])) (fun h5 => ?_)
  refine Ev.ite (fun h => j0 _ (by simp [h])) (fun h6 => ?_)
  refine Ev.ite (fun h => j0 _ (by simp [h])) (fun h7 => ?_)
  exact Ev.ite (fun h => j0 _ (by simp [h])) (fun h10 => j0 _ (by simp [h3, h4, h5, h6, h7, h10]))
theorem has_lit (a : Int) (b1 b2 b3 : Bool) (h1 : decide (kindOf a = 1) = b1) (h2 : decide (kindOf a = 2) = b2) (h3 : decide (kindOf a = 3) = b3) (w : World) : Calls Try.prog 101 #[.int .i64 a] w fun e w' => e = .returned (.tuple #[.bool b1, .bool b2, .bool b3]) ∧ Drawn0 w w' := by
  subst h1 h2 h3
  obtain ⟨k, hk⟩ := has_ev a
  exact code_has.calls k a _ _ _ w (hk k (Nat.le_refl _))
theorem kinds (a : Int) : kindOf a = 0 ∨ kindOf a = 1 ∨ kindOf a = 2 ∨ kindOf a = 3 := by
  unfold kindOf
  split
  · exact .inr (.inl rfl)
  · split
    · exact .inr (.inr (.inl rfl))
    · split
      · exact .inr (.inr (.inr rfl))
      · exact .inl rfl
theorem name_lit (s : ByteArray) (hs : s.size ≤ 140737488351232) (v : Bool) (hv : isName s.data.toList = v) (W : World) : Calls Try.prog 47 #[.string s] W fun e w' => e = .returned (.bool v) ∧ Drawn0 W w' := by
  subst hv
  obtain ⟨k, hk⟩ := lexName_ev s hs
  exact lexis_Name.calls k s _ W (hk k (Nat.le_refl _))
section
variable (x : Ins) (n : Nat) (w : World)
set_option maxHeartbeats 4000000 in
set_option maxRecDepth 100000 in
theorem right_calls (hs : x.f3.size ≤ 140737488351232) (r : Bool) (hr : rightB x n = r) :
    Calls Try.prog 81 #[.agg #[.int .i64 x.f0, .int .i64 x.f1, .int .u64 x.f2.f0, .int .u64 x.f2.f1, .int .u64 x.f2.f2, .int .u64 x.f2.f3, .string x.f3], .int .i64 n] w fun e w' => e = .returned (.bool r) ∧ Below w.heap.size w w' := by
  by_cases c0 : x.f0 < 0
  · have k0 : decide (x.f0 < 0) = true := decide_eq_true c0
    rw [rightB, if_pos (.inl c0)] at hr
    subst hr
    clear c0
    go_enter Try.func81, Try.ntmps81
    go_wp2_with (first | ((with_reducible refine gate_dst (N := 2) rfl ?_); refine box_event (N := 2) rfl rfl (cs := #[.int .i64 x.f0, .int .i64 x.f1, .int .u64 x.f2.f0, .int .u64 x.f2.f1, .int .u64 x.f2.f2, .int .u64 x.f2.f3, .string x.f3]) (t := 78) ?hr2 ?_; (case hr2 => first | (go_simp; done) | (go_simp; rfl)); intro g2 hg2 w1 hbox hb1; have H2 := Aside0.mk (show RowAt w1 g2 78 (insCells x) from ⟨_, hbox, rfl⟩); have HB := Aside0.mk hb1; clear hbox hb1 hg2; obtain ⟨x0, x1, x2, x3, x4, x5, x6⟩ := cells7 H2.out))
    go_ret
    exact ⟨rfl, HB.out⟩
  · have k0 : decide (x.f0 < 0) = false := decide_eq_false c0
    by_cases c1 : x.f0 > 15
    · have k1 : decide (x.f0 > 15) = true := decide_eq_true c1
      rw [rightB, if_pos (.inr c1)] at hr
      subst hr
      clear c0 c1
      go_enter Try.func81, Try.ntmps81
      go_wp2_with (first | ((with_reducible refine gate_dst (N := 2) rfl ?_); refine box_event (N := 2) rfl rfl (cs := #[.int .i64 x.f0, .int .i64 x.f1, .int .u64 x.f2.f0, .int .u64 x.f2.f1, .int .u64 x.f2.f2, .int .u64 x.f2.f3, .string x.f3]) (t := 78) ?hr2 ?_; (case hr2 => first | (go_simp; done) | (go_simp; rfl)); intro g2 hg2 w1 hbox hb1; have H2 := Aside0.mk (show RowAt w1 g2 78 (insCells x) from ⟨_, hbox, rfl⟩); have HB := Aside0.mk hb1; clear hbox hb1 hg2; obtain ⟨x0, x1, x2, x3, x4, x5, x6⟩ := cells7 H2.out))
      go_ret
      exact ⟨rfl, HB.out⟩
    · have k1 : decide (x.f0 > 15) = false := decide_eq_false c1
      rw [rightB, if_neg (by omega)] at hr
      obtain ⟨E, hE⟩ : ∃ E, eqI x (bareI x) = E := ⟨_, rfl⟩
      obtain ⟨y, hy⟩ : ∃ y, bareI x = y := ⟨_, rfl⟩
      have heq : ∀ (d : Nat) (W : World), (Op.equalIn (d + 3) 78 (.agg #[.int .i64 x.f0, .int .i64 x.f1, .int .u64 x.f2.f0, .int .u64 x.f2.f1, .int .u64 x.f2.f2, .int .u64 x.f2.f3, .string x.f3]) (.agg #[.int .i64 y.f0, .int .i64 y.f1, .int .u64 y.f2.f0, .int .u64 y.f2.f1, .int .u64 y.f2.f2, .int .u64 y.f2.f3, .string y.f3])).run Try.prog W = .ok E W := fun d W => by
        rw [eqA78, ← hE, hy]
        rfl
      rw [hE] at hr
      have HHAS := fun b1 b2 b3 h1 h2 h3 => Aside0.mk (has_lit x.f0 b1 b2 b3 h1 h2 h3)
      have hsz : x.f3.size ≤ 140737488351232 := hs
      clear c0 c1 hE
      refine (kinds x.f0).elim (fun hk => ?K0) (fun hk => hk.elim (fun hk => ?K1) (fun hk => hk.elim (fun hk => ?K2) (fun hk => ?K3)))
      case' K0 =>
        have HHAS := HHAS false false false (by simp [hk]) (by simp [hk]) (by simp [hk])
        have HYY := Aside0.mk (show y = { zIns with f0 := x.f0 } by rw [← hy, bareI, if_neg (by omega), if_neg (by omega), if_neg (by omega)])
        have MK0 := Aside0.mk hk
        rw [if_neg (show ¬ kindOf x.f0 = 1 by omega), if_neg (show ¬ kindOf x.f0 = 3 by omega)] at hr
        clear hk hy
        cases E <;> simp at hr <;> subst hr
      case' K1 =>
        have HHAS := HHAS true false false (by simp [hk]) (by simp [hk]) (by simp [hk])
        have HYY := Aside0.mk (show y = { zIns with f0 := x.f0, f1 := x.f1 } by rw [← hy, bareI, if_pos hk])
        rw [if_pos hk] at hr
        obtain ⟨b1, k2⟩ : ∃ b1, decide (x.f1 ≥ 0) = b1 := ⟨_, rfl⟩
        obtain ⟨b2, k3⟩ : ∃ b2, decide (x.f1 < (n : Int)) = b2 := ⟨_, rfl⟩
        have hr2 : (if E = false then false else b1 && b2) = r := by rw [← hr, ← k2, ← k3, Bool.decide_and]
        clear hr hk hy
        cases E <;> cases b1 <;> cases b2 <;> simp at hr2 <;> subst hr2
      case' K2 =>
        have HHAS := HHAS false true false (by simp [hk]) (by simp [hk]) (by simp [hk])
        have HYY := Aside0.mk (show y = { zIns with f0 := x.f0, f2 := x.f2 } by rw [← hy, bareI, if_neg (by omega), if_pos hk])
        rw [if_neg (show ¬ kindOf x.f0 = 1 by omega), if_neg (show ¬ kindOf x.f0 = 3 by omega)] at hr
        clear hk hy
        cases E <;> simp at hr <;> subst hr
      case' K3 =>
        have HHAS := HHAS false false true (by simp [hk]) (by simp [hk]) (by simp [hk])
        have HYY := Aside0.mk (show y = { zIns with f0 := x.f0, f3 := x.f3 } by rw [← hy, bareI, if_neg (by omega), if_neg (by omega), if_pos hk])
        rw [if_neg (show ¬ kindOf x.f0 = 1 by omega), if_pos hk] at hr
        have HCA0 := Aside0.mk (fun h => containsAny_some x.f3 h)
        obtain ⟨b1, k2⟩ : ∃ b1, isName x.f3.data.toList = b1 := ⟨_, rfl⟩
        obtain ⟨b2, k3⟩ : ∃ b2, isOwn x.f3.data.toList = b2 := ⟨_, rfl⟩
        have HNM := Aside0.mk (name_lit x.f3 hsz b1 k2)
        have HCA := Aside0.mk (fun W (h : b1 = true) => strings_ContainsAny.calls x.f3 (⟨#[58, 126]⟩ : ByteArray) (!b2) W (by rw [HCA0.out (k2.trans h), k3]))
        rw [k2, k3] at hr
        clear hk hy k2 k3 HCA0
        cases E <;> cases b1 <;> cases b2 <;> simp at hr <;> subst hr
      all_goals
        go_enter Try.func81, Try.ntmps81
        go_wp2_with (first
          | ((with_reducible refine gate_dst (N := 2) rfl ?_); refine box_event (N := 2) rfl rfl (cs := #[.int .i64 x.f0, .int .i64 x.f1, .int .u64 x.f2.f0, .int .u64 x.f2.f1, .int .u64 x.f2.f2, .int .u64 x.f2.f3, .string x.f3]) (t := 78) ?hr2 ?_; (case hr2 => first | (go_simp; done) | (go_simp; rfl)); intro g2 hg2 w1 hbox hb1; have H2 := Aside0.mk (show RowAt w1 g2 78 (insCells x) from ⟨_, hbox, rfl⟩); have HB := Aside0.mk hb1; clear hbox hb1 hg2; obtain ⟨x0, x1, x2, x3, x4, x5, x6⟩ := cells7 H2.out)
          | ((with_reducible refine gate_dst (N := 5) rfl ?_); refine box_event (N := 5) rfl rfl (cs := #[.int .i64 0, .int .i64 0, .int .u64 0, .int .u64 0, .int .u64 0, .int .u64 0, .string (⟨#[]⟩ : ByteArray)]) (t := 78) ?hr2 ?_; (case hr2 => first | (go_simp; done) | (go_simp; rfl)); intro g5 hg5 w1 hbox hb1; have H5 := Aside0.mk (show RowAt w1 g5 78 (insCells zIns) from ⟨_, hbox, rfl⟩); have HG5 := Aside0.mk (show g2 < g5 by have := H2.out.lt; omega); have HG0 := Aside0.mk (show w.heap.size ≤ g5 by have := HB.out.size; omega); have n1_ := Aside0.mk (H2.out.below hb1); have n2_ := Aside0.mk (below_step HB.out hb1); clear H2 HB hbox hb1 hg5 x0 x1 x2 x3 x4 x5 x6; have H2 := n1_; have HB := n2_; clear n1_ n2_; obtain ⟨x0, x1, x2, x3, x4, x5, x6⟩ := cells7 H2.out)
          | ((with_reducible refine gate_store (t := 78) (p := 5) rfl ?_); refine put_event rfl rfl 78 (.tmp 5) (.tmp 19) rfl (off := 0) (u := .agg #[.int .i64 x.f0, .int .i64 0, .int .u64 0, .int .u64 0, .int .u64 0, .int .u64 0, .string (⟨#[]⟩ : ByteArray)]) (seg := insCells { zIns with f0 := x.f0 }) rfl rfl H5.out rfl (by kernel_rfl) (by simp [insCells]) (by simp [insCells, Value.oneCell']) ?_; intro w5 hrow hgr; have n1_ := Aside0.mk (H2.out.grown hgr (by have := HG5.out; simp; omega)); have n2_ := Aside0.mk (pw_below_grown HB.out (some g5) HB.out.size hgr (fun k hk => by injection hk with hk; have := HG0.out; omega)); clear H2 HB H5 hgr x0 x1 x2 x3 x4 x5 x6; have H2 := n1_; have HB := n2_; clear n1_ n2_; obtain ⟨x0, x1, x2, x3, x4, x5, x6⟩ := cells7 H2.out; have H5 := Aside0.mk (show RowAt w5 g5 78 (insCells { zIns with f0 := x.f0 }) from hrow); clear hrow)
          | (go_at_call 101; have hk0 := MK0.out; have hcall := HHAS.out w5; (with_reducible refine hcall.mono ?_); clear hcall; rintro xx w6 ⟨rfl, hd⟩; have n1_ := Aside0.mk (H2.out.below hd.below); have n2_ := Aside0.mk (below_step HB.out hd.below); have n3_ := Aside0.mk (show RowAt w6 g5 78 (insCells y) from by rw [HYY.out]; exact H5.out.below hd.below); clear H2 HB H5 hd x0 x1 x2 x3 x4 x5 x6 hk0; have H2 := n1_; have HB := n2_; have H5 := n3_; clear n1_ n2_ n3_; obtain ⟨x0, x1, x2, x3, x4, x5, x6⟩ := cells7 H2.out; obtain ⟨y0, y1, y2, y3, y4, y5, y6⟩ := cells7 H5.out)
          | (go_at_call 101; have hcall := HHAS.out w5; (with_reducible refine hcall.mono ?_); clear hcall; rintro xx w6 ⟨rfl, hd⟩; have n1_ := Aside0.mk (H2.out.below hd.below); have n2_ := Aside0.mk (below_step HB.out hd.below); have n3_ := Aside0.mk (H5.out.below hd.below); clear H2 HB H5 hd x0 x1 x2 x3 x4 x5 x6; have H2 := n1_; have HB := n2_; have H5 := n3_; clear n1_ n2_ n3_; obtain ⟨x0, x1, x2, x3, x4, x5, x6⟩ := cells7 H2.out)
          | ((with_reducible refine gate_store (t := 3) (p := 31) rfl ?_); refine put_event rfl rfl 3 (.tmp 31) (.tmp 30) rfl (off := 1) (u := .int .i64 x.f1) (seg := [.int .i64 x.f1]) rfl rfl H5.out rfl (by kernel_rfl) (by simp [insCells]) (by simp [Value.oneCell']) ?_; intro w7 hrow hgr; have n1_ := Aside0.mk (H2.out.grown hgr (by have := HG5.out; simp; omega)); have n2_ := Aside0.mk (pw_below_grown HB.out (some g5) HB.out.size hgr (fun k hk => by injection hk with hk; have := HG0.out; omega)); clear H2 HB H5 hgr x0 x1 x2 x3 x4 x5 x6; have H2 := n1_; have HB := n2_; clear n1_ n2_; obtain ⟨x0, x1, x2, x3, x4, x5, x6⟩ := cells7 H2.out; have H5 := Aside0.mk (show RowAt w7 g5 78 (insCells y) from by rw [HYY.out]; exact hrow); clear hrow; obtain ⟨y0, y1, y2, y3, y4, y5, y6⟩ := cells7 H5.out)
          | ((with_reducible refine gate_store (t := 76) (p := 36) rfl ?_); refine put_event rfl rfl 76 (.tmp 36) (.tmp 35) rfl (off := 2) (u := .agg #[.int .u64 x.f2.f0, .int .u64 x.f2.f1, .int .u64 x.f2.f2, .int .u64 x.f2.f3]) (seg := [.int .u64 x.f2.f0, .int .u64 x.f2.f1, .int .u64 x.f2.f2, .int .u64 x.f2.f3]) rfl rfl H5.out rfl (by kernel_rfl) (by simp [insCells]) (by simp [Value.oneCell']) ?_; intro w7 hrow hgr; have n1_ := Aside0.mk (H2.out.grown hgr (by have := HG5.out; simp; omega)); have n2_ := Aside0.mk (pw_below_grown HB.out (some g5) HB.out.size hgr (fun k hk => by injection hk with hk; have := HG0.out; omega)); clear H2 HB H5 hgr x0 x1 x2 x3 x4 x5 x6; have H2 := n1_; have HB := n2_; clear n1_ n2_; obtain ⟨x0, x1, x2, x3, x4, x5, x6⟩ := cells7 H2.out; have H5 := Aside0.mk (show RowAt w7 g5 78 (insCells y) from by rw [HYY.out]; exact hrow); clear hrow; obtain ⟨y0, y1, y2, y3, y4, y5, y6⟩ := cells7 H5.out)
          | ((with_reducible refine gate_store (t := 9) (p := 41) rfl ?_); refine put_event rfl rfl 9 (.tmp 41) (.tmp 40) rfl (off := 6) (u := .string x.f3) (seg := [.string x.f3]) rfl rfl H5.out rfl (by kernel_rfl) (by simp [insCells]) (by simp [Value.oneCell']) ?_; intro w7 hrow hgr; have n1_ := Aside0.mk (H2.out.grown hgr (by have := HG5.out; simp; omega)); have n2_ := Aside0.mk (pw_below_grown HB.out (some g5) HB.out.size hgr (fun k hk => by injection hk with hk; have := HG0.out; omega)); clear H2 HB H5 hgr x0 x1 x2 x3 x4 x5 x6; have H2 := n1_; have HB := n2_; clear n1_ n2_; obtain ⟨x0, x1, x2, x3, x4, x5, x6⟩ := cells7 H2.out; have H5 := Aside0.mk (show RowAt w7 g5 78 (insCells y) from by rw [HYY.out]; exact hrow); clear hrow; obtain ⟨y0, y1, y2, y3, y4, y5, y6⟩ := cells7 H5.out)
          | (go_at_call 47; have hcall := HNM.out w7; (with_reducible refine hcall.mono ?_); clear hcall; rintro xx w8 ⟨rfl, hd⟩; have n1_ := Aside0.mk (H2.out.below hd.below); have n2_ := Aside0.mk (below_step HB.out hd.below); clear H2 HB H5 hd x0 x1 x2 x3 x4 x5 x6 y0 y1 y2 y3 y4 y5 y6; have H2 := n1_; have HB := n2_; clear n1_ n2_; obtain ⟨x0, x1, x2, x3, x4, x5, x6⟩ := cells7 H2.out)
          | (go_at_call 85; have hcall := HCA.out w8 (by simp); (with_reducible refine hcall.mono ?_); clear hcall; rintro xx w9 ⟨rfl, hb⟩; have n2_ := Aside0.mk (below_step HB.out hb); clear HB hb; have HB := n2_; clear n2_))
        go_ret
        exact ⟨rfl, HB.out⟩
end
end Go.Proofs.Ytebiogaacikphaa.Pack
end
section
namespace Go.Proofs.Ytebiogaacikphaa.Pack
open Go.RowKit Go.Proofs.YtebiogaacikphaaW.PrintWords Go.Proofs.Ytebiogaacikphaa.PAll
set_option linter.unusedVariables false
set_option linter.unusedSimpArgs false
theorem insCells_len (x : Ins) : (insCells x).length = 7 := rfl
theorem flat_get : ∀ (l : List Ins) (j : Nat) (x : Ins), l[j]? = some x → ∀ i u, (insCells x)[i]? = some u → (l.flatMap insCells)[j * 7 + i]? = some u
  | [], _, _, h, _, _, _ => by simp at h
  | y :: l, 0, x, h, i, u, hi => by
    simp only [List.getElem?_cons_zero, Option.some.injEq] at h
    subst h
    have hl := (List.getElem?_eq_some_iff.1 hi).1
    rw [List.flatMap_cons, Nat.zero_mul, Nat.zero_add, List.getElem?_append_left hl]
    exact hi
  | y :: l, j + 1, x, h, i, u, hi => by
    have ih := flat_get l j x (by simpa using h) i u hi
    rw [List.flatMap_cons, List.getElem?_append_right (by rw [insCells_len]; omega), insCells_len, show (j + 1) * 7 + i - 7 = j * 7 + i by omega]
    exact ih
theorem inss_loop (l : List Ins) (hl : l.length ≤ 140737488351232) : ∀ d i : Nat, i + d = l.length → Ev (fun k => dowelbook_Inss.l0 k l l (i : Int)) true
  | 0, i, h => by
    refine Ev.step (fun _ => by rw [dowelbook_Inss.l0]) ?_
    exact Ev.neg (by omega) (Ev.some_ rfl)
  | d + 1, i, h => by
    have ih := inss_loop l hl d (i + 1) (by omega)
    refine Ev.step (fun _ => by rw [dowelbook_Inss.l0]) ?_
    refine Ev.pos (by omega) (Ev.pos (by omega) (Ev.pos (by omega) (Ev.neg (by simp) ?_)))
    rw [show wrap64 ((i : Int) + 1) = ((i + 1 : Nat) : Int) by rw [w64] <;> omega]
    exact ih
theorem inss_ev (l : List Ins) (hl : l.length ≤ 140737488351232) : Ev (fun k => dowelbook_Inss.f k l l) true := by
  unfold dowelbook_Inss.f
  exact Ev.pos rfl (inss_loop l hl l.length 0 (by omega))
theorem inss_lit (A : Option Addr) (c : Nat) (A2 : Option Addr) (c2 : Nat) (l : List Ins) (w : World) (h : Kd.C k78 w A l.length l) (hc : l.length ≤ c) (h2 : Kd.C k78 w A2 l.length l) (hc2 : l.length ≤ c2) (hl : l.length ≤ 140737488351232) :
    Calls Try.prog 26 #[.slice A l.length c, .slice A2 l.length c2] w fun e w' => e = .returned (.bool true) ∧ Drawn0 w w' := by
  obtain ⟨k, hk⟩ := inss_ev l hl
  exact dowelbook_Inss.calls k A c l A2 c2 l true w h hc h2 hc2 (hk k (Nat.le_refl _))
end Go.Proofs.Ytebiogaacikphaa.Pack
end
