/- Parts of the proof of packBack and packOne and packCuts and packSpoilt and packSmall: PAllx22, PackPut, PackProgram. No condition beyond each lemma's own. -/
import Derived.Test.YtebiogaacikphaaTQ3
import Derived.Test.YtebiogaacikphaaTQ7
section
namespace Go.Proofs.Ytebiogaacikphaa.PAll
open Go.RowKit Go.Proofs.YtebiogaacikphaaW.PrintWords Go.Proofs.YtebiogaacikphaaW.PrintLast Go.Proofs.YtebiogaacikphaaW.PrintMore
set_option linter.unusedVariables false
set_option linter.unusedSimpArgs false
mutual
def pack_operand.j0 : Nat → Int → Bool → Option (Int)
  | 0, _, _ => none
  | k + 1, x3, x4 => if x4 = true then (some 1) else (if x3 = 1 then (pack_operand.j1 k x3 (x3 == 1)) else (pack_operand.j1 k x3 (x3 == 2)))
def pack_operand.j1 : Nat → Int → Bool → Option (Int)
  | 0, _, _ => none
  | k + 1, x3, x12 => if x12 = true then (some 2) else (if x3 = 12 then (some 3) else (if x3 = 14 then (some 3) else (some 0)))
end
def pack_operand.f (k : Nat) (a0 : Int) : Option (Int) := if a0 = 3 then (pack_operand.j0 k a0 (a0 == 3)) else (if a0 = 4 then (pack_operand.j0 k a0 (a0 == 4)) else (if a0 = 5 then (pack_operand.j0 k a0 (a0 == 5)) else (if a0 = 6 then (pack_operand.j0 k a0 (a0 == 6)) else (if a0 = 7 then (pack_operand.j0 k a0 (a0 == 7)) else (if a0 = 10 then (pack_operand.j0 k a0 (a0 == 10)) else (pack_operand.j0 k a0 (a0 == 15)))))))
set_option maxHeartbeats 8000000 in
set_option maxRecDepth 100000 in
theorem pack_operand.calls (k : Nat) (a0 : Int) (r : Int) (w : World) (h : pack_operand.f k a0 = some r) :
    Calls Try.prog 99 #[.int .i64 a0] w fun e w' => e = .returned (.int .i64 r) ∧ Drawn0 w w' := by
  have H : (if a0 = 3 then (pack_operand.j0 k a0 (a0 == 3)) else (if a0 = 4 then (pack_operand.j0 k a0 (a0 == 4)) else (if a0 = 5 then (pack_operand.j0 k a0 (a0 == 5)) else (if a0 = 6 then (pack_operand.j0 k a0 (a0 == 6)) else (if a0 = 7 then (pack_operand.j0 k a0 (a0 == 7)) else (if a0 = 10 then (pack_operand.j0 k a0 (a0 == 10)) else (pack_operand.j0 k a0 (a0 == 15)))))))) = some r := h
  clear h
  have HC2 := Aside0.mk H
  clear H
  go_enter Try.func99, Try.ntmps99
  go_upto_if 4 with (fail)
  go_cut [4] (fun v4 wc => ∃ (kq : Nat) (x4_1 : Bool), v4 = .bool x4_1 ∧ Aside0 (pack_operand.j0 kq a0 x4_1 = some r) ∧ Aside0 (kq ≤ k) ∧ Drawn0 w wc)
  case first =>
    have H := HC2.out
    clear HC2
    by_cases c3 : a0 = 3
    · rw [if_pos c3] at H
      have c3b0 : (a0 == 3) = true := beq_iff_eq.mpr c3
      have c3b1 : (a0 != 3) = false := bne_eq_false_iff_eq.mpr c3
      clear c3
      (first | rw [c3b0] | (simp only [i64_w, i32_w]; rw [c3b0]) | skip)
      have H' := Aside0.mk H
      clear H
      go_wp2
      go_meet
      case rel => exact ⟨_, ((a0 == 3)), (by first | rfl | (simp; done) | (simp [*]; done)), H', ⟨by first | omega | exact Nat.le_refl _⟩, by repeat (first | exact Drawn0.refl _ | apply Drawn0.step)⟩
    · rw [if_neg c3] at H
      have c3b0 : (a0 == 3) = false := beq_eq_false_iff_ne.mpr c3
      have c3b1 : (a0 != 3) = true := bne_iff_ne.mpr c3
      (first | rw [c3b0] | (simp only [i64_w, i32_w]; rw [c3b0]) | skip)
      by_cases c4 : a0 = 4
      · rw [if_pos c4] at H
        have c4b0 : (a0 == 4) = true := beq_iff_eq.mpr c4
        have c4b1 : (a0 != 4) = false := bne_eq_false_iff_eq.mpr c4
        clear c4
        have H' := Aside0.mk H
        clear H
        go_wp2
        go_meet
        case rel => exact ⟨_, ((a0 == 4)), (by first | rfl | (simp; done) | (simp [*]; done)), H', ⟨by first | omega | exact Nat.le_refl _⟩, by repeat (first | exact Drawn0.refl _ | apply Drawn0.step)⟩
      · rw [if_neg c4] at H
        have c4b0 : (a0 == 4) = false := beq_eq_false_iff_ne.mpr c4
        have c4b1 : (a0 != 4) = true := bne_iff_ne.mpr c4
        by_cases c5 : a0 = 5
        · rw [if_pos c5] at H
          have c5b0 : (a0 == 5) = true := beq_iff_eq.mpr c5
          have c5b1 : (a0 != 5) = false := bne_eq_false_iff_eq.mpr c5
          clear c5
          have H' := Aside0.mk H
          clear H
          go_wp2
          go_meet
          case rel => exact ⟨_, ((a0 == 5)), (by first | rfl | (simp; done) | (simp [*]; done)), H', ⟨by first | omega | exact Nat.le_refl _⟩, by repeat (first | exact Drawn0.refl _ | apply Drawn0.step)⟩
        · rw [if_neg c5] at H
          have c5b0 : (a0 == 5) = false := beq_eq_false_iff_ne.mpr c5
          have c5b1 : (a0 != 5) = true := bne_iff_ne.mpr c5
          by_cases c6 : a0 = 6
          · rw [if_pos c6] at H
            have c6b0 : (a0 == 6) = true := beq_iff_eq.mpr c6
            have c6b1 : (a0 != 6) = false := bne_eq_false_iff_eq.mpr c6
            clear c6
            have H' := Aside0.mk H
            clear H
            go_wp2
            go_meet
            case rel => exact ⟨_, ((a0 == 6)), (by first | rfl | (simp; done) | (simp [*]; done)), H', ⟨by first | omega | exact Nat.le_refl _⟩, by repeat (first | exact Drawn0.refl _ | apply Drawn0.step)⟩
          · rw [if_neg c6] at H
            have c6b0 : (a0 == 6) = false := beq_eq_false_iff_ne.mpr c6
            have c6b1 : (a0 != 6) = true := bne_iff_ne.mpr c6
            by_cases c7 : a0 = 7
            · rw [if_pos c7] at H
              have c7b0 : (a0 == 7) = true := beq_iff_eq.mpr c7
              have c7b1 : (a0 != 7) = false := bne_eq_false_iff_eq.mpr c7
              clear c7
              have H' := Aside0.mk H
              clear H
              go_wp2
              go_meet
              case rel => exact ⟨_, ((a0 == 7)), (by first | rfl | (simp; done) | (simp [*]; done)), H', ⟨by first | omega | exact Nat.le_refl _⟩, by repeat (first | exact Drawn0.refl _ | apply Drawn0.step)⟩
            · rw [if_neg c7] at H
              have c7b0 : (a0 == 7) = false := beq_eq_false_iff_ne.mpr c7
              have c7b1 : (a0 != 7) = true := bne_iff_ne.mpr c7
              by_cases c8 : a0 = 10
              · rw [if_pos c8] at H
                have c8b0 : (a0 == 10) = true := beq_iff_eq.mpr c8
                have c8b1 : (a0 != 10) = false := bne_eq_false_iff_eq.mpr c8
                clear c8
                have H' := Aside0.mk H
                clear H
                go_wp2
                go_meet
                case rel => exact ⟨_, ((a0 == 10)), (by first | rfl | (simp; done) | (simp [*]; done)), H', ⟨by first | omega | exact Nat.le_refl _⟩, by repeat (first | exact Drawn0.refl _ | apply Drawn0.step)⟩
              · rw [if_neg c8] at H
                have c8b0 : (a0 == 10) = false := beq_eq_false_iff_ne.mpr c8
                have c8b1 : (a0 != 10) = true := bne_iff_ne.mpr c8
                have H' := Aside0.mk H
                clear H
                go_wp2
                go_meet
                case rel => exact ⟨_, ((a0 == 15)), (by first | rfl | (simp; done) | (simp [*]; done)), H', ⟨by first | omega | exact Nat.le_refl _⟩, by repeat (first | exact Drawn0.refl _ | apply Drawn0.step)⟩
  case rest =>
    clear HC2
    try clear p2
    try clear c3
    try clear c3b0
    try clear c3b1
    try clear c4
    try clear c4b0
    try clear c4b1
    try clear c5
    try clear c5b0
    try clear c5b1
    try clear c6
    try clear c6b0
    try clear c6b1
    try clear c7
    try clear c7b0
    try clear c7b1
    try clear c8
    try clear c8b0
    try clear c8b1
    obtain ⟨kq, x4_1, rfl, HA, HJ1, ⟨mc1, rfl⟩⟩ := hcut
    cases kq with
    | zero => exact absurd HA.out (by simp [pack_operand.j0])
    | succ kj1 =>
      have H := HA.out
      clear HA
      simp only [pack_operand.j0] at H
      by_cases c9 : x4_1 = true
      · subst c9
        have H1 : (some 1) = some r := by rw [if_pos rfl] at H; exact H
        clear H
        have H := H1
        clear H1
        obtain rfl := Option.some.inj H
        go_wp2
        go_ret
        exact ⟨by first | rfl | (simp; done) | (simp [*]; done), by repeat (first | exact Drawn0.refl _ | apply Drawn0.step)⟩
      · replace c9 := Bool.eq_false_iff.mpr c9
        subst c9
        have H1 : (if a0 = 1 then (pack_operand.j1 kj1 a0 (a0 == 1)) else (pack_operand.j1 kj1 a0 (a0 == 2))) = some r := by rw [if_neg (show ¬ (false = true) by decide)] at H; exact H
        clear H
        have H := H1
        clear H1
        have HC10 := Aside0.mk H
        clear H
        go_upto_if 12 with (fail)
        go_cut [12] (fun v12 wc => ∃ (kq : Nat) (x12_9 : Bool), v12 = .bool x12_9 ∧ Aside0 (pack_operand.j1 kq a0 x12_9 = some r) ∧ Aside0 (kq ≤ kj1) ∧ Drawn0 w wc)
        case first =>
          have H := HC10.out
          clear HC10
          by_cases c11 : a0 = 1
          · rw [if_pos c11] at H
            have c11b0 : (a0 == 1) = true := beq_iff_eq.mpr c11
            have c11b1 : (a0 != 1) = false := bne_eq_false_iff_eq.mpr c11
            clear c11
            (first | rw [c11b0] | (simp only [i64_w, i32_w]; rw [c11b0]) | skip)
            have H' := Aside0.mk H
            clear H
            go_wp2
            go_meet
            case rel => exact ⟨_, ((a0 == 1)), (by first | rfl | (simp; done) | (simp [*]; done)), H', ⟨by have := HJ1.out; first | omega | exact Nat.le_refl _⟩, by repeat (first | exact Drawn0.refl _ | apply Drawn0.step)⟩
          · rw [if_neg c11] at H
            have c11b0 : (a0 == 1) = false := beq_eq_false_iff_ne.mpr c11
            have c11b1 : (a0 != 1) = true := bne_iff_ne.mpr c11
            (first | rw [c11b0] | (simp only [i64_w, i32_w]; rw [c11b0]) | skip)
            have H' := Aside0.mk H
            clear H
            go_wp2
            go_meet
            case rel => exact ⟨_, ((a0 == 2)), (by first | rfl | (simp; done) | (simp [*]; done)), H', ⟨by have := HJ1.out; first | omega | exact Nat.le_refl _⟩, by repeat (first | exact Drawn0.refl _ | apply Drawn0.step)⟩
        case rest =>
          clear HC10
          try clear c1
          try clear p2
          try clear c3
          try clear c3b0
          try clear c3b1
          try clear c4
          try clear c4b0
          try clear c4b1
          try clear c5
          try clear c5b0
          try clear c5b1
          try clear c6
          try clear c6b0
          try clear c6b1
          try clear c7
          try clear c7b0
          try clear c7b1
          try clear c8
          try clear c8b0
          try clear c8b1
          try clear c9
          try clear c11
          try clear c11b0
          try clear c11b1
          try clear p2
          obtain ⟨kq, x12_9, rfl, HA, HJ9, ⟨mc9, rfl⟩⟩ := hcut
          cases kq with
          | zero => exact absurd HA.out (by simp [pack_operand.j1])
          | succ kj9 =>
            have H := HA.out
            clear HA
            simp only [pack_operand.j1] at H
            by_cases c12 : x12_9 = true
            · subst c12
              have H1 : (some 2) = some r := by rw [if_pos rfl] at H; exact H
              clear H
              have H := H1
              clear H1
              obtain rfl := Option.some.inj H
              go_wp2
              go_ret
              exact ⟨by first | rfl | (simp; done) | (simp [*]; done), by repeat (first | exact Drawn0.refl _ | apply Drawn0.step)⟩
            · replace c12 := Bool.eq_false_iff.mpr c12
              subst c12
              have H1 : (if a0 = 12 then (some 3) else (if a0 = 14 then (some 3) else (some 0))) = some r := by rw [if_neg (show ¬ (false = true) by decide)] at H; exact H
              clear H
              have H := H1
              clear H1
              by_cases c13 : a0 = 12
              · rw [if_pos c13] at H
                have c13b0 : (a0 == 12) = true := beq_iff_eq.mpr c13
                have c13b1 : (a0 != 12) = false := bne_eq_false_iff_eq.mpr c13
                clear c13
                obtain rfl := Option.some.inj H
                go_wp2
                go_ret
                exact ⟨by first | rfl | (simp; done) | (simp [*]; done), by repeat (first | exact Drawn0.refl _ | apply Drawn0.step)⟩
              · rw [if_neg c13] at H
                have c13b0 : (a0 == 12) = false := beq_eq_false_iff_ne.mpr c13
                have c13b1 : (a0 != 12) = true := bne_iff_ne.mpr c13
                by_cases c14 : a0 = 14
                · rw [if_pos c14] at H
                  have c14b0 : (a0 == 14) = true := beq_iff_eq.mpr c14
                  have c14b1 : (a0 != 14) = false := bne_eq_false_iff_eq.mpr c14
                  clear c14
                  obtain rfl := Option.some.inj H
                  go_wp2
                  go_ret
                  exact ⟨by first | rfl | (simp; done) | (simp [*]; done), by repeat (first | exact Drawn0.refl _ | apply Drawn0.step)⟩
                · rw [if_neg c14] at H
                  have c14b0 : (a0 == 14) = false := beq_eq_false_iff_ne.mpr c14
                  have c14b1 : (a0 != 14) = true := bne_iff_ne.mpr c14
                  obtain rfl := Option.some.inj H
                  go_wp2
                  go_ret
                  exact ⟨by first | rfl | (simp; done) | (simp [*]; done), by repeat (first | exact Drawn0.refl _ | apply Drawn0.step)⟩
mutual
def dowelref20_Sum.l0 : Nat → List Int → Int → Int → Option (Int)
  | 0, _, _, _ => none
  | k + 1, x0, x3, x4 => if x4 < (x0.length : Int) then (if 0 ≤ x4 then (dowelref20_Sum.l1 k x0 (Go.bits .xor .u32 x3 ((rd x0 x4) % 4294967296)) x4 0) else (none)) else (some (Go.bits .xor .u32 4294967295 x3))
def dowelref20_Sum.l1 : Nat → List Int → Int → Int → Int → Option (Int)
  | 0, _, _, _, _ => none
  | k + 1, x0, x3, x4, x5 => if x5 < 8 then (if (Go.bits .and .u32 x3 1) = 1 then (dowelref20_Sum.l1 k x0 (Go.bits .xor .u32 (x3 / 2) 3988292384) x4 (wrap64 (x5 + 1))) else (dowelref20_Sum.l1 k x0 (x3 / 2) x4 (wrap64 (x5 + 1)))) else (dowelref20_Sum.l0 k x0 x3 (wrap64 (x4 + 1)))
end
def dowelref20_Sum.f (k : Nat) (l0 : List Int) : Option (Int) := dowelref20_Sum.l0 k l0 4294967295 0
set_option maxHeartbeats 8000000 in
set_option maxRecDepth 100000 in
theorem dowelref20_Sum.calls (k : Nat) (A0 : Option Addr) (c0 : Nat) (l0 : List Int) (r : Int) (w : World) (hr0 : Kd.C (Kd.int .u8) w A0 l0.length l0) (hc0 : l0.length ≤ c0) (h : dowelref20_Sum.f k l0 = some r) :
    Calls Try.prog 29 #[.slice A0 l0.length c0] w fun e w' => e = .returned (.int .u32 r) ∧ Drawn0 w w' := by
  have HR0 := Aside0.mk hr0
  have HC0 := Aside0.mk hc0
  clear hr0 hc0
  have H : (dowelref20_Sum.l0 k l0 4294967295 0) = some r := h
  clear h
  have H' := Aside0.mk H
  clear H
  go_enter Try.func29, Try.ntmps29
  go_wp2
  go_loopg [3, 4] k (fun kq v3 v4 w' => ∃ (x3_1 : Int) (x4_1 : Int), v3 = .int .u32 x3_1 ∧ v4 = .int .i64 x4_1 ∧ Aside0 (dowelref20_Sum.l0 kq l0 x3_1 x4_1 = some r) ∧ Aside0 (kq ≤ k) ∧ Drawn0 w w')
  case atStart => exact ⟨(4294967295), (0), (by first | rfl | (simp; done) | (simp [*]; done)), (by first | rfl | (simp; done) | (simp [*]; done)), H', ⟨Nat.le_refl _⟩, by repeat (first | exact Drawn0.refl _ | apply Drawn0.step)⟩
  case round =>
    clear H'
    obtain ⟨x3_1, x4_1, rfl, rfl, HA, HK1, ⟨m1, rfl⟩⟩ := hrel
    cases gk with
    | zero => exact absurd HA.out (by simp [dowelref20_Sum.l0])
    | succ k1 =>
      have H := HA.out
      clear HA
      simp only [dowelref20_Sum.l0] at H
      by_cases c2 : x4_1 < (l0.length : Int)
      · rw [if_pos c2] at H
        have c2b0 : decide (x4_1 < (l0.length : Int)) = true := decide_eq_true c2
        clear c2
        by_cases c3 : 0 ≤ x4_1
        · rw [if_pos c3] at H
          have c3b0 : decide (0 ≤ x4_1) = true := decide_eq_true c3
          clear c3
          have H' := Aside0.mk H
          clear H
          have p226 : 0 ≤ (x4_1 : Int) := of_decide_eq_true (by first | (with_reducible assumption) | assumption)
          have q226 : x4_1 < (l0.length : Int) := of_decide_eq_true (by first | (with_reducible assumption) | assumption)
          obtain ⟨ad226, e226, hx226_0⟩ := Kd.at_int HR0.out x4_1 p226 q226
          cases e226
          replace p226 := eq_true p226
          replace q226 := eq_true q226
          go_wp2
          go_loopg [3, 5] k1 (fun kq v3 v5 w' => ∃ (x3_2 : Int) (x5_2 : Int), v3 = .int .u32 x3_2 ∧ v5 = .int .i64 x5_2 ∧ Aside0 (dowelref20_Sum.l1 kq l0 x3_2 x4_1 x5_2 = some r) ∧ Aside0 (kq ≤ k1) ∧ Drawn0 w w')
          case atStart => exact ⟨(Go.bits .xor .u32 x3_1 ((rd l0 x4_1) % 4294967296)), (0), (by first | rfl | (simp; done) | (simp [*]; done)), (by first | rfl | (simp; done) | (simp [*]; done)), H', ⟨Nat.le_refl _⟩, by repeat (first | exact Drawn0.refl _ | apply Drawn0.step)⟩
          case round =>
            clear H'
            try clear c2
            try clear c2b0
            try clear p2
            try clear q2
            try clear hx2
            try clear c3
            try clear c3b0
            try clear hx226_0
            try clear p226
            try clear q226
            obtain ⟨x3_2, x5_2, rfl, rfl, HA, HK2, ⟨m2, rfl⟩⟩ := hrel
            cases gk with
            | zero => exact absurd HA.out (by simp [dowelref20_Sum.l1])
            | succ k2 =>
              have H := HA.out
              clear HA
              simp only [dowelref20_Sum.l1] at H
              by_cases c4 : x5_2 < 8
              · rw [if_pos c4] at H
                have c4b0 : decide (x5_2 < 8) = true := decide_eq_true c4
                clear c4
                by_cases c5 : (Go.bits .and .u32 x3_2 1) = 1
                · rw [if_pos c5] at H
                  have c5b0 : ((Go.bits .and .u32 x3_2 1) == 1) = true := beq_iff_eq.mpr c5
                  have c5b1 : ((Go.bits .and .u32 x3_2 1) != 1) = false := bne_eq_false_iff_eq.mpr c5
                  clear c5
                  have H' := Aside0.mk H
                  clear H
                  go_wp2
                  go_roundg k2
                  case measure => have := HK1.out; have := HK2.out; omega
                  case rel => exact ⟨(Go.bits .xor .u32 (x3_2 / 2) 3988292384), (wrap64 (x5_2 + 1)), (by first | rfl | (simp; done) | (simp [*]; done)), (by first | rfl | (simp; done) | (simp [*]; done)), H', ⟨by have := HK1.out; have := HK2.out; omega⟩, by repeat (first | exact Drawn0.refl _ | apply Drawn0.step)⟩
                · rw [if_neg c5] at H
                  have c5b0 : ((Go.bits .and .u32 x3_2 1) == 1) = false := beq_eq_false_iff_ne.mpr c5
                  have c5b1 : ((Go.bits .and .u32 x3_2 1) != 1) = true := bne_iff_ne.mpr c5
                  have H' := Aside0.mk H
                  clear H
                  go_wp2
                  go_roundg k2
                  case measure => have := HK1.out; have := HK2.out; omega
                  case rel => exact ⟨(x3_2 / 2), (wrap64 (x5_2 + 1)), (by first | rfl | (simp; done) | (simp [*]; done)), (by first | rfl | (simp; done) | (simp [*]; done)), H', ⟨by have := HK1.out; have := HK2.out; omega⟩, by repeat (first | exact Drawn0.refl _ | apply Drawn0.step)⟩
              · rw [if_neg c4] at H
                have c4b0 : decide (x5_2 < 8) = false := decide_eq_false c4
                clear c4
                have H' := Aside0.mk H
                clear H
                go_wp2
                go_roundg k2
                case measure => have := HK1.out; have := HK2.out; omega
                case rel => exact ⟨(x3_2), (wrap64 (x4_1 + 1)), (by first | rfl | (simp; done) | (simp [*]; done)), (by first | rfl | (simp; done) | (simp [*]; done)), H', ⟨by have := HK1.out; have := HK2.out; omega⟩, by repeat (first | exact Drawn0.refl _ | apply Drawn0.step)⟩
        · rw [if_neg c3] at H
          exact absurd H (by simp)
      · rw [if_neg c2] at H
        have c2b0 : decide (x4_1 < (l0.length : Int)) = false := decide_eq_false c2
        clear c2
        obtain rfl := Option.some.inj H
        go_wp2
        go_ret
        exact ⟨by first | rfl | (simp; done) | (simp [*]; done), by repeat (first | exact Drawn0.refl _ | apply Drawn0.step)⟩
end Go.Proofs.Ytebiogaacikphaa.PAll
end
section
namespace Go.Proofs.Ytebiogaacikphaa.Pack
open Go.RowKit Go.Proofs.YtebiogaacikphaaW.PrintWords Go.Proofs.Ytebiogaacikphaa.PAll
set_option linter.unusedVariables false
set_option linter.unusedSimpArgs false
/-- Which operand an instruction has: 1 a place, 2 a set, 3 a name, 0 none. -/
def kindOf (a : Int) : Int := if a = 3 ∨ a = 4 ∨ a = 5 ∨ a = 6 ∨ a = 7 ∨ a = 10 ∨ a = 15 then 1 else if a = 1 ∨ a = 2 then 2 else if a = 12 ∨ a = 14 then 3 else 0
theorem operand_ev (a : Int) : Ev (fun k => pack_operand.f k a) (kindOf a) := by
  unfold pack_operand.f
  have j1 : ∀ b : Bool, ¬ (a = 3 ∨ a = 4 ∨ a = 5 ∨ a = 6 ∨ a = 7 ∨ a = 10 ∨ a = 15) → (b = true ↔ (a = 1 ∨ a = 2)) → Ev (fun k => pack_operand.j1 k a b) (kindOf a) := by
    intro b h0 hb
    refine Ev.step (fun _ => by rw [pack_operand.j1]) ?_
    unfold kindOf
    rw [if_neg h0]
    refine Ev.ite (fun h => Ev.some_ (by rw [if_pos (hb.1 h)])) (fun h => ?_)
    rw [if_neg (fun h' => h (hb.2 h'))]
    refine Ev.ite (fun h => Ev.some_ (by rw [if_pos (.inl h)])) (fun h4 => ?_)
    exact Ev.ite (fun h => Ev.some_ (by rw [if_pos (.inr h)])) (fun h5 => Ev.some_ (by rw [if_neg (by omega)]))
  have j0 : ∀ b : Bool, (b = true ↔ (a = 3 ∨ a = 4 ∨ a = 5 ∨ a = 6 ∨ a = 7 ∨ a = 10 ∨ a = 15)) → Ev (fun k => pack_operand.j0 k a b) (kindOf a) := by
    intro b hb
    refine Ev.step (fun _ => by rw [pack_operand.j0]) ?_
    refine Ev.ite (fun h => Ev.some_ (by rw [kindOf, if_pos (hb.1 h)])) (fun h => ?_)
    have h0 : ¬ (a = 3 ∨ a = 4 ∨ a = 5 ∨ a = 6 ∨ a = 7 ∨ a = 10 ∨ a = 15) := fun h' => h (hb.2 h')
    exact Ev.ite (fun h1 => j1 _ h0 (by simp [h1])) (fun h1 => j1 _ h0 (by simp [h1]))
  refine Ev.ite (fun h => j0 _ (by simp [h])) (fun h3 => ?_)
  refine Ev.ite (fun h => j0 _ (by simp [h])) (fun h4 => ?_)
  refine Ev.ite (fun h => j0 _ (by simp [h])) (fun h5 => ?_)
  refine Ev.ite (fun h => j0 _ (by simp [h])) (fun h6 => ?_)
  refine Ev.ite (fun h => j0 _ (by simp [h])) (fun h7 => ?_)
  exact Ev.ite (fun h => j0 _ (by simp [h])) (fun h10 => j0 _ (by simp [h3, h4, h5, h6, h7, h10]))
theorem operand_lit (a v : Int) (hv : kindOf a = v) (w : World) : Calls Try.prog 99 #[.int .i64 a] w fun e w' => e = .returned (.int .i64 v) ∧ Below w.heap.size w w' := by
  subst hv
  obtain ⟨k, hk⟩ := operand_ev a
  exact (pack_operand.calls k a _ w (hk k (Nat.le_refl _))).mono fun e w' ⟨he, hd⟩ => ⟨he, hd.below⟩
/-- An instruction's cells. -/
def insCells (x : S78) : List Value := [.int .i64 x.f0, .int .i64 x.f1, .int .u64 x.f2.f0, .int .u64 x.f2.f1, .int .u64 x.f2.f2, .int .u64 x.f2.f3, .string x.f3]
/-- Where an operand of a place leads. -/
def toOf (i n : Nat) : Int := if n % 2 = 1 then (i : Int) - ((n + 1) / 2 : Nat) else (i : Int) + (n / 2 : Nat)
set_option maxHeartbeats 1000000 in
theorem put_none (w : World) (gu gx : Nat) (a : Int) (i n size : Nat) (x : S78) (hx : RowAt w gx 78 (insCells x)) (hk : kindOf x.f0 = 0) :
    Calls Try.prog 91 #[.pointer (some ⟨gu, 0, none⟩), .pointer (some ⟨gx, 0, none⟩), .int .i64 i, .int .i64 n, .int .i64 size] w fun r w' => r = .returned (.bool ((n : Int) == 0)) ∧ Below w.heap.size w w' := by
  have hc : w.cell? ⟨gx, 0, none⟩ = some (.int .i64 x.f0) := (hx.cell 0).trans rfl
  have HK := Aside0.mk hk
  have HB := Aside0.mk (Below.refl w.heap.size w)
  clear hx hk
  go_enter Try.func91, Try.ntmps91
  go_wp2_with (first
    | (go_at_call 99; refine (operand_lit _ 0 HK.out _).mono ?_; rintro r w1 ⟨rfl, hb⟩; have n1_ := Aside0.mk (below_step HB.out hb); clear HB hc hb; have HB := n1_; clear n1_))
  go_ret
  exact ⟨rfl, HB.out⟩
set_option maxHeartbeats 1000000 in
theorem put_place (w : World) (gu gx : Nat) (i n size : Nat) (x : S78) (hx : RowAt w gx 78 (insCells x)) (hk : kindOf x.f0 = 1) (hi : i ≤ 65536) (hn : n ≤ 4294967296) :
    Calls Try.prog 91 #[.pointer (some ⟨gu, 0, none⟩), .pointer (some ⟨gx, 0, none⟩), .int .i64 i, .int .i64 n, .int .i64 size] w fun r w' => r = .returned (.bool (decide (0 ≤ toOf i n) && decide (toOf i n < size))) ∧ RowAt w' gx 78 (insCells { x with f1 := toOf i n }) ∧ But (· = gx) w w' := by
  have hc : w.cell? ⟨gx, 0, none⟩ = some (.int .i64 x.f0) := (hx.cell 0).trans rfl
  have HK := Aside0.mk hk
  have HX := Aside0.mk hx
  clear hx hk
  have q1 : (i : Int) ≤ 65536 := by omega
  have q2 : (n : Int) ≤ 4294967296 := by omega
  have htm : (n : Int).tmod 2 = ((n % 2 : Nat) : Int) := by rw [Int.tmod_eq_emod_of_nonneg (by omega)]; omega
  have hd1 : IntKind.i64.wrap ((n : Int) / 2) = ((n / 2 : Nat) : Int) := by rw [IntWalk.i64_in _ (by omega)]; omega
  have hs1 : IntKind.i64.wrap ((i : Int) + ((n / 2 : Nat) : Int)) = (i : Int) + ((n / 2 : Nat) : Int) := IntWalk.i64_in _ (by omega)
  by_cases odd : n % 2 = 1
  · have b1 : (((n % 2 : Nat) : Int) == 1) = true := by simp [odd]
    have ha1 : IntKind.i64.wrap ((n : Int) + 1) = (n : Int) + 1 := IntWalk.i64_in _ (by omega)
    have hd2 : IntKind.i64.wrap (((n : Int) + 1) / 2) = (((n + 1) / 2 : Nat) : Int) := by rw [IntWalk.i64_in _ (by omega)]; omega
    have hs2 : IntKind.i64.wrap ((i : Int) - (((n + 1) / 2 : Nat) : Int)) = (i : Int) - (((n + 1) / 2 : Nat) : Int) := IntWalk.i64_in _ (by omega)
    rw [show toOf i n = (i : Int) - ((n : Int) + 1) / 2 by rw [toOf, if_pos odd]; omega]
    generalize n % 2 = r2 at *
    clear hd2 hs2
    generalize n / 2 = h2 at *
    by_cases c0 : 0 ≤ (i : Int) - (((n : Int) + 1) / 2)
    · have b2 : decide ((i : Int) - (((n : Int) + 1) / 2) ≥ 0) = true := decide_eq_true c0
      rw [show (decide (0 ≤ (i : Int) - (((n : Int) + 1) / 2)) && decide ((i : Int) - (((n : Int) + 1) / 2) < (size : Int))) = decide ((i : Int) - (((n : Int) + 1) / 2) < (size : Int)) by rw [decide_eq_true c0]; rfl]
      go_enter Try.func91, Try.ntmps91
      go_wp2_with (first
        | (go_at_call 99; refine (operand_lit _ 1 HK.out _).mono ?_; rintro r w1 ⟨rfl, hb⟩; have n1_ := Aside0.mk (HX.out.below hb); have HG := Aside0.mk (But.of_below (P := (· = gx)) hb); clear HX hc hb; have HX := n1_; clear n1_; have hc : w1.cell? ⟨gx, 0, none⟩ = some (.int .i64 x.f0) := (HX.out.cell 0).trans rfl)
        | ((with_reducible refine gate_store (t := 3) (p := 37) rfl ?_); refine put_event rfl rfl 3 (.tmp 37) (.tmp 35) rfl (off := 1) (u := .int .i64 ((i : Int) - (((n : Int) + 1) / 2))) (seg := [.int .i64 ((i : Int) - (((n : Int) + 1) / 2))]) rfl rfl HX.out rfl (by kernel_rfl) (by simp [insCells]) (by simp [Value.oneCell']) ?_; intro w2 hrow hgr; have n1_ := Aside0.mk (show RowAt w2 gx 78 (insCells { x with f1 := ((i : Int) - (((n : Int) + 1) / 2)) }) from hrow); have n2_ := Aside0.mk (HG.out.trans (But.of_grown (P := (· = gx)) hgr (fun k hk _ => by injection hk with hk; exact hk.symm)) (fun _ _ h => h)); clear HX HG hrow hgr hc1; have HX := n1_; have HG := n2_; clear n1_ n2_; have hc1 : w2.cell? ⟨gx, 1, none⟩ = some (.int .i64 ((i : Int) - (((n : Int) + 1) / 2))) := (HX.out.cell 1).trans rfl)
        | ((with_reducible refine gate_store (t := 3) (p := 26) rfl ?_); refine put_event rfl rfl 3 (.tmp 26) (.tmp 24) rfl (off := 1) (u := .int .i64 ((i : Int) + (h2 : Int))) (seg := [.int .i64 ((i : Int) + (h2 : Int))]) rfl rfl HX.out rfl (by kernel_rfl) (by simp [insCells]) (by simp [Value.oneCell']) ?_; intro w2 hrow hgr; have n1_ := Aside0.mk (show RowAt w2 gx 78 (insCells { x with f1 := ((i : Int) + (h2 : Int)) }) from hrow); have n2_ := Aside0.mk (HG.out.trans (But.of_grown (P := (· = gx)) hgr (fun k hk _ => by injection hk with hk; exact hk.symm)) (fun _ _ h => h)); clear HX HG hrow hgr hc; have HX := n1_; have HG := n2_; clear n1_ n2_; have hc1 : w2.cell? ⟨gx, 1, none⟩ = some (.int .i64 ((i : Int) + (h2 : Int))) := (HX.out.cell 1).trans rfl))
      go_ret
      exact ⟨rfl, HX.out, HG.out⟩
    · have b2 : decide ((i : Int) - (((n : Int) + 1) / 2) ≥ 0) = false := decide_eq_false c0
      rw [show (decide (0 ≤ (i : Int) - (((n : Int) + 1) / 2)) && decide ((i : Int) - (((n : Int) + 1) / 2) < (size : Int))) = false by rw [decide_eq_false c0]; rfl]
      go_enter Try.func91, Try.ntmps91
      go_wp2_with (first
        | (go_at_call 99; refine (operand_lit _ 1 HK.out _).mono ?_; rintro r w1 ⟨rfl, hb⟩; have n1_ := Aside0.mk (HX.out.below hb); have HG := Aside0.mk (But.of_below (P := (· = gx)) hb); clear HX hc hb; have HX := n1_; clear n1_; have hc : w1.cell? ⟨gx, 0, none⟩ = some (.int .i64 x.f0) := (HX.out.cell 0).trans rfl)
        | ((with_reducible refine gate_store (t := 3) (p := 37) rfl ?_); refine put_event rfl rfl 3 (.tmp 37) (.tmp 35) rfl (off := 1) (u := .int .i64 ((i : Int) - (((n : Int) + 1) / 2))) (seg := [.int .i64 ((i : Int) - (((n : Int) + 1) / 2))]) rfl rfl HX.out rfl (by kernel_rfl) (by simp [insCells]) (by simp [Value.oneCell']) ?_; intro w2 hrow hgr; have n1_ := Aside0.mk (show RowAt w2 gx 78 (insCells { x with f1 := ((i : Int) - (((n : Int) + 1) / 2)) }) from hrow); have n2_ := Aside0.mk (HG.out.trans (But.of_grown (P := (· = gx)) hgr (fun k hk _ => by injection hk with hk; exact hk.symm)) (fun _ _ h => h)); clear HX HG hrow hgr hc1; have HX := n1_; have HG := n2_; clear n1_ n2_; have hc1 : w2.cell? ⟨gx, 1, none⟩ = some (.int .i64 ((i : Int) - (((n : Int) + 1) / 2))) := (HX.out.cell 1).trans rfl)
        | ((with_reducible refine gate_store (t := 3) (p := 26) rfl ?_); refine put_event rfl rfl 3 (.tmp 26) (.tmp 24) rfl (off := 1) (u := .int .i64 ((i : Int) + (h2 : Int))) (seg := [.int .i64 ((i : Int) + (h2 : Int))]) rfl rfl HX.out rfl (by kernel_rfl) (by simp [insCells]) (by simp [Value.oneCell']) ?_; intro w2 hrow hgr; have n1_ := Aside0.mk (show RowAt w2 gx 78 (insCells { x with f1 := ((i : Int) + (h2 : Int)) }) from hrow); have n2_ := Aside0.mk (HG.out.trans (But.of_grown (P := (· = gx)) hgr (fun k hk _ => by injection hk with hk; exact hk.symm)) (fun _ _ h => h)); clear HX HG hrow hgr hc; have HX := n1_; have HG := n2_; clear n1_ n2_; have hc1 : w2.cell? ⟨gx, 1, none⟩ = some (.int .i64 ((i : Int) + (h2 : Int))) := (HX.out.cell 1).trans rfl))
      go_ret
      exact ⟨rfl, HX.out, HG.out⟩
  · have b1 : (((n % 2 : Nat) : Int) == 1) = false := by simp; omega
    rw [show toOf i n = (i : Int) + ((n / 2 : Nat) : Int) by rw [toOf, if_neg odd]]
    generalize n % 2 = r2 at *
    generalize n / 2 = h2 at *
    by_cases c0 : 0 ≤ (i : Int) + (h2 : Int)
    · have b2 : decide ((i : Int) + (h2 : Int) ≥ 0) = true := decide_eq_true c0
      go_enter Try.func91, Try.ntmps91
      go_wp2_with (first
        | (go_at_call 99; refine (operand_lit _ 1 HK.out _).mono ?_; rintro r w1 ⟨rfl, hb⟩; have n1_ := Aside0.mk (HX.out.below hb); have HG := Aside0.mk (But.of_below (P := (· = gx)) hb); clear HX hc hb; have HX := n1_; clear n1_; have hc : w1.cell? ⟨gx, 0, none⟩ = some (.int .i64 x.f0) := (HX.out.cell 0).trans rfl)
        | ((with_reducible refine gate_store (t := 3) (p := 26) rfl ?_); refine put_event rfl rfl 3 (.tmp 26) (.tmp 24) rfl (off := 1) (u := .int .i64 ((i : Int) + (h2 : Int))) (seg := [.int .i64 ((i : Int) + (h2 : Int))]) rfl rfl HX.out rfl (by kernel_rfl) (by simp [insCells]) (by simp [Value.oneCell']) ?_; intro w2 hrow hgr; have n1_ := Aside0.mk (show RowAt w2 gx 78 (insCells { x with f1 := ((i : Int) + (h2 : Int)) }) from hrow); have n2_ := Aside0.mk (HG.out.trans (But.of_grown (P := (· = gx)) hgr (fun k hk _ => by injection hk with hk; exact hk.symm)) (fun _ _ h => h)); clear HX HG hrow hgr hc; have HX := n1_; have HG := n2_; clear n1_ n2_; have hc1 : w2.cell? ⟨gx, 1, none⟩ = some (.int .i64 ((i : Int) + (h2 : Int))) := (HX.out.cell 1).trans rfl))
      go_ret
      exact ⟨by simp [b2], HX.out, HG.out⟩
    · omega
/-- What used holds: how many classes and names were seen, the tables. -/
structure US (base : Nat) (W : World) (gu : Nat) (vc vn vs vt : Value) (kc kn : Nat) (S : List Four) (T : List ByteArray) : Prop where
  row : RowAt W gu 103 [vc, vn, vs, vt]
  c : ∃ xs, W.ownsRow base 3 1 vc kc xs
  n : ∃ xs, W.ownsRow base 3 1 vn kn xs
  s : W.ownsRow base 76 4 vs S.length (S.flatMap clsCells)
  t : W.ownsRow base 9 1 vt T.length (T.map Value.string)
  ge : base ≤ gu
  off : vc.ownBlock ≠ some gu ∧ vn.ownBlock ≠ some gu ∧ vs.ownBlock ≠ some gu ∧ vt.ownBlock ≠ some gu
  c_ : ∀ k, vc.ownBlock = some k → vn.ownBlock ≠ some k ∧ vs.ownBlock ≠ some k ∧ vt.ownBlock ≠ some k
  n_ : ∀ k, vn.ownBlock = some k → vc.ownBlock ≠ some k ∧ vs.ownBlock ≠ some k ∧ vt.ownBlock ≠ some k
section
variable {base : Nat} {W W' : World} {gu : Nat} {vc vn vs vt : Value} {kc kn : Nat} {S : List Four} {T : List ByteArray}
theorem US.below (h : US base W gu vc vn vs vt kc kn S T) (hb : Below W.heap.size W W') : US base W' gu vc vn vs vt kc kn S T := by
  obtain ⟨xs, h1⟩ := h.c
  obtain ⟨ys, h2⟩ := h.n
  exact ⟨h.row.below hb, ⟨xs, own_kept h1 (fun k hk => hb.block k (own_lt h1 k hk))⟩, ⟨ys, own_kept h2 (fun k hk => hb.block k (own_lt h2 k hk))⟩, own_kept h.s (fun k hk => hb.block k (own_lt h.s k hk)), own_kept h.t (fun k hk => hb.block k (own_lt h.t k hk)), h.ge, h.off, h.c_, h.n_⟩
/-- A block that is none of these is written. -/
theorem US.grown (h : US base W gu vc vn vs vt kc kn S T) {r : Option Nat} (hg : W.grownBy W' r) (hr : ∀ k, r = some k → k ≠ gu ∧ vc.ownBlock ≠ some k ∧ vn.ownBlock ≠ some k ∧ vs.ownBlock ≠ some k ∧ vt.ownBlock ≠ some k) : US base W' gu vc vn vs vt kc kn S T := by
  obtain ⟨xs, h1⟩ := h.c
  obtain ⟨ys, h2⟩ := h.n
  exact ⟨h.row.grown hg (fun e => (hr gu e.symm).1 rfl), ⟨xs, own_kept h1 (fun k hk => hg.block k (own_lt h1 k hk) (fun e => (hr k e.symm).2.1 hk))⟩, ⟨ys, own_kept h2 (fun k hk => hg.block k (own_lt h2 k hk) (fun e => (hr k e.symm).2.2.1 hk))⟩, own_kept h.s (fun k hk => hg.block k (own_lt h.s k hk) (fun e => (hr k e.symm).2.2.2.1 hk)), own_kept h.t (fun k hk => hg.block k (own_lt h.t k hk) (fun e => (hr k e.symm).2.2.2.2 hk)), h.ge, h.off, h.c_, h.n_⟩
theorem US.nsc (h : US base W gu vc vn vs vt kc kn S T) : NS base W gu [vc, vn, vs, vt] 0 vc kc := ⟨h.row, rfl, h.c, h.ge, h.off.1⟩
theorem US.nsn (h : US base W gu vc vn vs vt kc kn S T) : NS base W gu [vc, vn, vs, vt] 1 vn kn := ⟨h.row, rfl, h.n, h.ge, h.off.2.1⟩
/-- One more class was seen. -/
theorem US.seenC (h : US base W gu vc vn vs vt kc kn S T) {v' : Value} {k' : Nat} (hn : NS base W' gu [v', vn, vs, vt] 0 v' k') (hq0 : But (fun q => q = gu ∨ some q = vc.ownBlock) W W') (hat : v'.ownBlock = vc.ownBlock ∨ ∃ q, v'.ownBlock = some q ∧ W.heap.size ≤ q) : US base W' gu v' vn vs vt k' kn S T := by
  obtain ⟨ys, h2⟩ := h.n
  have hq : ∀ q, q < W.heap.size → q ≠ gu → some q ≠ vc.ownBlock → W'.heap[q]? = W.heap[q]? := fun q h1 h2 h3 => hq0.block q h1 (by rintro (h | h); exact h2 h; exact h3 h)
  have k2 : ∀ k, vn.ownBlock = some k → W'.heap[k]? = W.heap[k]? := fun k hk => hq k (own_lt h2 k hk) (fun e => h.off.2.1 (e ▸ hk)) (fun e => (h.c_ k e.symm).1 hk)
  have k3 : ∀ k, vs.ownBlock = some k → W'.heap[k]? = W.heap[k]? := fun k hk => hq k (own_lt h.s k hk) (fun e => h.off.2.2.1 (e ▸ hk)) (fun e => (h.c_ k e.symm).2.1 hk)
  have k4 : ∀ k, vt.ownBlock = some k → W'.heap[k]? = W.heap[k]? := fun k hk => hq k (own_lt h.t k hk) (fun e => h.off.2.2.2 (e ▸ hk)) (fun e => (h.c_ k e.symm).2.2 hk)
  have hc : ∀ k, v'.ownBlock = some k → vn.ownBlock ≠ some k ∧ vs.ownBlock ≠ some k ∧ vt.ownBlock ≠ some k := by
    intro k hk
    rcases hat with e | ⟨q, e, hq'⟩
    · exact h.c_ k (e ▸ hk)
    · rw [e] at hk
      injection hk with hk
      exact ⟨fun e2 => by have := own_lt h2 k e2; omega, fun e2 => by have := own_lt h.s k e2; omega, fun e2 => by have := own_lt h.t k e2; omega⟩
  exact ⟨hn.row, hn.own, ⟨ys, own_kept h2 k2⟩, own_kept h.s k3, own_kept h.t k4, h.ge, ⟨hn.off, h.off.2⟩, hc, fun k hk => ⟨fun e => (hc k e).1 hk, (h.n_ k hk).2⟩⟩
/-- One more name was seen. -/
theorem US.seenN (h : US base W gu vc vn vs vt kc kn S T) {v' : Value} {k' : Nat} (hn : NS base W' gu [vc, v', vs, vt] 1 v' k') (hq0 : But (fun q => q = gu ∨ some q = vn.ownBlock) W W') (hat : v'.ownBlock = vn.ownBlock ∨ ∃ q, v'.ownBlock = some q ∧ W.heap.size ≤ q) : US base W' gu vc v' vs vt kc k' S T := by
  obtain ⟨ys, h2⟩ := h.c
  have hq : ∀ q, q < W.heap.size → q ≠ gu → some q ≠ vn.ownBlock → W'.heap[q]? = W.heap[q]? := fun q h1 h2 h3 => hq0.block q h1 (by rintro (h | h); exact h2 h; exact h3 h)
  have k2 : ∀ k, vc.ownBlock = some k → W'.heap[k]? = W.heap[k]? := fun k hk => hq k (own_lt h2 k hk) (fun e => h.off.1 (e ▸ hk)) (fun e => (h.n_ k e.symm).1 hk)
  have k3 : ∀ k, vs.ownBlock = some k → W'.heap[k]? = W.heap[k]? := fun k hk => hq k (own_lt h.s k hk) (fun e => h.off.2.2.1 (e ▸ hk)) (fun e => (h.n_ k e.symm).2.1 hk)
  have k4 : ∀ k, vt.ownBlock = some k → W'.heap[k]? = W.heap[k]? := fun k hk => hq k (own_lt h.t k hk) (fun e => h.off.2.2.2 (e ▸ hk)) (fun e => (h.n_ k e.symm).2.2 hk)
  have hc : ∀ k, v'.ownBlock = some k → vc.ownBlock ≠ some k ∧ vs.ownBlock ≠ some k ∧ vt.ownBlock ≠ some k := by
    intro k hk
    rcases hat with e | ⟨q, e, hq'⟩
    · exact h.n_ k (e ▸ hk)
    · rw [e] at hk
      injection hk with hk
      exact ⟨fun e2 => by have := own_lt h2 k e2; omega, fun e2 => by have := own_lt h.s k e2; omega, fun e2 => by have := own_lt h.t k e2; omega⟩
  exact ⟨hn.row, ⟨ys, own_kept h2 k2⟩, hn.own, own_kept h.s k3, own_kept h.t k4, h.ge, ⟨h.off.1, hn.off, h.off.2.2⟩, fun k hk => ⟨fun e => (hc k e).1 hk, (h.c_ k hk).2⟩, hc⟩
end
theorem cls_at {base : Nat} {W : World} {v : Value} {S : List Four} (h : W.ownsRow base 76 4 v S.length (S.flatMap clsCells)) {n : Nat} {x : Four} (hx : S[n]? = some x) : ∃ g cap, v = .slice (some ⟨g, 0, none⟩) S.length cap ∧ (∀ j u, (clsCells x)[j]? = some u → W.cell? ⟨g, n * 4 + j, none⟩ = some u) := by
  have hn : n < S.length := (List.getElem?_eq_some_iff.1 hx).1
  rcases h.2 with ⟨_, h0⟩ | ⟨g, cap, cur, rfl, _⟩
  · omega
  · refine ⟨g, cap, rfl, fun j u hu => ?_⟩
    have hj : j < 4 := by have := (List.getElem?_eq_some_iff.1 hu).1; simpa [clsCells] using this
    have key : ∀ (l : List Four) (m : Nat), l[m]? = some x → (l.flatMap clsCells)[m * 4 + j]? = some u := by
      intro l
      induction l with
      | nil => intro m h; simp at h
      | cons y l ih =>
        intro m h
        cases m with
        | zero =>
          have e : y = x := by simpa using h
          subst e
          rw [List.flatMap_cons, Nat.zero_mul, Nat.zero_add, List.getElem?_append_left (by simp [clsCells]; omega)]
          exact hu
        | succ m =>
          rw [List.flatMap_cons, List.getElem?_append_right (by simp [clsCells]; omega)]
          rw [show (m + 1) * 4 + j - (clsCells y).length = m * 4 + j by simp [clsCells]; omega]
          exact ih m (by simpa using h)
    have := h.cells (g := g) rfl (n * 4 + j) u (key S n hx)
    rwa [add_plain] at this
set_option maxHeartbeats 1000000 in
set_option maxRecDepth 100000 in
theorem put_set_no (base : Nat) (w : World) (gu gx : Nat) (i n size : Nat) (x : S78) (vc vn vs vt : Value) (kc kn : Nat) (S : List Four) (T : List ByteArray) (hu : US base w gu vc vn vs vt kc kn S T) (hx : RowAt w gx 78 (insCells x)) (hk : kindOf x.f0 = 2) (hno : kc < n ∨ S.length ≤ n) :
    Calls Try.prog 91 #[.pointer (some ⟨gu, 0, none⟩), .pointer (some ⟨gx, 0, none⟩), .int .i64 i, .int .i64 n, .int .i64 size] w fun r w' => r = .returned (.bool false) ∧ Below w.heap.size w w' := by
  have hc : w.cell? ⟨gx, 0, none⟩ = some (.int .i64 x.f0) := (hx.cell 0).trans rfl
  have HK := Aside0.mk hk
  have HU := Aside0.mk hu
  have HNO := Aside0.mk hno
  have HB := Aside0.mk (Below.refl w.heap.size w)
  obtain ⟨A, cp, rfl⟩ := own_len hu.s
  have h2 : w.cell? ⟨gu, 2, none⟩ = some (.slice A S.length cp) := (hu.row.cell 2).trans rfl
  clear hx hk hu hno
  go_enter Try.func91, Try.ntmps91
  go_wp2_with (first
    | (go_at_call 99; refine (operand_lit _ 2 HK.out _).mono ?_; rintro r w1 ⟨rfl, hb⟩; have n1_ := Aside0.mk (below_step HB.out hb); have n2_ := Aside0.mk (HU.out.below hb); clear HB HU hc hb h2; have HB := n1_; have HU := n2_; clear n1_ n2_; have h2 := (HU.out.row.cell 2).trans (show _ = some (.slice A S.length cp) from rfl)))
  go_still_tail 9, (by kernel_rfl)
  change wpList _ _ _ _ _ w1.drew
  have n1_ := Aside0.mk (below_step HB.out (below_drew (Below.refl w1.heap.size w1)))
  have n2_ := Aside0.mk (HU.out.below (below_drew (Below.refl w1.heap.size w1)))
  clear HB HU h2
  have HB := n1_
  have HU := n2_
  clear n1_ n2_
  generalize w1.drew = w2 at *
  go_wp2_with (first
    | (go_at_call 109; refine (next_no base _ gu 0 _ _ kc n S.length HU.out.nsc HNO.out).mono ?_; rintro r w3 ⟨rfl, rfl⟩))
  go_ret
  exact ⟨rfl, HB.out⟩
/-- next of the classes, both ways that say yes. -/
theorem next_c (base : Nat) (w : World) (gu : Nat) (vc vn vs vt : Value) (kc kn : Nat) (S : List Four) (T : List ByteArray) (n : Nat) (hu : US base w gu vc vn vs vt kc kn S T) (h1 : n ≤ kc) (h2 : n < S.length) (hs : S.length ≤ 65536) :
    Calls Try.prog 109 #[.pointer (some ⟨gu, 0, none⟩), .int .i64 n, .int .i64 S.length] w fun x w' => x = .returned (.bool true) ∧ ∃ v', US base w' gu v' vn vs vt (max kc (n + 1)) kn S T ∧ But (fun q => q = gu ∨ some q = vc.ownBlock) w w' ∧ (v'.ownBlock = vc.ownBlock ∨ ∃ q, v'.ownBlock = some q ∧ w.heap.size ≤ q) := by
  by_cases h : n < kc
  · refine (next_old base w gu 0 _ _ kc n S.length hu.nsc h h2).mono fun x w' ⟨hx, hw⟩ => ?_
    subst hw
    exact ⟨hx, vc, by rw [Nat.max_eq_left (by omega)]; exact hu, But.refl _ _, .inl rfl⟩
  · have e : n = kc := by omega
    subst e
    refine (next_new base w gu 0 _ _ n S.length hu.nsc h2 hs).mono fun x w' ⟨v', hx, hn, hq, hat⟩ => ?_
    exact ⟨hx, v', by rw [Nat.max_eq_right (by omega)]; exact hu.seenC hn hq hat, hq, hat⟩
theorem next_n (base : Nat) (w : World) (gu : Nat) (vc vn vs vt : Value) (kc kn : Nat) (S : List Four) (T : List ByteArray) (n : Nat) (hu : US base w gu vc vn vs vt kc kn S T) (h1 : n ≤ kn) (h2 : n < T.length) (hs : T.length ≤ 65536) :
    Calls Try.prog 109 #[.pointer (some ⟨gu, 1, none⟩), .int .i64 n, .int .i64 T.length] w fun x w' => x = .returned (.bool true) ∧ ∃ v', US base w' gu vc v' vs vt kc (max kn (n + 1)) S T ∧ But (fun q => q = gu ∨ some q = vn.ownBlock) w w' ∧ (v'.ownBlock = vn.ownBlock ∨ ∃ q, v'.ownBlock = some q ∧ w.heap.size ≤ q) := by
  by_cases h : n < kn
  · refine (next_old base w gu 1 _ _ kn n T.length hu.nsn h h2).mono fun x w' ⟨hx, hw⟩ => ?_
    subst hw
    exact ⟨hx, vn, by rw [Nat.max_eq_left (by omega)]; exact hu, But.refl _ _, .inl rfl⟩
  · have e : n = kn := by omega
    subst e
    refine (next_new base w gu 1 _ _ n T.length hu.nsn h2 hs).mono fun x w' ⟨v', hx, hn, hq, hat⟩ => ?_
    exact ⟨hx, v', by rw [Nat.max_eq_right (by omega)]; exact hu.seenN hn hq hat, hq, hat⟩
set_option maxHeartbeats 1000000 in
set_option maxRecDepth 100000 in
theorem put_set_yes (base : Nat) (w : World) (gu gx : Nat) (i n size : Nat) (x : S78) (vc vn vs vt : Value) (kc kn : Nat) (S : List Four) (T : List ByteArray) (hu : US base w gu vc vn vs vt kc kn S T) (hx : RowAt w gx 78 (insCells x)) (hk : kindOf x.f0 = 2) (hn : n ≤ kc) (hs : S.length ≤ 65536) (y : Four) (hy : S[n]? = some y) (hgx : gx ≠ gu ∧ vc.ownBlock ≠ some gx ∧ vn.ownBlock ≠ some gx ∧ vs.ownBlock ≠ some gx ∧ vt.ownBlock ≠ some gx) :
    Calls Try.prog 91 #[.pointer (some ⟨gu, 0, none⟩), .pointer (some ⟨gx, 0, none⟩), .int .i64 i, .int .i64 n, .int .i64 size] w fun r w' => r = .returned (.bool true) ∧ ∃ v', US base w' gu v' vn vs vt (max kc (n + 1)) kn S T ∧ RowAt w' gx 78 (insCells { x with f2 := ⟨y.1, y.2.1, y.2.2.1, y.2.2.2⟩ }) ∧ But (fun q => q = gu ∨ q = gx ∨ some q = vc.ownBlock) w w' ∧ (v'.ownBlock = vc.ownBlock ∨ ∃ q, v'.ownBlock = some q ∧ w.heap.size ≤ q) := by
  have hnl : n < S.length := (List.getElem?_eq_some_iff.1 hy).1
  have hc : w.cell? ⟨gx, 0, none⟩ = some (.int .i64 x.f0) := (hx.cell 0).trans rfl
  have HK := Aside0.mk hk
  have HU := Aside0.mk hu
  have HX := Aside0.mk hx
  have HY := Aside0.mk hy
  have HB := Aside0.mk (Below.refl w.heap.size w)
  have HN := Aside0.mk hn
  have HGX := Aside0.mk hgx
  obtain ⟨g, cp, rfl, _⟩ := cls_at hu.s hy
  have h2 : w.cell? ⟨gu, 2, none⟩ = some (.slice (some ⟨g, 0, none⟩) S.length cp) := (hu.row.cell 2).trans rfl
  clear hx hk hu hy hn hgx
  go_enter Try.func91, Try.ntmps91
  go_wp2_with (first
    | (go_at_call 99; refine (operand_lit _ 2 HK.out _).mono ?_; rintro r w1 ⟨rfl, hb⟩; have n1_ := Aside0.mk (below_step HB.out hb); have n2_ := Aside0.mk (HU.out.below hb); have n3_ := Aside0.mk (HX.out.below hb); clear HB HU HX hc hb h2; have HB := n1_; have HU := n2_; have HX := n3_; clear n1_ n2_ n3_; have h2 := (HU.out.row.cell 2).trans (show _ = some (.slice (some ⟨g, 0, none⟩) S.length cp) from rfl)))
  go_still_tail 9, (by kernel_rfl)
  change wpList _ _ _ _ _ w1.drew
  have n1_ := Aside0.mk (below_step HB.out (below_drew (Below.refl w1.heap.size w1)))
  have n2_ := Aside0.mk (HU.out.below (below_drew (Below.refl w1.heap.size w1)))
  have n3_ := Aside0.mk (HX.out.below (below_drew (Below.refl w1.heap.size w1)))
  clear HB HU HX h2
  have HB := n1_
  have HU := n2_
  have HX := n3_
  clear n1_ n2_ n3_
  generalize w1.drew = w2 at *
  have hixS : ∀ W : World, (Instr.indexAt 85 (.slice (some ⟨g, 0, none⟩) S.length cp) (.int .i64 (n : Int))).run Try.prog W = .ok (.pointer (some ⟨g, n * 4, none⟩)) W :=
    fun W => run_indexAt_own (P := Try.prog) (t := 85) (size := 4) Try.underlying85 (fun W => by kernel_rfl) g S.length cp n hnl W
  go_wp2_with (first
    | (go_at_call 109; refine (next_c base _ gu vc vn _ vt kc kn S T n HU.out HN.out hnl hs).mono ?_; rintro r w3 ⟨rfl, v', hu3, hq, hat⟩; have HU3 := Aside0.mk hu3; have HQ := Aside0.mk hq; have HAT := Aside0.mk hat; have HX3 := Aside0.mk (HX.out.kept (hq.block gx HX.out.lt (by rintro (h | h); exact HGX.out.1 h; exact HGX.out.2.1 h.symm))); obtain ⟨g', cp', he, hcl⟩ := cls_at hu3.s HY.out; cases he; have h2 := (hu3.row.cell 2).trans (show _ = some (.slice (some ⟨g, 0, none⟩) S.length cp) from rfl); have y0 := hcl 0 _ rfl; rw [Nat.add_zero] at y0; have y1 := hcl 1 _ rfl; have y2 := hcl 2 _ rfl; have y3 := hcl 3 _ rfl; clear hu3 hq hat hcl HU)
    | ((with_reducible refine gate_store (t := 76) (p := 73) rfl ?_); refine put_event rfl rfl 76 (.tmp 73) (.tmp 71) rfl (off := 2) (u := .agg #[.int .u64 y.1, .int .u64 y.2.1, .int .u64 y.2.2.1, .int .u64 y.2.2.2]) (seg := [.int .u64 y.1, .int .u64 y.2.1, .int .u64 y.2.2.1, .int .u64 y.2.2.2]) rfl rfl HX3.out rfl (by kernel_rfl) (by simp [insCells]) (by simp [Value.oneCell']) ?_; intro w4 hrow hgr; have HROW := Aside0.mk (show RowAt w4 gx 78 (insCells { x with f2 := ⟨y.1, y.2.1, y.2.2.1, y.2.2.2⟩ }) from hrow); have HGR := Aside0.mk hgr; clear hrow hgr))
  go_ret
  have hgx := HGX.out
  have hoff : v'.ownBlock ≠ some gx := by
    rcases HAT.out with e | ⟨q, e, hq⟩
    · rw [e]; exact hgx.2.1
    · rw [e]; intro h; injection h with h; have := HX.out.lt; omega
  refine ⟨rfl, v', HU3.out.grown HGR.out (fun k hk => by cases hk; exact ⟨hgx.1, hoff, hgx.2.2⟩), HROW.out, (((But.of_below HB.out).trans HQ.out (fun j _ h => h.elim .inl (fun h => .inr (.inr h)))).trans (But.of_grown (P := (· = gx)) HGR.out (fun k hk _ => by injection hk with hk; exact hk.symm)) (fun j _ h => .inr (.inl h))), by rcases HAT.out with e | ⟨q, e, hq⟩; exact .inl e; exact .inr ⟨q, e, by have := HB.out.size; omega⟩⟩
theorem str_at {base : Nat} {W : World} {v : Value} {T : List ByteArray} (h : W.ownsRow base 9 1 v T.length (T.map Value.string)) {n : Nat} {x : ByteArray} (hx : T[n]? = some x) : ∃ g cap, v = .slice (some ⟨g, 0, none⟩) T.length cap ∧ W.cell? ⟨g, n, none⟩ = some (.string x) := by
  have hn : n < T.length := (List.getElem?_eq_some_iff.1 hx).1
  rcases h.2 with ⟨_, h0⟩ | ⟨g, cap, cur, rfl, _⟩
  · omega
  · refine ⟨g, cap, rfl, ?_⟩
    have := h.cells (g := g) rfl n (.string x) (by rw [List.getElem?_map, hx]; rfl)
    rwa [add_plain] at this
set_option maxHeartbeats 1000000 in
set_option maxRecDepth 100000 in
theorem put_name_no (base : Nat) (w : World) (gu gx : Nat) (i n size : Nat) (x : S78) (vc vn vs vt : Value) (kc kn : Nat) (S : List Four) (T : List ByteArray) (hu : US base w gu vc vn vs vt kc kn S T) (hx : RowAt w gx 78 (insCells x)) (hk : kindOf x.f0 = 3) (hno : kn < n ∨ T.length ≤ n) :
    Calls Try.prog 91 #[.pointer (some ⟨gu, 0, none⟩), .pointer (some ⟨gx, 0, none⟩), .int .i64 i, .int .i64 n, .int .i64 size] w fun r w' => r = .returned (.bool false) ∧ Below w.heap.size w w' := by
  have hc : w.cell? ⟨gx, 0, none⟩ = some (.int .i64 x.f0) := (hx.cell 0).trans rfl
  have HK := Aside0.mk hk
  have HU := Aside0.mk hu
  have HNO := Aside0.mk hno
  have HB := Aside0.mk (Below.refl w.heap.size w)
  obtain ⟨A, cp, rfl⟩ := own_len hu.t
  have h2 : w.cell? ⟨gu, 3, none⟩ = some (.slice A T.length cp) := (hu.row.cell 3).trans rfl
  clear hx hk hu hno
  go_enter Try.func91, Try.ntmps91
  go_wp2_with (first
    | (go_at_call 99; refine (operand_lit _ 3 HK.out _).mono ?_; rintro r w1 ⟨rfl, hb⟩; have n1_ := Aside0.mk (below_step HB.out hb); have n2_ := Aside0.mk (HU.out.below hb); clear HB HU hc hb h2; have HB := n1_; have HU := n2_; clear n1_ n2_; have h2 := (HU.out.row.cell 3).trans (show _ = some (.slice A T.length cp) from rfl)))
  go_still_tail 9, (by kernel_rfl)
  change wpList _ _ _ _ _ w1.drew
  have n1_ := Aside0.mk (below_step HB.out (below_drew (Below.refl w1.heap.size w1)))
  have n2_ := Aside0.mk (HU.out.below (below_drew (Below.refl w1.heap.size w1)))
  clear HB HU h2
  have HB := n1_
  have HU := n2_
  clear n1_ n2_
  generalize w1.drew = w2 at *
  go_wp2_with (first
    | (go_at_call 109; refine (next_no base _ gu 1 _ _ kn n T.length HU.out.nsn HNO.out).mono ?_; rintro r w3 ⟨rfl, rfl⟩))
  go_ret
  exact ⟨rfl, HB.out⟩
set_option maxHeartbeats 1000000 in
set_option maxRecDepth 100000 in
theorem put_name_yes (base : Nat) (w : World) (gu gx : Nat) (i n size : Nat) (x : S78) (vc vn vs vt : Value) (kc kn : Nat) (S : List Four) (T : List ByteArray) (hu : US base w gu vc vn vs vt kc kn S T) (hx : RowAt w gx 78 (insCells x)) (hk : kindOf x.f0 = 3) (hn : n ≤ kn) (hs : T.length ≤ 65536) (y : ByteArray) (hy : T[n]? = some y) (hgx : gx ≠ gu ∧ vc.ownBlock ≠ some gx ∧ vn.ownBlock ≠ some gx ∧ vs.ownBlock ≠ some gx ∧ vt.ownBlock ≠ some gx) :
    Calls Try.prog 91 #[.pointer (some ⟨gu, 0, none⟩), .pointer (some ⟨gx, 0, none⟩), .int .i64 i, .int .i64 n, .int .i64 size] w fun r w' => r = .returned (.bool true) ∧ ∃ v', US base w' gu vc v' vs vt kc (max kn (n + 1)) S T ∧ RowAt w' gx 78 (insCells { x with f3 := y }) ∧ But (fun q => q = gu ∨ q = gx ∨ some q = vn.ownBlock) w w' ∧ (v'.ownBlock = vn.ownBlock ∨ ∃ q, v'.ownBlock = some q ∧ w.heap.size ≤ q) := by
  have hnl : n < T.length := (List.getElem?_eq_some_iff.1 hy).1
  have hc : w.cell? ⟨gx, 0, none⟩ = some (.int .i64 x.f0) := (hx.cell 0).trans rfl
  have HK := Aside0.mk hk
  have HU := Aside0.mk hu
  have HX := Aside0.mk hx
  have HY := Aside0.mk hy
  have HB := Aside0.mk (Below.refl w.heap.size w)
  have HN := Aside0.mk hn
  have HGX := Aside0.mk hgx
  obtain ⟨g, cp, rfl, _⟩ := str_at hu.t hy
  have h2 : w.cell? ⟨gu, 3, none⟩ = some (.slice (some ⟨g, 0, none⟩) T.length cp) := (hu.row.cell 3).trans rfl
  clear hx hk hu hy hn hgx
  go_enter Try.func91, Try.ntmps91
  go_wp2_with (first
    | (go_at_call 99; refine (operand_lit _ 3 HK.out _).mono ?_; rintro r w1 ⟨rfl, hb⟩; have n1_ := Aside0.mk (below_step HB.out hb); have n2_ := Aside0.mk (HU.out.below hb); have n3_ := Aside0.mk (HX.out.below hb); clear HB HU HX hc hb h2; have HB := n1_; have HU := n2_; have HX := n3_; clear n1_ n2_ n3_; have h2 := (HU.out.row.cell 3).trans (show _ = some (.slice (some ⟨g, 0, none⟩) T.length cp) from rfl)))
  go_still_tail 9, (by kernel_rfl)
  change wpList _ _ _ _ _ w1.drew
  have n1_ := Aside0.mk (below_step HB.out (below_drew (Below.refl w1.heap.size w1)))
  have n2_ := Aside0.mk (HU.out.below (below_drew (Below.refl w1.heap.size w1)))
  have n3_ := Aside0.mk (HX.out.below (below_drew (Below.refl w1.heap.size w1)))
  clear HB HU HX h2
  have HB := n1_
  have HU := n2_
  have HX := n3_
  clear n1_ n2_ n3_
  generalize w1.drew = w2 at *
  have hixS : ∀ W : World, (Instr.indexAt 86 (.slice (some ⟨g, 0, none⟩) T.length cp) (.int .i64 (n : Int))).run Try.prog W = .ok (.pointer (some ⟨g, n, none⟩)) W := fun W => by
    have := run_indexAt_own (P := Try.prog) (t := 86) (size := 1) Try.underlying86 (fun W => by kernel_rfl) g T.length cp n hnl W
    rwa [Nat.mul_one] at this
  go_wp2_with (first
    | (go_at_call 109; refine (next_n base _ gu vc vn vs _ kc kn S T n HU.out HN.out hnl hs).mono ?_; rintro r w3 ⟨rfl, v', hu3, hq, hat⟩; have HU3 := Aside0.mk hu3; have HQ := Aside0.mk hq; have HAT := Aside0.mk hat; have HX3 := Aside0.mk (HX.out.kept (hq.block gx HX.out.lt (by rintro (h | h); exact HGX.out.1 h; exact HGX.out.2.2.1 h.symm))); obtain ⟨g', cp', he, hcl⟩ := str_at hu3.t HY.out; cases he; have h2 := (hu3.row.cell 3).trans (show _ = some (.slice (some ⟨g, 0, none⟩) T.length cp) from rfl); clear hu3 hq hat HU)
    | ((with_reducible refine gate_store (t := 9) (p := 96) rfl ?_); refine put_event rfl rfl 9 (.tmp 96) (.tmp 94) rfl (off := 6) (u := .string y) (seg := [.string y]) rfl rfl HX3.out rfl (by kernel_rfl) (by simp [insCells]) (by simp [Value.oneCell']) ?_; intro w4 hrow hgr; have HROW := Aside0.mk (show RowAt w4 gx 78 (insCells { x with f3 := y }) from hrow); have HGR := Aside0.mk hgr; clear hrow hgr))
  go_ret
  have hgx := HGX.out
  have hoff : v'.ownBlock ≠ some gx := by
    rcases HAT.out with e | ⟨q, e, hq⟩
    · rw [e]; exact hgx.2.2.1
    · rw [e]; intro h; injection h with h; have := HX.out.lt; omega
  refine ⟨rfl, v', HU3.out.grown HGR.out (fun k hk => by cases hk; exact ⟨hgx.1, hgx.2.1, hoff, hgx.2.2.2⟩), HROW.out, (((But.of_below HB.out).trans HQ.out (fun j _ h => h.elim .inl (fun h => .inr (.inr h)))).trans (But.of_grown (P := (· = gx)) HGR.out (fun k hk _ => by injection hk with hk; exact hk.symm)) (fun j _ h => .inr (.inl h))), by rcases HAT.out with e | ⟨q, e, hq⟩; exact .inl e; exact .inr ⟨q, e, by have := HB.out.size; omega⟩⟩
end Go.Proofs.Ytebiogaacikphaa.Pack
end
section
namespace Go.Proofs.Ytebiogaacikphaa.Pack
open Go.RowKit Go.Proofs.YtebiogaacikphaaW.PrintWords Go.Proofs.Ytebiogaacikphaa.PAll
set_option linter.unusedVariables false
set_option linter.unusedSimpArgs false
set_option linter.unnecessarySimpa false
abbrev Ins := S78
def zIns : Ins := z78
/-- What kind, operand and the tables come to; and how many classes and names were seen. -/
def putL (op : Int) (i n size kc kn : Nat) (S : List Four) (T : List ByteArray) : Option (Ins × Nat × Nat) :=
  if kindOf op = 1 then (if 0 ≤ toOf i n ∧ toOf i n < size then some ({ zIns with f0 := op, f1 := toOf i n }, kc, kn) else none)
  else if kindOf op = 2 then (if n ≤ kc then (match S[n]? with | some y => some ({ zIns with f0 := op, f2 := ⟨y.1, y.2.1, y.2.2.1, y.2.2.2⟩ }, max kc (n + 1), kn) | none => none) else none)
  else if kindOf op = 3 then (if n ≤ kn then (match T[n]? with | some y => some ({ zIns with f0 := op, f3 := y }, kc, max kn (n + 1)) | none => none) else none)
  else (if n = 0 then some ({ zIns with f0 := op }, kc, kn) else none)
/-- The operand's number behind the first byte. -/
def numL (e : Nat) (x : Int) (r : List Int) : Except (Int × Int) (Nat × List Int) :=
  if x / 16 = 15 then (match cntL e (e - r.length) 0 0 r with | .error f => .error f | .ok (c, r') => .ok (15 + c.toNat, r')) else .ok ((x / 16).toNat, r)
def insL (e size : Nat) (S : List Four) (T : List ByteArray) : Nat → Nat → Nat → Nat → List Ins → List Int → Except (Int × Int) (List Ins × Nat × Nat × List Int)
  | 0, _, kc, kn, acc, l => .ok (acc, kc, kn, l)
  | d + 1, i, kc, kn, acc, [] => .error (e, 200)
  | d + 1, i, kc, kn, acc, x :: r => match numL e x r with
    | .error f => .error f
    | .ok (n, r') => match putL (x % 16) i n size kc kn S T with
      | none => .error ((e - (r.length + 1) : Nat), 204)
      | some (y, kc', kn') => insL e size S T d (i + 1) kc' kn' (acc ++ [y]) r'
def programL (e : Nat) (S : List Four) (T : List ByteArray) (l : List Int) : Except (Int × Int) (List Ins × Nat × Nat × List Int) := match manyL e (e - l.length) l with
  | .error f => .error f
  | .ok (n, r) => if n = 0 then .error ((e - l.length : Nat), 204) else insL e n.toNat S T n.toNat 0 0 0 [] r
section
variable {base : Nat} {W W' : World} {gu : Nat} {vc vn vs vt : Value} {kc kn : Nat} {S : List Four} {T : List ByteArray}
theorem US.kept (h : US base W gu vc vn vs vt kc kn S T) (hk : ∀ q, q < W.heap.size → (q = gu ∨ vc.ownBlock = some q ∨ vn.ownBlock = some q ∨ vs.ownBlock = some q ∨ vt.ownBlock = some q) → W'.heap[q]? = W.heap[q]?) : US base W' gu vc vn vs vt kc kn S T := by
  obtain ⟨xs, h1⟩ := h.c
  obtain ⟨ys, h2⟩ := h.n
  exact ⟨h.row.kept (hk gu h.row.lt (.inl rfl)), ⟨xs, own_kept h1 (fun k e => hk k (own_lt h1 k e) (.inr (.inl e)))⟩, ⟨ys, own_kept h2 (fun k e => hk k (own_lt h2 k e) (.inr (.inr (.inl e))))⟩, own_kept h.s (fun k e => hk k (own_lt h.s k e) (.inr (.inr (.inr (.inl e))))), own_kept h.t (fun k e => hk k (own_lt h.t k e) (.inr (.inr (.inr (.inr e))))), h.ge, h.off, h.c_, h.n_⟩
end
/-- put, whatever the operand. -/
theorem put_any (base : Nat) (w : World) (gu gx : Nat) (i n size : Nat) (op : Int) (vc vn vs vt : Value) (kc kn : Nat) (S : List Four) (T : List ByteArray) (hu : US base w gu vc vn vs vt kc kn S T) (hx : RowAt w gx 78 (insCells { zIns with f0 := op })) (hi : i ≤ 65536) (hn : n ≤ 4294967296) (hS : S.length ≤ 65536) (hT : T.length ≤ 65536) (hgx : gx ≠ gu ∧ vc.ownBlock ≠ some gx ∧ vn.ownBlock ≠ some gx ∧ vs.ownBlock ≠ some gx ∧ vt.ownBlock ≠ some gx) :
    Calls Try.prog 91 #[.pointer (some ⟨gu, 0, none⟩), .pointer (some ⟨gx, 0, none⟩), .int .i64 i, .int .i64 n, .int .i64 size] w fun r w' => ∃ y kc' kn' vc' vn', r = .returned (.bool (putL op i n size kc kn S T).isSome) ∧ US base w' gu vc' vn' vs vt kc' kn' S T ∧ RowAt w' gx 78 (insCells y) ∧ (∀ z, putL op i n size kc kn S T = some z → z = (y, kc', kn')) ∧ But (fun q => q = gu ∨ q = gx ∨ some q = vc.ownBlock ∨ some q = vn.ownBlock) w w' ∧ (vc'.ownBlock = vc.ownBlock ∨ ∃ q, vc'.ownBlock = some q ∧ w.heap.size ≤ q) ∧ (vn'.ownBlock = vn.ownBlock ∨ ∃ q, vn'.ownBlock = some q ∧ w.heap.size ≤ q) := by
  unfold putL
  by_cases k1 : kindOf op = 1
  · rw [if_pos k1]
    refine (put_place w gu gx i n size { zIns with f0 := op } hx k1 hi hn).mono fun r w' ⟨hr, hx', ho⟩ => ?_
    refine ⟨{ zIns with f0 := op, f1 := toOf i n }, kc, kn, vc, vn, ?_, hu.kept (fun q hq h => ho.block q hq (fun e => ?_)), hx', fun z hz => ?_, (But.refl _ _).trans ho (fun j _ h => .inr (.inl h)), .inl rfl, .inl rfl⟩
    · rw [hr]
      by_cases h : 0 ≤ toOf i n ∧ toOf i n < (size : Int)
      · rw [if_pos h, decide_eq_true h.1, decide_eq_true h.2]; rfl
      · rw [if_neg h]
        by_cases h0 : 0 ≤ toOf i n
        · rw [decide_eq_false (fun h1 => h ⟨h0, h1⟩), Bool.and_false]; rfl
        · rw [decide_eq_false h0]; rfl
    · subst e
      rcases h with h | h | h | h | h
      · exact hgx.1 h
      · exact hgx.2.1 h
      · exact hgx.2.2.1 h
      · exact hgx.2.2.2.1 h
      · exact hgx.2.2.2.2 h
    · split at hz
      · injection hz with hz; exact hz.symm
      · cases hz
  rw [if_neg k1]
  by_cases k2 : kindOf op = 2
  · rw [if_pos k2]
    by_cases hk : n ≤ kc
    · rw [if_pos hk]
      cases hy : S[n]? with
      | none =>
        refine (put_set_no base w gu gx i n size { zIns with f0 := op } vc vn vs vt kc kn S T hu hx k2 (.inr (by simpa using hy))).mono fun r w' ⟨hr, hb⟩ => ?_
        exact ⟨{ zIns with f0 := op }, kc, kn, vc, vn, hr, hu.below hb, hx.below hb, (fun z hz => by cases hz), But.of_below hb, .inl rfl, .inl rfl⟩
      | some y =>
        refine (put_set_yes base w gu gx i n size { zIns with f0 := op } vc vn vs vt kc kn S T hu hx k2 hk hS y hy hgx).mono fun r w' ⟨hr, v', hu', hx', hq, hat⟩ => ?_
        exact ⟨_, _, kn, v', vn, hr, hu', hx', (fun z hz => by injection hz with hz; exact hz.symm), (But.refl _ _).trans hq (fun j _ h => h.elim .inl (fun h => .inr (h.elim .inl (fun h => .inr (.inl h))))), hat, .inl rfl⟩
    · rw [if_neg hk]
      refine (put_set_no base w gu gx i n size { zIns with f0 := op } vc vn vs vt kc kn S T hu hx k2 (.inl (by omega))).mono fun r w' ⟨hr, hb⟩ => ?_
      exact ⟨{ zIns with f0 := op }, kc, kn, vc, vn, hr, hu.below hb, hx.below hb, (fun z hz => by cases hz), But.of_below hb, .inl rfl, .inl rfl⟩
  rw [if_neg k2]
  by_cases k3 : kindOf op = 3
  · rw [if_pos k3]
    by_cases hk : n ≤ kn
    · rw [if_pos hk]
      cases hy : T[n]? with
      | none =>
        refine (put_name_no base w gu gx i n size { zIns with f0 := op } vc vn vs vt kc kn S T hu hx k3 (.inr (by simpa using hy))).mono fun r w' ⟨hr, hb⟩ => ?_
        exact ⟨{ zIns with f0 := op }, kc, kn, vc, vn, hr, hu.below hb, hx.below hb, (fun z hz => by cases hz), But.of_below hb, .inl rfl, .inl rfl⟩
      | some y =>
        refine (put_name_yes base w gu gx i n size { zIns with f0 := op } vc vn vs vt kc kn S T hu hx k3 hk hT y hy hgx).mono fun r w' ⟨hr, v', hu', hx', hq, hat⟩ => ?_
        exact ⟨_, kc, _, vc, v', hr, hu', hx', (fun z hz => by injection hz with hz; exact hz.symm), (But.refl _ _).trans hq (fun j _ h => h.elim .inl (fun h => .inr (h.elim .inl (fun h => .inr (.inr h))))), .inl rfl, hat⟩
    · rw [if_neg hk]
      refine (put_name_no base w gu gx i n size { zIns with f0 := op } vc vn vs vt kc kn S T hu hx k3 (.inl (by omega))).mono fun r w' ⟨hr, hb⟩ => ?_
      exact ⟨{ zIns with f0 := op }, kc, kn, vc, vn, hr, hu.below hb, hx.below hb, (fun z hz => by cases hz), But.of_below hb, .inl rfl, .inl rfl⟩
  rw [if_neg k3]
  have k0 : kindOf op = 0 := by
    revert k1 k2 k3; unfold kindOf
    split
    · intro h; exact absurd rfl h
    · split
      · intro _ h; exact absurd rfl h
      · split
        · intro _ _ h; exact absurd rfl h
        · intro _ _ _; rfl
  refine (put_none w gu gx op i n size { zIns with f0 := op } hx k0).mono fun r w' ⟨hr, hb⟩ => ?_
  refine ⟨{ zIns with f0 := op }, kc, kn, vc, vn, ?_, hu.below hb, hx.below hb, (fun z hz => ?_), But.of_below hb, .inl rfl, .inl rfl⟩
  · rw [hr]
    by_cases h : n = 0
    · subst h; rfl
    · rw [if_neg h]
      have : ((n : Int) == 0) = false := by simp; omega
      rw [this]; rfl
  · split at hz
    · injection hz with hz; exact hz.symm
    · cases hz
/-- All but two blocks are as they were. -/
def OnlyTwo (w W : World) (g gu : Nat) : Prop := w.heap.size ≤ W.heap.size ∧ ∀ j, j < w.heap.size → j ≠ g → j ≠ gu → W.heap[j]? = w.heap[j]?
theorem OnlyTwo.refl (w : World) (g gu : Nat) : OnlyTwo w w g gu := ⟨Nat.le_refl _, fun _ _ _ _ => rfl⟩
theorem OnlyTwo.then_ {w W W' : World} {g gu : Nat} (h : OnlyTwo w W g gu) (hs : W.heap.size ≤ W'.heap.size) (hk : ∀ q, q < w.heap.size → q ≠ g → q ≠ gu → W'.heap[q]? = W.heap[q]?) : OnlyTwo w W' g gu :=
  ⟨Nat.le_trans h.1 hs, fun j hj h1 h2 => (hk j hj h1 h2).trans (h.2 j hj h1 h2)⟩
/-- What the rounds of program keep. -/
structure PI (w0 w W : World) (g gu : Nat) (vc vn vs vt v : Value) (kc kn : Nat) (S : List Four) (T : List ByteArray) (acc : List Ins) : Prop where
  us : US w0.heap.size W gu vc vn vs vt kc kn S T
  size : w.heap.size ≤ W.heap.size
  row : W.ownsRow w.heap.size 78 7 v acc.length (acc.flatMap insCells)
  cb : ∀ k, vc.ownBlock = some k → w.heap.size ≤ k
  nb : ∀ k, vn.ownBlock = some k → w.heap.size ≤ k
  sb : ∀ k, vs.ownBlock = some k → k < w.heap.size ∧ k ≠ g
  tb : ∀ k, vt.ownBlock = some k → k < w.heap.size ∧ k ≠ g
  sep : ∀ k, v.ownBlock = some k → vc.ownBlock ≠ some k ∧ vn.ownBlock ≠ some k
  glt : g < w.heap.size
  gult : gu < w.heap.size
  gne : gu ≠ g
  fr : OnlyTwo w W g gu
section
variable {w0 w W W' : World} {g gu : Nat} {vc vn vs vt v : Value} {kc kn : Nat} {S : List Four} {T : List ByteArray} {acc : List Ins}
theorem PI.kept (h : PI w0 w W g gu vc vn vs vt v kc kn S T acc) (hs : W.heap.size ≤ W'.heap.size) (hk : ∀ q, q < W.heap.size → q ≠ g → W'.heap[q]? = W.heap[q]?) : PI w0 w W' g gu vc vn vs vt v kc kn S T acc := by
  have hg := h.glt
  refine ⟨h.us.kept (fun q hq hor => hk q hq (fun e => ?_)), Nat.le_trans h.size hs, own_kept h.row (fun k e => hk k (own_lt h.row k e) (by have := own_base h.row k e; omega)), h.cb, h.nb, h.sb, h.tb, h.sep, h.glt, h.gult, h.gne, h.fr.then_ hs (fun q h1 h2 _ => hk q (by have := h.size; omega) h2)⟩
  subst e
  rcases hor with e | e | e | e | e
  · exact h.gne e.symm
  · have := h.cb q e; omega
  · have := h.nb q e; omega
  · exact (h.sb q e).2 rfl
  · exact (h.tb q e).2 rfl
theorem PI.below (h : PI w0 w W g gu vc vn vs vt v kc kn S T acc) (hb : Below W.heap.size W W') : PI w0 w W' g gu vc vn vs vt v kc kn S T acc := h.kept hb.size (fun q hq _ => hb.block q hq)
theorem PI.step (h : PI w0 w W g gu vc vn vs vt v kc kn S T acc) (ho : Only W W' g) : PI w0 w W' g gu vc vn vs vt v kc kn S T acc := h.kept ho.1 (fun q hq hne => ho.2 q hq hne)
/-- An operand was put into the block gx, that is new. -/
theorem PI.put (h : PI w0 w W g gu vc vn vs vt v kc kn S T acc) {gx kc' kn' : Nat} {vc' vn' : Value} (hx : w.heap.size ≤ gx) (hxv : v.ownBlock ≠ some gx) (hu : US w0.heap.size W' gu vc' vn' vs vt kc' kn' S T) (hb : But (fun q => q = gu ∨ q = gx ∨ some q = vc.ownBlock ∨ some q = vn.ownBlock) W W') (hc : vc'.ownBlock = vc.ownBlock ∨ ∃ q, vc'.ownBlock = some q ∧ W.heap.size ≤ q) (hn : vn'.ownBlock = vn.ownBlock ∨ ∃ q, vn'.ownBlock = some q ∧ W.heap.size ≤ q) : PI w0 w W' g gu vc' vn' vs vt v kc' kn' S T acc := by
  have hs := h.size
  have hgu := h.gult
  refine ⟨hu, Nat.le_trans h.size hb.size, own_kept h.row (fun k e => hb.block k (own_lt h.row k e) ?_), fun k e => ?_, fun k e => ?_, h.sb, h.tb, fun k e => ⟨fun e' => ?_, fun e' => ?_⟩, h.glt, h.gult, h.gne, h.fr.then_ hb.size (fun q h1 h2 h3 => hb.block q (by omega) (by rintro (e | e | e | e); exact h3 e; omega; have := h.cb q e.symm; omega; have := h.nb q e.symm; omega))⟩
  · have := own_base h.row k e
    rintro (h1 | h1 | h1 | h1)
    · omega
    · exact hxv (h1 ▸ e)
    · exact (h.sep k e).1 h1.symm
    · exact (h.sep k e).2 h1.symm
  · rcases hc with hc | ⟨q, hc, hq⟩
    · exact h.cb k (hc ▸ e)
    · rw [hc] at e; injection e with e; omega
  · rcases hn with hc | ⟨q, hc, hq⟩
    · exact h.nb k (hc ▸ e)
    · rw [hc] at e; injection e with e; omega
  · rcases hc with hc | ⟨q, hc, hq⟩
    · exact (h.sep k e).1 (hc ▸ e')
    · rw [hc] at e'; injection e' with e'; have := own_lt h.row k e; omega
  · rcases hn with hc | ⟨q, hc, hq⟩
    · exact (h.sep k e).2 (hc ▸ e')
    · rw [hc] at e'; injection e' with e'; have := own_lt h.row k e; omega
/-- The list is grown. -/
theorem PI.append (h : PI w0 w W g gu vc vn vs vt v kc kn S T acc) {v' : Value} {y : Ins} (ho : W'.ownsRow w.heap.size 78 7 v' (acc.length + 1) (acc.flatMap insCells ++ insCells y)) (hg : W.grownBy W' v.ownBlock) (hat : v'.ownBlock = v.ownBlock ∨ ∃ q, v'.ownBlock = some q ∧ W.heap.size ≤ q) : PI w0 w W' g gu vc vn vs vt v' kc kn S T (acc ++ [y]) := by
  have hs := h.size
  have hbase : ∀ k, v.ownBlock = some k → w.heap.size ≤ k := fun k hk => own_base h.row k hk
  refine ⟨h.us.kept (fun q hq hor => hg.block q hq (fun e => ?_)), Nat.le_trans h.size hg.size, ?_, h.cb, h.nb, h.sb, h.tb, ?_, h.glt, h.gult, h.gne, h.fr.then_ hg.size (fun q h1 _ _ => hg.block q (by omega) (fun e => by have := hbase q e.symm; omega))⟩
  · have h1 := hbase q e.symm
    have h2 := h.gult
    rcases hor with e2 | e2 | e2 | e2 | e2
    · omega
    · exact (h.sep q e.symm).1 e2
    · exact (h.sep q e.symm).2 e2
    · have := (h.sb q e2).1; omega
    · have := (h.tb q e2).1; omega
  · rw [List.length_append, List.flatMap_append]
    simpa using ho
  · rcases hat with hat | ⟨q, hat, hq⟩
    · rw [hat]
      exact h.sep
    · intro k hk
      rw [hat] at hk
      injection hk with hk
      obtain ⟨_, h1⟩ := h.us.c
      obtain ⟨_, h2⟩ := h.us.n
      exact ⟨fun e => by have := own_lt h1 k e; omega, fun e => by have := own_lt h2 k e; omega⟩
/-- The reader, while an operand is put. -/
theorem RS.but {A : Option Addr} {c : Nat} {b : List Int} {i e : Nat} {fa fc : Int} (h : RS w0 W g A c b i e fa fc) {P : Nat → Prop} (hb : But P W W') (hp : ∀ j, P j → w0.heap.size ≤ j ∧ j ≠ g) : RS w0 W' g A c b i e fa fc :=
  ⟨(hb.block _ (blk_lt h.box) (fun e => (hp g e).2 rfl)).trans h.box, h.ge, h.rd, h.cap, h.len, h.e_, h.at_, But.below h.old h.old.size hb (fun j hj => (hp j hj).1)⟩
end
theorem byte_hi (x : Int) (h : 0 ≤ x ∧ x < 256) : IntKind.u8.wrap (x / 16) = x / 16 ∧ IntKind.i64.wrap (x / 16) = x / 16 := ⟨IntWalk.u8_in _ (by omega), IntWalk.i64_in _ (by omega)⟩
theorem byte_lo (x : Int) (h : 0 ≤ x ∧ x < 256) : Go.bits .and .u8 x 15 = x % 16 := by
  obtain ⟨y, rfl⟩ := Int.eq_ofNat_of_zero_le h.1
  have := Bits.bits_and .u8 rfl y 15 (by show _ < 2 ^ 8; omega) (by decide)
  rw [show ((15 : Nat) : Int) = 15 from rfl] at this
  rw [this, show y &&& 15 = y % 16 from Nat.and_two_pow_sub_one_eq_mod y 4]
  omega
end Go.Proofs.Ytebiogaacikphaa.Pack
end
