/- Parts of the proof of coreGrammars: PAllx16, PAllx6, PAllx17. No condition beyond each lemma's own. -/
import Derived.Test.YtebiogaacikphaaTG4
import Derived.Test.YtebiogaacikphaaTG5
section
namespace Go.Proofs.Ytebiogaacikphaa.PAll
open Go.RowKit Go.Proofs.YtebiogaacikphaaW.PrintWords Go.Proofs.YtebiogaacikphaaW.PrintLast Go.Proofs.YtebiogaacikphaaW.PrintMore
attribute [local go_sem] max2_int max_two
set_option linter.unusedVariables false
set_option linter.unusedSimpArgs false
theorem q16_7 {p : Prop} (h : p := by first | omega | exact Nat.le_refl _) : p := h
theorem q16_6 {p : Prop} (h : p := by first | rfl | (simp; done) | (simp only [← hji5] <;> (first | rfl | simp)) | (simp [*]; done)) : p := h
theorem q16_5 {p : Prop} (h : p := by have : (1 : Int) < (a0.size : Int) := of_decide_eq_true (by first | (with_reducible assumption) | assumption); omega) : p := h
theorem q16_4 {p : Prop} (h : p := by (try simp only [List.map_toArray, List.map_cons, List.map_nil]); first | done | rfl | (simp only [List.length_drop, List.length_take]; rfl)) : p := h
theorem q16_3 {p : Prop} (h : p := by first | rfl | (simp; done) | (simp [*]; done)) : p := h
theorem q16_2 {p : Prop} (h : p := by first | (with_reducible assumption) | assumption) : p := h
theorem q16_1 {p : Prop} (h : p := by (try simp only [List.map_toArray, List.map_cons, List.map_nil]); first | done | (simp only [hji5]; rfl) | rfl | (simp only [List.length_drop, List.length_take]; rfl)) : p := h
theorem q16_0 {p : Prop} (h : p := by repeat (first | exact Drawn0.refl _ | apply Drawn0.step)) : p := h
mutual
def lexis_numbered.j0 : Nat → ByteArray → Bool → Option (Int)
 | 0, _, _ => none
 | k + 1, x0, x10 => if x10 = true then (some 0) else (lexis_numbered.l0 k x0 1)
def lexis_numbered.l0 : Nat → ByteArray → Int → Option (Int)
 | 0, _, _ => none
 | k + 1, x0, x3 => if x3 < (x0.size : Int) then (if 0 ≤ x3 then ((lexis_digit.f (bt x0 x3)).bind fun t164 => (if t164 = true then (lexis_numbered.l0 k x0 (wrap64 (x3 + 1))) else (if x3 = 1 then (some 0) else (if x3 > 6 then (some 0) else (if 1 < (x0.size : Int) then (if (bt x0 1) = 48 then (some 0) else (some x3)) else (none)))))) else (none)) else (if x3 = 1 then (some 0) else (if x3 > 6 then (some 0) else (if 1 < (x0.size : Int) then (if (bt x0 1) = 48 then (some 0) else (some x3)) else (none))))
end
def lexis_numbered.f (k : Nat) (a0 : ByteArray) : Option (Int) := if a0.toList = ([] : List UInt8) then (lexis_numbered.j0 k a0 true) else (if 0 < (a0.size : Int) then (lexis_numbered.j0 k a0 ((bt a0 0) != 126)) else (none))
theorem lexis_numbered.mono_l : ∀ k, (∀ y0 y1, LeO (lexis_numbered.j0 k y0 y1) (lexis_numbered.j0 (k + 1) y0 y1)) ∧ (∀ y0 y1, LeO (lexis_numbered.l0 k y0 y1) (lexis_numbered.l0 (k + 1) y0 y1))
 | 0 => ⟨fun _ _ r h => by simp [lexis_numbered.j0] at h, fun _ _ r h => by simp [lexis_numbered.l0] at h⟩
 | k + 1 => by
  obtain ⟨ih0, ih1⟩ := lexis_numbered.mono_l k
  refine ⟨?_, ?_⟩
  ·intro y0 y1
   unfold lexis_numbered.j0
   repeat' first
   | (with_reducible exact ih0 _ _)
   | (with_reducible exact ih1 _ _)
   | (with_reducible exact LeO.refl _)
   | (with_reducible exact LeO.none _)
   | (with_reducible refine LeO.ite ?_ ?_)
   | (with_reducible refine LeO.bind ?_ (fun _ => ?_))
   | exact ih0 _ _
   | exact ih1 _ _
   | exact LeO.none _
   | refine LeO.ite ?_ ?_
   | refine LeO.bind ?_ (fun _ => ?_)
  ·intro y0 y1
   unfold lexis_numbered.l0
   repeat' first
   | (with_reducible exact ih0 _ _)
   | (with_reducible exact ih1 _ _)
   | (with_reducible exact LeO.refl _)
   | (with_reducible exact LeO.none _)
   | (with_reducible refine LeO.ite ?_ ?_)
   | (with_reducible refine LeO.bind ?_ (fun _ => ?_))
   | exact ih0 _ _
   | exact ih1 _ _
   | exact LeO.none _
   | refine LeO.ite ?_ ?_
   | refine LeO.bind ?_ (fun _ => ?_)
theorem lexis_numbered.mono : ∀ a0 k, LeO (lexis_numbered.f k a0) (lexis_numbered.f (k + 1) a0) := by
 intro a0 k
 obtain ⟨ih0, ih1⟩ := lexis_numbered.mono_l k
 unfold lexis_numbered.f
 repeat' first
   | (with_reducible exact ih0 _ _)
   | (with_reducible exact ih1 _ _)
   | (with_reducible exact LeO.refl _)
   | (with_reducible exact LeO.none _)
   | (with_reducible refine LeO.ite ?_ ?_)
   | (with_reducible refine LeO.bind ?_ (fun _ => ?_))
   | exact ih0 _ _
   | exact ih1 _ _
   | exact LeO.none _
   | refine LeO.ite ?_ ?_
   | refine LeO.bind ?_ (fun _ => ?_)
set_option maxHeartbeats 8000000 in
set_option maxRecDepth 100000 in
theorem lexis_numbered.calls (k : Nat) (a0 : ByteArray) (r : Int) (w : World) (h : lexis_numbered.f k a0 = some r) :
  Calls Try.prog 107 #[.string a0] w fun e w' => e = .returned (.int .i64 r) ∧ Drawn0 w w' := by
 have H : (if a0.toList = ([] : List UInt8) then (lexis_numbered.j0 k a0 true) else (if 0 < (a0.size : Int) then (lexis_numbered.j0 k a0 ((bt a0 0) != 126)) else (none))) = some r := h
 clear h; have HC2 := Aside0.mk H; clear H
 go_enter Try.func107, Try.ntmps107
 go_upto_region 1 with (fail)
 go_cut [10] (fun v10 wc => ∃ (kq : Nat) (x10_1 : Bool), v10 = .bool x10_1 ∧ Aside0 (lexis_numbered.j0 kq a0 x10_1 = some r) ∧ Aside0 (kq ≤ k) ∧ Drawn0 w wc)
 case first =>
  have H := HC2.out
  clear HC2
  by_cases c3 : a0.toList = ([] : List UInt8)
  ·rw [if_pos c3] at H
   have c3b0 : (a0.toList == ([] : List UInt8)) = true := beq_iff_eq.mpr c3
   have c3b1 : (a0.toList != ([] : List UInt8)) = false := bne_eq_false_iff_eq.mpr c3
   clear c3
   (first | rw [c3b0] | (simp only [i64_w, i32_w]; rw [c3b0]) | skip)
   have H' := Aside0.mk H
   clear H
   go_wp2
   go_meet
   case rel => exact ⟨_, (true), q16_3, H', ⟨q16_7⟩, q16_0⟩
  ·rw [if_neg c3] at H
   have c3b0 : (a0.toList == ([] : List UInt8)) = false := beq_eq_false_iff_ne.mpr c3
   have c3b1 : (a0.toList != ([] : List UInt8)) = true := bne_iff_ne.mpr c3
   (first | rw [c3b0] | (simp only [i64_w, i32_w]; rw [c3b0]) | skip)
   by_cases c4 : 0 < (a0.size : Int)
   ·rw [if_pos c4] at H
    have c4b0 : decide (0 < (a0.size : Int)) = true := decide_eq_true c4
    have c4b1 : decide (0 < a0.size) = true := decide_eq_true (by omega)
    clear c4
    have H' := Aside0.mk H
    clear H
    have p5 : 0 ≤ (0 : Int) := (by omega)
    have q5 : 0 < a0.size := (by have : (0 : Int) < (a0.size : Int) := of_decide_eq_true q16_2; omega)
    have hx5 : ∀ h : 0 < a0.size, ((a0[0]'h).toNat : Int) = bt a0 0 := bt_at a0 0
    clear p5
    have qi5 : (0 < (a0.size : Int)) = True := eq_true (of_decide_eq_true q16_2)
    replace q5 := eq_true q5
    go_wp2
    go_meet
    case rel => exact ⟨_, (((bt a0 0) != 126)), q16_3, H', ⟨q16_7⟩, q16_0⟩
   ·rw [if_neg c4] at H
    exact absurd H (by simp)
 case rest =>
  clear HC2; (try clear c1); (try clear p2); (try clear c3); (try clear c3b0); (try clear c3b1); (try clear c4); (try clear c4b0); (try clear c4b1); (try clear p5); (try clear q5); (try clear hx5); (try clear qi5); (try clear p5); (try clear q5)
  obtain ⟨kq, x10_1, rfl, HA, HJ1, ⟨mc1, rfl⟩⟩ := hcut
  cases kq with
  | zero => exact absurd HA.out (by simp [lexis_numbered.j0])
  | succ kj1 =>
   have H := HA.out
   clear HA
   simp only [lexis_numbered.j0] at H
   by_cases c6 : x10_1 = true
   ·subst c6
    have H1 : (some 0) = some r := by rw [if_pos rfl] at H; exact H
    clear H
    have H := H1
    clear H1
    obtain rfl := Option.some.inj H
    go_wp2
    go_ret
    exact ⟨q16_3, q16_0⟩
   ·replace c6 := Bool.eq_false_iff.mpr c6
    subst c6
    have H1 : (lexis_numbered.l0 kj1 a0 1) = some r := by rw [if_neg (show ¬ (false = true) by decide)] at H; exact H
    clear H
    have H := H1
    clear H1
    have H' := Aside0.mk H
    clear H
    go_wp2
    go_loopg [3] kj1 (fun kq v3 w' => ∃ (x3_2 : Int), v3 = .int .i64 x3_2 ∧ Aside0 (lexis_numbered.l0 kq a0 x3_2 = some r) ∧ Aside0 (kq ≤ kj1) ∧ Drawn0 w w')
    case atStart => exact ⟨(1), q16_3, H', ⟨Nat.le_refl _⟩, q16_0⟩
    case round =>
     clear H'; (try clear c1); (try clear p2); (try clear c3); (try clear c3b0); (try clear c3b1); (try clear c4); (try clear c4b0); (try clear c4b1); (try clear p5); (try clear q5); (try clear hx5); (try clear qi5); (try clear c6); (try clear p2); (try clear p5); (try clear q5)
     obtain ⟨x3_2, rfl, HA, HK2, ⟨m2, rfl⟩⟩ := hrel
     cases gk with
     | zero => exact absurd HA.out (by simp [lexis_numbered.l0])
     | succ k2 =>
      have H := HA.out
      clear HA
      simp only [lexis_numbered.l0] at H
      by_cases c7 : x3_2 < (a0.size : Int)
      ·rw [if_pos c7] at H
       have c7b0 : decide (x3_2 < (a0.size : Int)) = true := decide_eq_true c7
       clear c7
       by_cases c8 : 0 ≤ x3_2
       ·rw [if_pos c8] at H
        have c8b0 : decide (0 ≤ x3_2) = true := decide_eq_true c8
        clear c8
        replace H := Option.bind_eq_some_iff.mp H
        obtain ⟨t164, A100, H⟩ := H
        replace H : (if t164 = true then (lexis_numbered.l0 k2 a0 (wrap64 (x3_2 + 1))) else (if x3_2 = 1 then (some 0) else (if x3_2 > 6 then (some 0) else (if 1 < (a0.size : Int) then (if (bt a0 1) = 48 then (some 0) else (some x3_2)) else (none))))) = some r := H
        have A10 := Aside0.mk A100; clear A100
        by_cases c11 : t164 = true
        ·subst c11
         have H1 : (lexis_numbered.l0 k2 a0 (wrap64 (x3_2 + 1))) = some r := by rw [if_pos rfl] at H; exact H
         clear H
         have H := H1
         clear H1
         have H' := Aside0.mk H
         clear H
         have p9 : 0 ≤ (x3_2 : Int) := of_decide_eq_true q16_2
         have q9 : x3_2 < (a0.size : Int) := of_decide_eq_true q16_2
         have hx9 := bt_at a0 x3_2
         replace p9 := eq_true p9
         replace q9 := eq_true q9
         go_wp2_with (first | (go_at_call 115; (with_reducible refine (lexis_digit.calls (bt a0 x3_2) true _ A10.out).mono ?_); rintro e w' ⟨rfl, ⟨nd, rfl⟩⟩))
         go_roundg k2
         case measure => have := HJ1.out; have := HK2.out; omega
         case rel => exact ⟨(wrap64 (x3_2 + 1)), q16_3, H', ⟨by have := HJ1.out; have := HK2.out; omega⟩, q16_0⟩
        ·replace c11 := Bool.eq_false_iff.mpr c11
         subst c11
         have H1 : (if x3_2 = 1 then (some 0) else (if x3_2 > 6 then (some 0) else (if 1 < (a0.size : Int) then (if (bt a0 1) = 48 then (some 0) else (some x3_2)) else (none)))) = some r := by rw [if_neg (show ¬ (false = true) by decide)] at H; exact H
         clear H
         have H := H1
         clear H1
         by_cases c12 : x3_2 = 1
         ·rw [if_pos c12] at H
          have c12b0 : (x3_2 == 1) = true := beq_iff_eq.mpr c12
          have c12b1 : (x3_2 != 1) = false := bne_eq_false_iff_eq.mpr c12
          clear c12
          obtain rfl := Option.some.inj H
          have p9 : 0 ≤ (x3_2 : Int) := of_decide_eq_true q16_2
          have q9 : x3_2 < (a0.size : Int) := of_decide_eq_true q16_2
          have hx9 := bt_at a0 x3_2
          replace p9 := eq_true p9
          replace q9 := eq_true q9
          go_wp2_with (first | (go_at_call 115; (with_reducible refine (lexis_digit.calls (bt a0 x3_2) false _ A10.out).mono ?_); rintro e w' ⟨rfl, ⟨nd, rfl⟩⟩))
          go_ret
          exact ⟨q16_3, q16_0⟩
         ·rw [if_neg c12] at H
          have c12b0 : (x3_2 == 1) = false := beq_eq_false_iff_ne.mpr c12
          have c12b1 : (x3_2 != 1) = true := bne_iff_ne.mpr c12
          by_cases c13 : x3_2 > 6
          ·rw [if_pos c13] at H
           have c13b0 : decide (6 < x3_2) = true := decide_eq_true c13
           clear c13
           obtain rfl := Option.some.inj H
           have p9 : 0 ≤ (x3_2 : Int) := of_decide_eq_true q16_2
           have q9 : x3_2 < (a0.size : Int) := of_decide_eq_true q16_2
           have hx9 := bt_at a0 x3_2
           replace p9 := eq_true p9
           replace q9 := eq_true q9
           go_wp2_with (first | (go_at_call 115; (with_reducible refine (lexis_digit.calls (bt a0 x3_2) false _ A10.out).mono ?_); rintro e w' ⟨rfl, ⟨nd, rfl⟩⟩))
           go_ret
           exact ⟨q16_3, q16_0⟩
          ·rw [if_neg c13] at H
           have c13b0 : decide (6 < x3_2) = false := decide_eq_false c13
           clear c13
           by_cases c14 : 1 < (a0.size : Int)
           ·rw [if_pos c14] at H
            have c14b0 : decide (1 < (a0.size : Int)) = true := decide_eq_true c14
            have c14b1 : decide (1 < a0.size) = true := decide_eq_true (by omega)
            clear c14
            by_cases c16 : (bt a0 1) = 48
            ·rw [if_pos c16] at H
             have c16b0 : ((bt a0 1) == 48) = true := beq_iff_eq.mpr c16
             have c16b1 : ((bt a0 1) != 48) = false := bne_eq_false_iff_eq.mpr c16
             clear c16
             obtain rfl := Option.some.inj H
             have p9 : 0 ≤ (x3_2 : Int) := of_decide_eq_true q16_2
             have q9 : x3_2 < (a0.size : Int) := of_decide_eq_true q16_2
             have hx9 := bt_at a0 x3_2
             replace p9 := eq_true p9
             replace q9 := eq_true q9
             go_wp2_with (first | (go_at_call 115; (with_reducible refine (lexis_digit.calls (bt a0 x3_2) false _ A10.out).mono ?_); rintro e w' ⟨rfl, ⟨nd, rfl⟩⟩; have p15 : 0 ≤ (1 : Int) := (by omega); have q15 : 1 < a0.size := q16_5; have hx15 : ∀ h : 1 < a0.size, ((a0[1]'h).toNat : Int) = bt a0 1 := bt_at a0 1; clear p15; have qi15 : (1 < (a0.size : Int)) = True := eq_true (of_decide_eq_true q16_2); replace q15 := eq_true q15))
             go_ret
             exact ⟨q16_3, q16_0⟩
            ·rw [if_neg c16] at H
             have c16b0 : ((bt a0 1) == 48) = false := beq_eq_false_iff_ne.mpr c16
             have c16b1 : ((bt a0 1) != 48) = true := bne_iff_ne.mpr c16
             obtain rfl := Option.some.inj H
             have p9 : 0 ≤ (x3_2 : Int) := of_decide_eq_true q16_2
             have q9 : x3_2 < (a0.size : Int) := of_decide_eq_true q16_2
             have hx9 := bt_at a0 x3_2
             replace p9 := eq_true p9
             replace q9 := eq_true q9
             go_wp2_with (first | (go_at_call 115; (with_reducible refine (lexis_digit.calls (bt a0 x3_2) false _ A10.out).mono ?_); rintro e w' ⟨rfl, ⟨nd, rfl⟩⟩; have p15 : 0 ≤ (1 : Int) := (by omega); have q15 : 1 < a0.size := q16_5; have hx15 : ∀ h : 1 < a0.size, ((a0[1]'h).toNat : Int) = bt a0 1 := bt_at a0 1; clear p15; have qi15 : (1 < (a0.size : Int)) = True := eq_true (of_decide_eq_true q16_2); replace q15 := eq_true q15))
             go_ret
             exact ⟨q16_3, q16_0⟩
           ·rw [if_neg c14] at H
            exact absurd H (by simp)
       ·rw [if_neg c8] at H
        exact absurd H (by simp)
      ·rw [if_neg c7] at H
       have c7b0 : decide (x3_2 < (a0.size : Int)) = false := decide_eq_false c7
       clear c7
       by_cases c17 : x3_2 = 1
       ·rw [if_pos c17] at H
        have c17b0 : (x3_2 == 1) = true := beq_iff_eq.mpr c17
        have c17b1 : (x3_2 != 1) = false := bne_eq_false_iff_eq.mpr c17
        clear c17
        obtain rfl := Option.some.inj H
        go_wp2
        go_ret
        exact ⟨q16_3, q16_0⟩
       ·rw [if_neg c17] at H
        have c17b0 : (x3_2 == 1) = false := beq_eq_false_iff_ne.mpr c17
        have c17b1 : (x3_2 != 1) = true := bne_iff_ne.mpr c17
        by_cases c18 : x3_2 > 6
        ·rw [if_pos c18] at H
         have c18b0 : decide (6 < x3_2) = true := decide_eq_true c18
         clear c18
         obtain rfl := Option.some.inj H
         go_wp2
         go_ret
         exact ⟨q16_3, q16_0⟩
        ·rw [if_neg c18] at H
         have c18b0 : decide (6 < x3_2) = false := decide_eq_false c18
         clear c18
         by_cases c19 : 1 < (a0.size : Int)
         ·rw [if_pos c19] at H
          have c19b0 : decide (1 < (a0.size : Int)) = true := decide_eq_true c19
          have c19b1 : decide (1 < a0.size) = true := decide_eq_true (by omega)
          clear c19
          by_cases c21 : (bt a0 1) = 48
          ·rw [if_pos c21] at H
           have c21b0 : ((bt a0 1) == 48) = true := beq_iff_eq.mpr c21
           have c21b1 : ((bt a0 1) != 48) = false := bne_eq_false_iff_eq.mpr c21
           clear c21
           obtain rfl := Option.some.inj H
           have p20 : 0 ≤ (1 : Int) := (by omega)
           have q20 : 1 < a0.size := q16_5
           have hx20 : ∀ h : 1 < a0.size, ((a0[1]'h).toNat : Int) = bt a0 1 := bt_at a0 1
           clear p20
           have qi20 : (1 < (a0.size : Int)) = True := eq_true (of_decide_eq_true q16_2)
           replace q20 := eq_true q20
           go_wp2
           go_ret
           exact ⟨q16_3, q16_0⟩
          ·rw [if_neg c21] at H
           have c21b0 : ((bt a0 1) == 48) = false := beq_eq_false_iff_ne.mpr c21
           have c21b1 : ((bt a0 1) != 48) = true := bne_iff_ne.mpr c21
           obtain rfl := Option.some.inj H
           have p20 : 0 ≤ (1 : Int) := (by omega)
           have q20 : 1 < a0.size := q16_5
           have hx20 : ∀ h : 1 < a0.size, ((a0[1]'h).toNat : Int) = bt a0 1 := bt_at a0 1
           clear p20
           have qi20 : (1 < (a0.size : Int)) = True := eq_true (of_decide_eq_true q16_2)
           replace q20 := eq_true q20
           go_wp2
           go_ret
           exact ⟨q16_3, q16_0⟩
         ·rw [if_neg c19] at H
          exact absurd H (by simp)
def lexis_named.f (k : Nat) (a0 : ByteArray) (a1 : Int) : Option (Int) := (lexis_own.f k a0 a1).bind fun t165 => (if t165 = 0 then (some 0) else (if 0 ≤ (wrap64 (a1 + t165)) then (if (wrap64 (a1 + t165)) ≤ (a0.size : Int) then ((strings_HasPrefix.f (a0.extract ((wrap64 (a1 + t165)) : Int).toNat a0.size) (⟨#[58, 58]⟩ : ByteArray)).bind fun t166 => (if t166 = true then ((lexis_own.f k a0 (wrap64 ((wrap64 (a1 + t165)) + 2))).bind fun t167 => (if t167 > 0 then (if 0 ≤ (wrap64 (a1 + (wrap64 (t165 + (wrap64 (2 + t167)))))) then (if (wrap64 (a1 + (wrap64 (t165 + (wrap64 (2 + t167)))))) ≤ (a0.size : Int) then ((lexis_numbered.f k (a0.extract ((wrap64 (a1 + (wrap64 (t165 + (wrap64 (2 + t167)))))) : Int).toNat a0.size)).bind fun t168 => (some (wrap64 ((wrap64 (t165 + (wrap64 (2 + t167)))) + t168)))) else (none)) else (none)) else ((lexis_numbered.f k (a0.extract ((wrap64 (a1 + t165)) : Int).toNat a0.size)).bind fun t169 => (some (wrap64 (t165 + t169)))))) else ((lexis_numbered.f k (a0.extract ((wrap64 (a1 + t165)) : Int).toNat a0.size)).bind fun t170 => (some (wrap64 (t165 + t170)))))) else (none)) else (none)))
theorem lexis_named.mono : ∀ a0 a1 k, LeO (lexis_named.f k a0 a1) (lexis_named.f (k + 1) a0 a1) := by
 intro a0 a1 k
 unfold lexis_named.f
 repeat' first
   | (with_reducible exact lexis_numbered.mono _ _)
   | (with_reducible exact lexis_own.mono _ _ _)
   | (with_reducible exact LeO.refl _)
   | (with_reducible exact LeO.none _)
   | (with_reducible refine LeO.ite ?_ ?_)
   | (with_reducible refine LeO.bind ?_ (fun _ => ?_))
   | exact lexis_numbered.mono _ _
   | exact lexis_own.mono _ _ _
   | exact LeO.none _
   | refine LeO.ite ?_ ?_
   | refine LeO.bind ?_ (fun _ => ?_)
set_option maxHeartbeats 8000000 in
set_option maxRecDepth 100000 in
theorem lexis_named.calls (k : Nat) (a0 : ByteArray) (a1 : Int) (r : Int) (w : World) (h : lexis_named.f k a0 a1 = some r) :
  Calls Try.prog 84 #[.string a0, .int .i64 a1] w fun e w' => e = .returned (.int .i64 r) ∧ Drawn0 w w' := by
 have H : ((lexis_own.f k a0 a1).bind fun t165 => (if t165 = 0 then (some 0) else (if 0 ≤ (wrap64 (a1 + t165)) then (if (wrap64 (a1 + t165)) ≤ (a0.size : Int) then ((strings_HasPrefix.f (a0.extract ((wrap64 (a1 + t165)) : Int).toNat a0.size) (⟨#[58, 58]⟩ : ByteArray)).bind fun t166 => (if t166 = true then ((lexis_own.f k a0 (wrap64 ((wrap64 (a1 + t165)) + 2))).bind fun t167 => (if t167 > 0 then (if 0 ≤ (wrap64 (a1 + (wrap64 (t165 + (wrap64 (2 + t167)))))) then (if (wrap64 (a1 + (wrap64 (t165 + (wrap64 (2 + t167)))))) ≤ (a0.size : Int) then ((lexis_numbered.f k (a0.extract ((wrap64 (a1 + (wrap64 (t165 + (wrap64 (2 + t167)))))) : Int).toNat a0.size)).bind fun t168 => (some (wrap64 ((wrap64 (t165 + (wrap64 (2 + t167)))) + t168)))) else (none)) else (none)) else ((lexis_numbered.f k (a0.extract ((wrap64 (a1 + t165)) : Int).toNat a0.size)).bind fun t169 => (some (wrap64 (t165 + t169)))))) else ((lexis_numbered.f k (a0.extract ((wrap64 (a1 + t165)) : Int).toNat a0.size)).bind fun t170 => (some (wrap64 (t165 + t170)))))) else (none)) else (none)))) = some r := h
 clear h
 replace H := Option.bind_eq_some_iff.mp H
 obtain ⟨t165, A30, H⟩ := H
 replace H : (if t165 = 0 then (some 0) else (if 0 ≤ (wrap64 (a1 + t165)) then (if (wrap64 (a1 + t165)) ≤ (a0.size : Int) then ((strings_HasPrefix.f (a0.extract ((wrap64 (a1 + t165)) : Int).toNat a0.size) (⟨#[58, 58]⟩ : ByteArray)).bind fun t166 => (if t166 = true then ((lexis_own.f k a0 (wrap64 ((wrap64 (a1 + t165)) + 2))).bind fun t167 => (if t167 > 0 then (if 0 ≤ (wrap64 (a1 + (wrap64 (t165 + (wrap64 (2 + t167)))))) then (if (wrap64 (a1 + (wrap64 (t165 + (wrap64 (2 + t167)))))) ≤ (a0.size : Int) then ((lexis_numbered.f k (a0.extract ((wrap64 (a1 + (wrap64 (t165 + (wrap64 (2 + t167)))))) : Int).toNat a0.size)).bind fun t168 => (some (wrap64 ((wrap64 (t165 + (wrap64 (2 + t167)))) + t168)))) else (none)) else (none)) else ((lexis_numbered.f k (a0.extract ((wrap64 (a1 + t165)) : Int).toNat a0.size)).bind fun t169 => (some (wrap64 (t165 + t169)))))) else ((lexis_numbered.f k (a0.extract ((wrap64 (a1 + t165)) : Int).toNat a0.size)).bind fun t170 => (some (wrap64 (t165 + t170)))))) else (none)) else (none))) = some r := H
 have A3 := Aside0.mk A30; clear A30
 by_cases c4 : t165 = 0
 ·rw [if_pos c4] at H
  have c4b0 : (t165 == 0) = true := beq_iff_eq.mpr c4
  have c4b1 : (t165 != 0) = false := bne_eq_false_iff_eq.mpr c4
  clear c4
  obtain rfl := Option.some.inj H
  go_enter Try.func84, Try.ntmps84
  go_wp2_with (first | ((with_reducible refine gate_callee (f := 105) rfl ?_); refine goesL_ (some 9) rfl rfl Try.func105 (by kernel_rfl) rfl #[.string a0, .int .i64 a1] rfl q16_4 ?_; (with_reducible refine (lexis_own.calls k a0 a1 t165 _ A3.out).mono ?_); rintro e w' ⟨rfl, ⟨nd, rfl⟩⟩; refine ⟨_, rfl, ?_⟩))
  go_ret
  exact ⟨q16_3, q16_0⟩
 ·rw [if_neg c4] at H
  have c4b0 : (t165 == 0) = false := beq_eq_false_iff_ne.mpr c4
  have c4b1 : (t165 != 0) = true := bne_iff_ne.mpr c4
  obtain ⟨ji5, hji5⟩ : ∃ j_ : Int, (wrap64 (a1 + t165)) = j_ := ⟨_, rfl⟩
  replace H : (if 0 ≤ (ji5) then (if (ji5) ≤ (a0.size : Int) then ((strings_HasPrefix.f (a0.extract ((ji5) : Int).toNat a0.size) (⟨#[58, 58]⟩ : ByteArray)).bind fun t166 => (if t166 = true then ((lexis_own.f k a0 (wrap64 ((ji5) + 2))).bind fun t167 => (if t167 > 0 then (if 0 ≤ (wrap64 (a1 + (wrap64 (t165 + (wrap64 (2 + t167)))))) then (if (wrap64 (a1 + (wrap64 (t165 + (wrap64 (2 + t167)))))) ≤ (a0.size : Int) then ((lexis_numbered.f k (a0.extract ((wrap64 (a1 + (wrap64 (t165 + (wrap64 (2 + t167)))))) : Int).toNat a0.size)).bind fun t168 => (some (wrap64 ((wrap64 (t165 + (wrap64 (2 + t167)))) + t168)))) else (none)) else (none)) else ((lexis_numbered.f k (a0.extract ((ji5) : Int).toNat a0.size)).bind fun t169 => (some (wrap64 (t165 + t169)))))) else ((lexis_numbered.f k (a0.extract ((ji5) : Int).toNat a0.size)).bind fun t170 => (some (wrap64 (t165 + t170)))))) else (none)) else (none)) = some r := by first | (rw [hji5] at H; exact H) | (simp only [hji5] at H ⊢; exact H)
  (try rw [hji5] at A3)
  have hji5w : (IntKind.i64.wrap (a1 + t165)) = ji5 := (i64_w _).trans hji5
  by_cases c6 : 0 ≤ (ji5)
  ·rw [if_pos c6] at H
   have c6b0 := eq_true c6
   have c6b1 : decide (0 ≤ (ji5)) = true := decide_eq_true c6
   clear c6
   by_cases c7 : (ji5) ≤ (a0.size : Int)
   ·rw [if_pos c7] at H
    have c7b0 := eq_true c7
    have c7b1 : decide ((ji5) ≤ (a0.size : Int)) = true := decide_eq_true c7
    clear c7
    replace H := Option.bind_eq_some_iff.mp H
    obtain ⟨t166, A80, H⟩ := H
    replace H : (if t166 = true then ((lexis_own.f k a0 (wrap64 ((ji5) + 2))).bind fun t167 => (if t167 > 0 then (if 0 ≤ (wrap64 (a1 + (wrap64 (t165 + (wrap64 (2 + t167)))))) then (if (wrap64 (a1 + (wrap64 (t165 + (wrap64 (2 + t167)))))) ≤ (a0.size : Int) then ((lexis_numbered.f k (a0.extract ((wrap64 (a1 + (wrap64 (t165 + (wrap64 (2 + t167)))))) : Int).toNat a0.size)).bind fun t168 => (some (wrap64 ((wrap64 (t165 + (wrap64 (2 + t167)))) + t168)))) else (none)) else (none)) else ((lexis_numbered.f k (a0.extract ((ji5) : Int).toNat a0.size)).bind fun t169 => (some (wrap64 (t165 + t169)))))) else ((lexis_numbered.f k (a0.extract ((ji5) : Int).toNat a0.size)).bind fun t170 => (some (wrap64 (t165 + t170))))) = some r := H
    have A8 := Aside0.mk A80; clear A80
    by_cases c9 : t166 = true
    ·subst c9
     have H1 : ((lexis_own.f k a0 (wrap64 ((ji5) + 2))).bind fun t167 => (if t167 > 0 then (if 0 ≤ (wrap64 (a1 + (wrap64 (t165 + (wrap64 (2 + t167)))))) then (if (wrap64 (a1 + (wrap64 (t165 + (wrap64 (2 + t167)))))) ≤ (a0.size : Int) then ((lexis_numbered.f k (a0.extract ((wrap64 (a1 + (wrap64 (t165 + (wrap64 (2 + t167)))))) : Int).toNat a0.size)).bind fun t168 => (some (wrap64 ((wrap64 (t165 + (wrap64 (2 + t167)))) + t168)))) else (none)) else (none)) else ((lexis_numbered.f k (a0.extract ((ji5) : Int).toNat a0.size)).bind fun t169 => (some (wrap64 (t165 + t169)))))) = some r := by rw [if_pos rfl] at H; exact H
     clear H
     have H := H1
     clear H1
     replace H := Option.bind_eq_some_iff.mp H
     obtain ⟨t167, A100, H⟩ := H
     replace H : (if t167 > 0 then (if 0 ≤ (wrap64 (a1 + (wrap64 (t165 + (wrap64 (2 + t167)))))) then (if (wrap64 (a1 + (wrap64 (t165 + (wrap64 (2 + t167)))))) ≤ (a0.size : Int) then ((lexis_numbered.f k (a0.extract ((wrap64 (a1 + (wrap64 (t165 + (wrap64 (2 + t167)))))) : Int).toNat a0.size)).bind fun t168 => (some (wrap64 ((wrap64 (t165 + (wrap64 (2 + t167)))) + t168)))) else (none)) else (none)) else ((lexis_numbered.f k (a0.extract ((ji5) : Int).toNat a0.size)).bind fun t169 => (some (wrap64 (t165 + t169))))) = some r := H
     have A10 := Aside0.mk A100; clear A100
     by_cases c11 : t167 > 0
     ·rw [if_pos c11] at H
      have c11b0 : decide (0 < t167) = true := decide_eq_true c11
      clear c11
      obtain ⟨ji12, hji12⟩ : ∃ j_ : Int, (wrap64 (a1 + (wrap64 (t165 + (wrap64 (2 + t167)))))) = j_ := ⟨_, rfl⟩
      replace H : (if 0 ≤ (ji12) then (if (ji12) ≤ (a0.size : Int) then ((lexis_numbered.f k (a0.extract ((ji12) : Int).toNat a0.size)).bind fun t168 => (some (wrap64 ((wrap64 (t165 + (wrap64 (2 + t167)))) + t168)))) else (none)) else (none)) = some r := by first | (rw [hji12] at H; exact H) | (simp only [hji12] at H ⊢; exact H)
      (try rw [hji12] at A3)
      (try rw [hji12] at A8)
      (try rw [hji12] at A10)
      have hji12w : (IntKind.i64.wrap (a1 + (wrap64 (t165 + (wrap64 (2 + t167)))))) = ji12 := (i64_w _).trans hji12
      by_cases c13 : 0 ≤ (ji12)
      ·rw [if_pos c13] at H
       have c13b0 := eq_true c13
       have c13b1 : decide (0 ≤ (ji12)) = true := decide_eq_true c13
       clear c13
       by_cases c14 : (ji12) ≤ (a0.size : Int)
       ·rw [if_pos c14] at H
        have c14b0 := eq_true c14
        have c14b1 : decide ((ji12) ≤ (a0.size : Int)) = true := decide_eq_true c14
        clear c14
        replace H := Option.bind_eq_some_iff.mp H
        obtain ⟨t168, A150, H⟩ := H
        replace H : (some (wrap64 ((wrap64 (t165 + (wrap64 (2 + t167)))) + t168))) = some r := H
        have A15 := Aside0.mk A150; clear A150
        obtain rfl := Option.some.inj H
        go_enter Try.func84, Try.ntmps84
        go_wp2_with (first | ((with_reducible refine gate_callee (f := 105) rfl ?_); refine goesL_ (some 9) rfl rfl Try.func105 (by kernel_rfl) rfl #[.string a0, .int .i64 a1] rfl q16_4 ?_; (with_reducible refine (lexis_own.calls k a0 a1 t165 _ A3.out).mono ?_); rintro e w' ⟨rfl, ⟨nd, rfl⟩⟩; refine ⟨_, rfl, ?_⟩) | ((with_reducible refine gate_callee (f := 106) rfl ?_); refine goesL_ (some 17) rfl rfl Try.func106 (by kernel_rfl) rfl #[.string (a0.extract ((ji5) : Int).toNat a0.size), .string (⟨#[58, 58]⟩ : ByteArray)] rfl q16_1 ?_; (with_reducible refine (strings_HasPrefix.calls (a0.extract ((ji5) : Int).toNat a0.size) (⟨#[58, 58]⟩ : ByteArray) true _ A8.out).mono ?_); rintro e w' ⟨rfl, ⟨nd, rfl⟩⟩; refine ⟨_, rfl, ?_⟩) | ((with_reducible refine gate_callee (f := 105) rfl ?_); refine goesL_ (some 23) rfl rfl Try.func105 (by kernel_rfl) rfl #[.string a0, .int .i64 (wrap64 ((ji5) + 2))] rfl q16_1 ?_; (with_reducible refine (lexis_own.calls k a0 (wrap64 ((ji5) + 2)) t167 _ A10.out).mono ?_); rintro e w' ⟨rfl, ⟨nd, rfl⟩⟩; refine ⟨_, rfl, ?_⟩) | ((with_reducible refine gate_callee (f := 107) rfl ?_); refine goesL_ (some 36) rfl rfl Try.func107 (by kernel_rfl) rfl #[.string (a0.extract ((ji12) : Int).toNat a0.size)] rfl (by (try simp only [List.map_toArray, List.map_cons, List.map_nil]); first | done | (simp only [hji12]; rfl) | rfl | (simp only [List.length_drop, List.length_take]; rfl)) ?_; (with_reducible refine (lexis_numbered.calls k (a0.extract ((ji12) : Int).toNat a0.size) t168 _ A15.out).mono ?_); rintro e w' ⟨rfl, ⟨nd, rfl⟩⟩; refine ⟨_, rfl, ?_⟩))
        go_ret
        exact ⟨by first | rfl | (simp; done) | (simp only [← hji5, ← hji12] <;> (first | rfl | simp)) | (simp [*]; done), q16_0⟩
       ·rw [if_neg c14] at H
        exact absurd H (by simp)
      ·rw [if_neg c13] at H
       exact absurd H (by simp)
     ·rw [if_neg c11] at H
      have c11b0 : decide (0 < t167) = false := decide_eq_false c11
      clear c11
      have c16b0 := eq_true (of_decide_eq_true q16_2 : 0 ≤ (ji5))
      have c17b0 := eq_true (of_decide_eq_true q16_2 : (ji5) ≤ (a0.size : Int))
      replace H := Option.bind_eq_some_iff.mp H
      obtain ⟨t169, A180, H⟩ := H
      replace H : (some (wrap64 (t165 + t169))) = some r := H
      have A18 := Aside0.mk A180; clear A180
      obtain rfl := Option.some.inj H
      go_enter Try.func84, Try.ntmps84
      go_wp2_with (first | ((with_reducible refine gate_callee (f := 105) rfl ?_); refine goesL_ (some 9) rfl rfl Try.func105 (by kernel_rfl) rfl #[.string a0, .int .i64 a1] rfl q16_4 ?_; (with_reducible refine (lexis_own.calls k a0 a1 t165 _ A3.out).mono ?_); rintro e w' ⟨rfl, ⟨nd, rfl⟩⟩; refine ⟨_, rfl, ?_⟩) | ((with_reducible refine gate_callee (f := 106) rfl ?_); refine goesL_ (some 17) rfl rfl Try.func106 (by kernel_rfl) rfl #[.string (a0.extract ((ji5) : Int).toNat a0.size), .string (⟨#[58, 58]⟩ : ByteArray)] rfl q16_1 ?_; (with_reducible refine (strings_HasPrefix.calls (a0.extract ((ji5) : Int).toNat a0.size) (⟨#[58, 58]⟩ : ByteArray) true _ A8.out).mono ?_); rintro e w' ⟨rfl, ⟨nd, rfl⟩⟩; refine ⟨_, rfl, ?_⟩) | ((with_reducible refine gate_callee (f := 105) rfl ?_); refine goesL_ (some 23) rfl rfl Try.func105 (by kernel_rfl) rfl #[.string a0, .int .i64 (wrap64 ((ji5) + 2))] rfl q16_1 ?_; (with_reducible refine (lexis_own.calls k a0 (wrap64 ((ji5) + 2)) t167 _ A10.out).mono ?_); rintro e w' ⟨rfl, ⟨nd, rfl⟩⟩; refine ⟨_, rfl, ?_⟩) | ((with_reducible refine gate_callee (f := 107) rfl ?_); refine goesL_ (some 36) rfl rfl Try.func107 (by kernel_rfl) rfl #[.string (a0.extract ((ji5) : Int).toNat a0.size)] rfl q16_1 ?_; (with_reducible refine (lexis_numbered.calls k (a0.extract ((ji5) : Int).toNat a0.size) t169 _ A18.out).mono ?_); rintro e w' ⟨rfl, ⟨nd, rfl⟩⟩; refine ⟨_, rfl, ?_⟩))
      go_ret
      exact ⟨q16_6, q16_0⟩
    ·replace c9 := Bool.eq_false_iff.mpr c9
     subst c9
     have H1 : ((lexis_numbered.f k (a0.extract ((ji5) : Int).toNat a0.size)).bind fun t170 => (some (wrap64 (t165 + t170)))) = some r := by rw [if_neg (show ¬ (false = true) by decide)] at H; exact H
     clear H
     have H := H1
     clear H1
     have c19b0 := eq_true (of_decide_eq_true q16_2 : 0 ≤ (ji5))
     have c20b0 := eq_true (of_decide_eq_true q16_2 : (ji5) ≤ (a0.size : Int))
     replace H := Option.bind_eq_some_iff.mp H
     obtain ⟨t170, A210, H⟩ := H
     replace H : (some (wrap64 (t165 + t170))) = some r := H
     have A21 := Aside0.mk A210; clear A210
     obtain rfl := Option.some.inj H
     go_enter Try.func84, Try.ntmps84
     go_wp2_with (first | ((with_reducible refine gate_callee (f := 105) rfl ?_); refine goesL_ (some 9) rfl rfl Try.func105 (by kernel_rfl) rfl #[.string a0, .int .i64 a1] rfl q16_4 ?_; (with_reducible refine (lexis_own.calls k a0 a1 t165 _ A3.out).mono ?_); rintro e w' ⟨rfl, ⟨nd, rfl⟩⟩; refine ⟨_, rfl, ?_⟩) | ((with_reducible refine gate_callee (f := 106) rfl ?_); refine goesL_ (some 17) rfl rfl Try.func106 (by kernel_rfl) rfl #[.string (a0.extract ((ji5) : Int).toNat a0.size), .string (⟨#[58, 58]⟩ : ByteArray)] rfl q16_1 ?_; (with_reducible refine (strings_HasPrefix.calls (a0.extract ((ji5) : Int).toNat a0.size) (⟨#[58, 58]⟩ : ByteArray) false _ A8.out).mono ?_); rintro e w' ⟨rfl, ⟨nd, rfl⟩⟩; refine ⟨_, rfl, ?_⟩) | ((with_reducible refine gate_callee (f := 107) rfl ?_); refine goesL_ (some 36) rfl rfl Try.func107 (by kernel_rfl) rfl #[.string (a0.extract ((ji5) : Int).toNat a0.size)] rfl q16_1 ?_; (with_reducible refine (lexis_numbered.calls k (a0.extract ((ji5) : Int).toNat a0.size) t170 _ A21.out).mono ?_); rintro e w' ⟨rfl, ⟨nd, rfl⟩⟩; refine ⟨_, rfl, ?_⟩))
     go_ret
     exact ⟨q16_6, q16_0⟩
   ·rw [if_neg c7] at H
    exact absurd H (by simp)
  ·rw [if_neg c6] at H
   exact absurd H (by simp)
def lexis_Name.f (k : Nat) (a0 : ByteArray) : Option (Bool) := if a0.toList = ([] : List UInt8) then (some false) else (if (a0.size : Int) ≤ 64 then ((lexis_named.f k a0 0).bind fun t171 => (some (t171 == (a0.size : Int)))) else (some false))
theorem lexis_Name.mono : ∀ a0 k, LeO (lexis_Name.f k a0) (lexis_Name.f (k + 1) a0) := by
 intro a0 k
 unfold lexis_Name.f
 repeat' first
   | (with_reducible exact lexis_named.mono _ _ _)
   | (with_reducible exact LeO.refl _)
   | (with_reducible exact LeO.none _)
   | (with_reducible refine LeO.ite ?_ ?_)
   | (with_reducible refine LeO.bind ?_ (fun _ => ?_))
   | exact lexis_named.mono _ _ _
   | exact LeO.none _
   | refine LeO.ite ?_ ?_
   | refine LeO.bind ?_ (fun _ => ?_)
set_option maxHeartbeats 8000000 in
set_option maxRecDepth 100000 in
theorem lexis_Name.calls (k : Nat) (a0 : ByteArray) (r : Bool) (w : World) (h : lexis_Name.f k a0 = some r) :
  Calls Try.prog 47 #[.string a0] w fun e w' => e = .returned (.bool r) ∧ Drawn0 w w' := by
 have H : (if a0.toList = ([] : List UInt8) then (some false) else (if (a0.size : Int) ≤ 64 then ((lexis_named.f k a0 0).bind fun t171 => (some (t171 == (a0.size : Int)))) else (some false))) = some r := h
 clear h
 by_cases c2 : a0.toList = ([] : List UInt8)
 ·rw [if_pos c2] at H
  have c2b0 : (a0.toList == ([] : List UInt8)) = true := beq_iff_eq.mpr c2
  have c2b1 : (a0.toList != ([] : List UInt8)) = false := bne_eq_false_iff_eq.mpr c2
  clear c2
  obtain rfl := Option.some.inj H
  go_enter Try.func47, Try.ntmps47
  go_wp2
  go_ret
  exact ⟨q16_3, q16_0⟩
 ·rw [if_neg c2] at H
  have c2b0 : (a0.toList == ([] : List UInt8)) = false := beq_eq_false_iff_ne.mpr c2
  have c2b1 : (a0.toList != ([] : List UInt8)) = true := bne_iff_ne.mpr c2
  by_cases c3 : (a0.size : Int) ≤ 64
  ·rw [if_pos c3] at H
   have c3b0 : decide ((a0.size : Int) ≤ 64) = true := decide_eq_true c3
   have c3b1 : decide (a0.size ≤ 64) = true := decide_eq_true (by omega)
   clear c3
   replace H := Option.bind_eq_some_iff.mp H
   obtain ⟨t171, A40, H⟩ := H
   replace H : (some (t171 == (a0.size : Int))) = some r := H
   have A4 := Aside0.mk A40; clear A40
   obtain rfl := Option.some.inj H
   go_enter Try.func47, Try.ntmps47
   go_wp2_with (first | (go_at_call 84; (with_reducible refine (lexis_named.calls k a0 0 t171 _ A4.out).mono ?_); rintro e w' ⟨rfl, ⟨nd, rfl⟩⟩))
   go_ret
   exact ⟨q16_3, q16_0⟩
  ·rw [if_neg c3] at H
   have c3b0 : decide ((a0.size : Int) ≤ 64) = false := decide_eq_false c3
   have c3b1 : decide (a0.size ≤ 64) = false := decide_eq_false (by omega)
   clear c3
   obtain rfl := Option.some.inj H
   go_enter Try.func47, Try.ntmps47
   go_wp2
   go_ret
   exact ⟨q16_3, q16_0⟩
end Go.Proofs.Ytebiogaacikphaa.PAll
end
section
namespace Go.Proofs.Ytebiogaacikphaa.PAll
open Go.RowKit Go.Proofs.YtebiogaacikphaaW.PrintWords Go.Proofs.YtebiogaacikphaaW.PrintLast Go.Proofs.YtebiogaacikphaaW.PrintMore
attribute [local go_sem] max2_int max_two
set_option linter.unusedVariables false
set_option linter.unusedSimpArgs false
theorem q6_6 {p : Prop} (h : p := by first | omega | exact Nat.le_refl _) : p := h
theorem q6_5 {p : Prop} (h : p := by (with_reducible repeat (first | refine blk_drewN ?_ _ | refine blk_drew ?_ | refine blk_alloc ?_ _)); exact BK105.out) : p := h
theorem q6_4 {p : Prop} (h : p := by first | (with_reducible assumption) | assumption) : p := h
theorem q6_2 {p : Prop} (h : p := by repeat (first | (with_reducible first | exact HB.out | apply below_alloc | apply pw_below_drewN | apply below_drew1 | refine below_set ?_ GE105.out) | exact HB.out)) : p := h
theorem q6_1 {p : Prop} (h : p := by repeat (first | exact Drawn0.refl _ | apply Drawn0.step)) : p := h
theorem q6_0 {p : Prop} (h : p := by first | rfl | (simp; done) | (simp [*]; done)) : p := h
def core_arity.j0 : Nat → Int → Bool → Option (Int)
 | 0, _, _ => none
 | k + 1, x3, x4 => if x4 = true then (some 2) else (if x3 = 6 then (some 1) else (if x3 = 7 then (some 1) else (if x3 = 8 then (some 1) else (some 0))))
def core_arity.f (k : Nat) (a0 : Int) : Option (Int) := if a0 = 4 then (core_arity.j0 k a0 (a0 == 4)) else (core_arity.j0 k a0 (a0 == 5))
theorem core_arity.mono_l : ∀ k, (∀ y0 y1, LeO (core_arity.j0 k y0 y1) (core_arity.j0 (k + 1) y0 y1))
 | 0 => fun _ _ r h => by simp [core_arity.j0] at h
 | k + 1 => by
  have ih0 := core_arity.mono_l k
  ·intro y0 y1
   unfold core_arity.j0
   repeat' first
   | (with_reducible exact ih0 _ _)
   | (with_reducible exact LeO.refl _)
   | (with_reducible exact LeO.none _)
   | (with_reducible refine LeO.ite ?_ ?_)
   | (with_reducible refine LeO.bind ?_ (fun _ => ?_))
   | exact ih0 _ _
   | exact LeO.none _
   | refine LeO.ite ?_ ?_
   | refine LeO.bind ?_ (fun _ => ?_)
theorem core_arity.mono : ∀ a0 k, LeO (core_arity.f k a0) (core_arity.f (k + 1) a0) := by
 intro a0 k
 have ih0 := core_arity.mono_l k
 unfold core_arity.f
 repeat' first
   | (with_reducible exact ih0 _ _)
   | (with_reducible exact LeO.refl _)
   | (with_reducible exact LeO.none _)
   | (with_reducible refine LeO.ite ?_ ?_)
   | (with_reducible refine LeO.bind ?_ (fun _ => ?_))
   | exact ih0 _ _
   | exact LeO.none _
   | refine LeO.ite ?_ ?_
   | refine LeO.bind ?_ (fun _ => ?_)
set_option maxHeartbeats 8000000 in
set_option maxRecDepth 100000 in
theorem core_arity.calls (k : Nat) (a0 : Int) (r : Int) (w : World) (h : core_arity.f k a0 = some r) :
  Calls Try.prog 42 #[.int .i64 a0] w fun e w' => e = .returned (.int .i64 r) ∧ Drawn0 w w' := by
 have H : (if a0 = 4 then (core_arity.j0 k a0 (a0 == 4)) else (core_arity.j0 k a0 (a0 == 5))) = some r := h
 clear h; have HC2 := Aside0.mk H; clear H
 go_enter Try.func42, Try.ntmps42
 go_upto_if 4 with (fail)
 go_cut [4] (fun v4 wc => ∃ (kq : Nat) (x4_1 : Bool), v4 = .bool x4_1 ∧ Aside0 (core_arity.j0 kq a0 x4_1 = some r) ∧ Aside0 (kq ≤ k) ∧ Drawn0 w wc)
 case first =>
  have H := HC2.out
  clear HC2
  by_cases c3 : a0 = 4
  ·rw [if_pos c3] at H
   have c3b0 : (a0 == 4) = true := beq_iff_eq.mpr c3
   have c3b1 : (a0 != 4) = false := bne_eq_false_iff_eq.mpr c3
   clear c3
   (first | rw [c3b0] | (simp only [i64_w, i32_w]; rw [c3b0]) | skip)
   have H' := Aside0.mk H
   clear H
   go_wp2
   go_meet
   case rel => exact ⟨_, ((a0 == 4)), q6_0, H', ⟨q6_6⟩, q6_1⟩
  ·rw [if_neg c3] at H
   have c3b0 : (a0 == 4) = false := beq_eq_false_iff_ne.mpr c3
   have c3b1 : (a0 != 4) = true := bne_iff_ne.mpr c3
   (first | rw [c3b0] | (simp only [i64_w, i32_w]; rw [c3b0]) | skip)
   have H' := Aside0.mk H
   clear H
   go_wp2
   go_meet
   case rel => exact ⟨_, ((a0 == 5)), q6_0, H', ⟨q6_6⟩, q6_1⟩
 case rest =>
  clear HC2; (try clear p2); (try clear c3); (try clear c3b0); (try clear c3b1)
  obtain ⟨kq, x4_1, rfl, HA, HJ1, ⟨mc1, rfl⟩⟩ := hcut
  cases kq with
  | zero => exact absurd HA.out (by simp [core_arity.j0])
  | succ kj1 =>
   have H := HA.out
   clear HA
   simp only [core_arity.j0] at H
   by_cases c4 : x4_1 = true
   ·subst c4
    have H1 : (some 2) = some r := by rw [if_pos rfl] at H; exact H
    clear H
    have H := H1
    clear H1
    obtain rfl := Option.some.inj H
    go_wp2
    go_ret
    exact ⟨q6_0, q6_1⟩
   ·replace c4 := Bool.eq_false_iff.mpr c4
    subst c4
    have H1 : (if a0 = 6 then (some 1) else (if a0 = 7 then (some 1) else (if a0 = 8 then (some 1) else (some 0)))) = some r := by rw [if_neg (show ¬ (false = true) by decide)] at H; exact H
    clear H
    have H := H1
    clear H1
    by_cases c5 : a0 = 6
    ·rw [if_pos c5] at H
     have c5b0 : (a0 == 6) = true := beq_iff_eq.mpr c5
     have c5b1 : (a0 != 6) = false := bne_eq_false_iff_eq.mpr c5
     clear c5
     obtain rfl := Option.some.inj H
     go_wp2
     go_ret
     exact ⟨q6_0, q6_1⟩
    ·rw [if_neg c5] at H
     have c5b0 : (a0 == 6) = false := beq_eq_false_iff_ne.mpr c5
     have c5b1 : (a0 != 6) = true := bne_iff_ne.mpr c5
     by_cases c6 : a0 = 7
     ·rw [if_pos c6] at H
      have c6b0 : (a0 == 7) = true := beq_iff_eq.mpr c6
      have c6b1 : (a0 != 7) = false := bne_eq_false_iff_eq.mpr c6
      clear c6
      obtain rfl := Option.some.inj H
      go_wp2
      go_ret
      exact ⟨q6_0, q6_1⟩
     ·rw [if_neg c6] at H
      have c6b0 : (a0 == 7) = false := beq_eq_false_iff_ne.mpr c6
      have c6b1 : (a0 != 7) = true := bne_iff_ne.mpr c6
      by_cases c7 : a0 = 8
      ·rw [if_pos c7] at H
       have c7b0 : (a0 == 8) = true := beq_iff_eq.mpr c7
       have c7b1 : (a0 != 8) = false := bne_eq_false_iff_eq.mpr c7
       clear c7
       obtain rfl := Option.some.inj H
       go_wp2
       go_ret
       exact ⟨q6_0, q6_1⟩
      ·rw [if_neg c7] at H
       have c7b0 : (a0 == 8) = false := beq_eq_false_iff_ne.mpr c7
       have c7b1 : (a0 != 8) = true := bne_iff_ne.mpr c7
       obtain rfl := Option.some.inj H
       go_wp2
       go_ret
       exact ⟨q6_0, q6_1⟩
def dowelref09_Size.l0 : Nat → Int → Int → List (S30) → Int → Option (Int)
 | 0, _, _, _, _ => none
 | k + 1, x3, x4, x106000, x106001 => if x4 < (x106000.length : Int) then (if 0 ≤ x4 then (dowelref09_Size.l0 k (wrap64 (x3 + (((rd_T30 x106000 x4).f1).length : Int))) (wrap64 (x4 + 1)) x106000 x106001) else (none)) else (some x3)
def dowelref09_Size.f (k : Nat) (l0_0 : List (S30)) (a0_1 : Int) : Option (Int) := dowelref09_Size.l0 k 0 0 l0_0 a0_1
theorem dowelref09_Size.mono_l : ∀ k, (∀ y0 y1 y2 y3, LeO (dowelref09_Size.l0 k y0 y1 y2 y3) (dowelref09_Size.l0 (k + 1) y0 y1 y2 y3))
 | 0 => fun _ _ _ _ r h => by simp [dowelref09_Size.l0] at h
 | k + 1 => by
  have ih0 := dowelref09_Size.mono_l k
  ·intro y0 y1 y2 y3
   unfold dowelref09_Size.l0
   repeat' first
   | (with_reducible exact ih0 _ _ _ _)
   | (with_reducible exact LeO.refl _)
   | (with_reducible exact LeO.none _)
   | (with_reducible refine LeO.ite ?_ ?_)
   | (with_reducible refine LeO.bind ?_ (fun _ => ?_))
   | exact ih0 _ _ _ _
   | exact LeO.none _
   | refine LeO.ite ?_ ?_
   | refine LeO.bind ?_ (fun _ => ?_)
theorem dowelref09_Size.mono : ∀ a0 a1 k, LeO (dowelref09_Size.f k a0 a1) (dowelref09_Size.f (k + 1) a0 a1) := by
 intro a0 a1 k
 have ih0 := dowelref09_Size.mono_l k
 unfold dowelref09_Size.f
 repeat' first
   | (with_reducible exact ih0 _ _ _ _)
   | (with_reducible exact LeO.refl _)
   | (with_reducible exact LeO.none _)
   | (with_reducible refine LeO.ite ?_ ?_)
   | (with_reducible refine LeO.bind ?_ (fun _ => ?_))
   | exact ih0 _ _ _ _
   | exact LeO.none _
   | refine LeO.ite ?_ ?_
   | refine LeO.bind ?_ (fun _ => ?_)
set_option maxHeartbeats 8000000 in
set_option maxRecDepth 100000 in
theorem dowelref09_Size.calls (k : Nat) (A0_0 : Option Addr) (c0_0 : Nat) (l0_0 : List (S30)) (a0_1 : Int) (r : Int) (w : World) (hr0_0 : Kd.C k30 w A0_0 l0_0.length l0_0) (hc0_0 : l0_0.length ≤ c0_0) (h : dowelref09_Size.f k l0_0 a0_1 = some r) :
  Calls Try.prog 17 #[.agg #[.slice A0_0 l0_0.length c0_0, .int .i64 a0_1]] w fun e w' => e = .returned (.int .i64 r) ∧ Below w.heap.size w w' := by
 have hu24 := Try.underlying24
 have HR0_0 := Aside0.mk hr0_0; have HC0_0 := Aside0.mk hc0_0; clear hr0_0 hc0_0
 have HB := Aside0.mk (Below.refl w.heap.size w)
 have H : (dowelref09_Size.l0 k 0 0 l0_0 a0_1) = some r := h
 clear h
 have H' := Aside0.mk H
 clear H
 go_enter Try.func17, Try.ntmps17
 go_wp2_with (first | ((with_reducible refine gate_dst (N := 1) rfl ?_); refine box_event ?hg (N := 1) ?hd (cs := #[.slice A0_0 l0_0.length c0_0, .int .i64 a0_1]) (t := 24) ?hr ?_; (case hd => rfl); (case hg => rfl); (case hr => first | (go_simp; done) | (go_simp; rfl)); intro gb105 hg w2 hbox hb; have z_ := bxk hb hg (by repeat (first | (with_reducible first | exact HB.out | apply below_alloc | apply pw_below_drewN | apply below_drew1) | exact HB.out)); have n0_ := Aside0.mk z_.1; have n1_ := Aside0.mk (hbox); have n2_ := Aside0.mk z_.2; have n3_ := Aside0.mk z_.2; clear z_; clear HB; have HB := n0_; have BK105 := n1_; have GW105 := n2_; have GE105 := n3_; clear n0_ n1_ n2_ n3_; clear hb hbox hg))
 go_loopg [3, 4] k (fun kq v3 v4 w' => ∃ (x3_1 : Int) (x4_1 : Int), v3 = .int .i64 x3_1 ∧ v4 = .int .i64 x4_1 ∧ Aside0 (dowelref09_Size.l0 kq x3_1 x4_1 l0_0 a0_1 = some r) ∧ Aside0 (kq ≤ k) ∧ Aside0 (w'.heap[gb105]? = some (.cells #[(.slice A0_0 l0_0.length c0_0), .int .i64 a0_1] 24 (0, 0))) ∧ Aside0 (Below w.heap.size w w'))
 case atStart => exact ⟨(0), (0), q6_0, q6_0, H', ⟨Nat.le_refl _⟩, ⟨q6_5⟩, ⟨q6_2⟩⟩
 case round =>
  clear H'; (try clear c1); (try clear p2)
  obtain ⟨x3_1, x4_1, rfl, rfl, HA, HK1, BK105, HB⟩ := hrel
  cases gk with
  | zero => exact absurd HA.out (by simp [dowelref09_Size.l0])
  | succ k1 =>
   have H := HA.out
   clear HA
   simp only [dowelref09_Size.l0] at H
   by_cases c3 : x4_1 < (l0_0.length : Int)
   ·rw [if_pos c3] at H
    have c3b0 : decide (x4_1 < (l0_0.length : Int)) = true := decide_eq_true c3
    clear c3
    by_cases c4 : 0 ≤ x4_1
    ·rw [if_pos c4] at H
     have c4b0 : decide (0 ≤ x4_1) = true := decide_eq_true c4
     clear c4
     have H' := Aside0.mk H
     clear H
     obtain ⟨hcz5_0, hcz5_1⟩ := ck2 BK105.out
     obtain ⟨hfz5_0, hfz5_1⟩ := fk2 BK105.out
     have p106 : 0 ≤ (x4_1 : Int) := of_decide_eq_true q6_4
     have q106 : x4_1 < (l0_0.length : Int) := of_decide_eq_true q6_4
     obtain ⟨ad106, A106_1, c106_1, e106, hx106_0, hx106_1, hl106_1, hi106_1⟩ := at_T30 HR0_0.out x4_1 p106 q106
     cases e106
     replace hx106_0 := (HB.out.cell (World.block_lt_of_cell? w _ hx106_0)).trans hx106_0
     replace hx106_1 := (HB.out.cell (World.block_lt_of_cell? w _ hx106_1)).trans hx106_1
     have HR106_1 := Aside0.mk hi106_1; have HC106_1 := Aside0.mk hl106_1; clear hi106_1 hl106_1
     replace p106 := eq_true p106
     replace q106 := eq_true q106
     go_wp2
     go_roundg k1
     case measure => have := HK1.out; omega
     case rel => exact ⟨(wrap64 (x3_1 + (((rd_T30 l0_0 x4_1).f1).length : Int))), (wrap64 (x4_1 + 1)), q6_0, q6_0, H', ⟨by have := HK1.out; omega⟩, ⟨q6_5⟩, ⟨q6_2⟩⟩
    ·rw [if_neg c4] at H
     exact absurd H (by simp)
   ·rw [if_neg c3] at H
    have c3b0 : decide (x4_1 < (l0_0.length : Int)) = false := decide_eq_false c3
    clear c3
    obtain rfl := Option.some.inj H
    obtain ⟨hcz6_0, hcz6_1⟩ := ck2 BK105.out
    obtain ⟨hfz6_0, hfz6_1⟩ := fk2 BK105.out
    go_wp2
    go_ret
    exact ⟨by first | rfl | (simp [errW_none, errW_some] <;> rfl) | (simp [*, errW_none, errW_some] <;> rfl), q6_2⟩
end Go.Proofs.Ytebiogaacikphaa.PAll
end
section
namespace Go.Proofs.Ytebiogaacikphaa.PAll
open Go.RowKit Go.Proofs.YtebiogaacikphaaW.PrintWords Go.Proofs.YtebiogaacikphaaW.PrintLast Go.Proofs.YtebiogaacikphaaW.PrintMore
attribute [local go_sem] max2_int max_two
set_option linter.unusedVariables false
set_option linter.unusedSimpArgs false
/-- Of short ASCII texts alone: is one of the second's bytes in the first? -/
def strings_ContainsAny.f (a0 a1 : ByteArray) : Option Bool :=
  if a0.size < 4294967281 ∧ a1.size < 4294967281 ∧ (∀ b ∈ a0.data.toList, b.toNat < 128) ∧ (∀ b ∈ a1.data.toList, b.toNat < 128) then some (Lib.containsAny a0.data.toList a1.data.toList) else none
theorem strings_ContainsAny.calls (a0 a1 : ByteArray) (r : Bool) (w : World) (h : strings_ContainsAny.f a0 a1 = some r) :
    Calls Try.prog 85 #[.string a0, .string a1] w fun e w' => e = .returned (.bool r) ∧ Below w.heap.size w w' := by
  unfold strings_ContainsAny.f at h
  split at h
  case isFalse => cases h
  rename_i hc
  obtain rfl := Option.some.inj h
  exact Try.strings_ContainsAny_laid a0 a1 w hc.1 hc.2.1 (fun j b hb => hc.2.2.1 b (List.mem_of_getElem? hb)) (fun j b hb => hc.2.2.2 b (List.mem_of_getElem? hb))
end Go.Proofs.Ytebiogaacikphaa.PAll
end
