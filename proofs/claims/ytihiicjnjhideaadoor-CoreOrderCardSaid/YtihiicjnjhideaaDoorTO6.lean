/- Parts of the proof of coreOrder: PAllx5, Lexis, BuildOwn, Row. No condition beyond each lemma's own. -/
import Derived.Laws.CopyRow
import Derived.Laws.MakeOwn
import Derived.Laws.Slices
import Derived.Test.YtihiicjnjhideaaDoorTO3
import Derived.Test.YtihiicjnjhideaaDoorTO5
section
namespace Go.Proofs.YtihiicjnjhideaaDoor.PAll
open Go.RowKit Go.Proofs.YtihiicjnjhideaaDoorW.PrintWords Go.Proofs.YtihiicjnjhideaaDoorW.PrintLast Go.Proofs.YtihiicjnjhideaaDoorW.PrintMore
attribute [local go_sem] max2_int max_two
set_option linter.unusedVariables false
set_option linter.unusedSimpArgs false
theorem qDoor5_5 {p : Prop} (h : p := by first | rfl | (simp; done) | (simp only [← hji5] <;> (first | rfl | simp)) | (simp [*]; done)) : p := h
theorem qDoor5_4 {p : Prop} (h : p := by (try simp only [List.map_toArray, List.map_cons, List.map_nil]); first | done | rfl | (simp only [List.length_drop, List.length_take]; rfl)) : p := h
theorem qDoor5_3 {p : Prop} (h : p := by first | rfl | (simp; done) | (simp [*]; done)) : p := h
theorem qDoor5_2 {p : Prop} (h : p := by (try simp only [List.map_toArray, List.map_cons, List.map_nil]); first | done | (simp only [hji5]; rfl) | rfl | (simp only [List.length_drop, List.length_take]; rfl)) : p := h
theorem qDoor5_1 {p : Prop} (h : p := by repeat (first | exact Drawn0.refl _ | apply Drawn0.step)) : p := h
theorem qDoor5_0 {p : Prop} (h : p := by first | (with_reducible assumption) | assumption) : p := h
mutual
def lexis_numbered.j0 : Nat → ByteArray → Bool → Option (Int)
 | 0, _, _ => none
 | k + 1, x0, x10 => if x10 = true then (some 0) else (lexis_numbered.l0 k x0 1)
def lexis_numbered.l0 : Nat → ByteArray → Int → Option (Int)
 | 0, _, _ => none
 | k + 1, x0, x3 => if x3 < (x0.size : Int) then (if 0 ≤ x3 then ((lexis_digit.f (bt x0 x3)).bind fun t107 => (if t107 = true then (lexis_numbered.l0 k x0 (wrap64 (x3 + 1))) else (if x3 = 1 then (some 0) else (if x3 > 6 then (some 0) else (if 1 < (x0.size : Int) then (if (bt x0 1) = 48 then (some 0) else (some x3)) else (none)))))) else (none)) else (if x3 = 1 then (some 0) else (if x3 > 6 then (some 0) else (if 1 < (x0.size : Int) then (if (bt x0 1) = 48 then (some 0) else (some x3)) else (none))))
end
def lexis_numbered.f (k : Nat) (a0 : ByteArray) : Option (Int) := if a0.toList = ([] : List UInt8) then (lexis_numbered.j0 k a0 true) else (if 0 < (a0.size : Int) then (lexis_numbered.j0 k a0 ((bt a0 0) != 126)) else (none))
theorem lexis_numbered.mono_l : ∀ k, (∀ y0 y1, LeO (lexis_numbered.j0 k y0 y1) (lexis_numbered.j0 (k + 1) y0 y1)) ∧ (∀ y0 y1, LeO (lexis_numbered.l0 k y0 y1) (lexis_numbered.l0 (k + 1) y0 y1))
 | 0 => ⟨fun _ _ r h => by simp [lexis_numbered.j0] at h, fun _ _ r h => by simp [lexis_numbered.l0] at h⟩
 | k + 1 => by
  obtain ⟨ih0, ih1⟩ := lexis_numbered.mono_l k
  refine ⟨?_, ?_⟩
  ·intro y0 y1
   unfold lexis_numbered.j0
   repeat' first
   | (with_reducible exact ih0 _ _)
   | (with_reducible exact ih1 _ _)
   | (with_reducible exact LeO.refl _)
   | (with_reducible exact LeO.none _)
   | (with_reducible refine LeO.ite ?_ ?_)
   | (with_reducible refine LeO.bind ?_ (fun _ => ?_))
   | exact ih0 _ _
   | exact ih1 _ _
   | exact LeO.none _
   | refine LeO.ite ?_ ?_
   | refine LeO.bind ?_ (fun _ => ?_)
  ·intro y0 y1
   unfold lexis_numbered.l0
   repeat' first
   | (with_reducible exact ih0 _ _)
   | (with_reducible exact ih1 _ _)
   | (with_reducible exact LeO.refl _)
   | (with_reducible exact LeO.none _)
   | (with_reducible refine LeO.ite ?_ ?_)
   | (with_reducible refine LeO.bind ?_ (fun _ => ?_))
   | exact ih0 _ _
   | exact ih1 _ _
   | exact LeO.none _
   | refine LeO.ite ?_ ?_
   | refine LeO.bind ?_ (fun _ => ?_)
theorem lexis_numbered.mono : ∀ a0 k, LeO (lexis_numbered.f k a0) (lexis_numbered.f (k + 1) a0) := by
 intro a0 k
 obtain ⟨ih0, ih1⟩ := lexis_numbered.mono_l k
 unfold lexis_numbered.f
 repeat' first
   | (with_reducible exact ih0 _ _)
   | (with_reducible exact ih1 _ _)
   | (with_reducible exact LeO.refl _)
   | (with_reducible exact LeO.none _)
   | (with_reducible refine LeO.ite ?_ ?_)
   | (with_reducible refine LeO.bind ?_ (fun _ => ?_))
   | exact ih0 _ _
   | exact ih1 _ _
   | exact LeO.none _
   | refine LeO.ite ?_ ?_
   | refine LeO.bind ?_ (fun _ => ?_)
set_option maxHeartbeats 8000000 in
set_option maxRecDepth 100000 in
theorem lexis_numbered.calls (k : Nat) (a0 : ByteArray) (r : Int) (w : World) (h : lexis_numbered.f k a0 = some r) :
  Calls Tryd.prog 53 #[.string a0] w fun e w' => e = .returned (.int .i64 r) ∧ Drawn0 w w' := by
 have H : (if a0.toList = ([] : List UInt8) then (lexis_numbered.j0 k a0 true) else (if 0 < (a0.size : Int) then (lexis_numbered.j0 k a0 ((bt a0 0) != 126)) else (none))) = some r := h
 clear h; have HC2 := aK H; clear H
 go_enter Tryd.func53, Tryd.ntmps53
 go_upto_region 1 with (fail)
 go_cut [10] (fun v10 wc => ∃ (kq : Nat) (x10_1 : Bool), v10 = .bool x10_1 ∧ Aside0 (lexis_numbered.j0 kq a0 x10_1 = some r) ∧ Aside0 (kq ≤ k) ∧ Drawn0 w wc)
 case first =>
  have H := HC2.out
  clear HC2
  by_cases c3 : a0.toList = ([] : List UInt8)
  ·rw [if_pos c3] at H
   have c3b0 : (a0.toList == ([] : List UInt8)) = true := beq_iff_eq.mpr c3
   have c3b1 : (a0.toList != ([] : List UInt8)) = false := bne_eq_false_iff_eq.mpr c3
   clear c3
   (first | rw [c3b0] | (simp only [i64_w, i32_w]; rw [c3b0]) | skip)
   have H' := aK H
   clear H
   go_wp2
   go_meet
   case rel => exact ⟨_, (true), qDoor5_3, H', ⟨by first | omega | exact Nat.le_refl _⟩, qDoor5_1⟩
  ·rw [if_neg c3] at H
   have c3b0 : (a0.toList == ([] : List UInt8)) = false := beq_eq_false_iff_ne.mpr c3
   have c3b1 : (a0.toList != ([] : List UInt8)) = true := bne_iff_ne.mpr c3
   (first | rw [c3b0] | (simp only [i64_w, i32_w]; rw [c3b0]) | skip)
   by_cases c4 : 0 < (a0.size : Int)
   ·rw [if_pos c4] at H
    have c4b0 : decide (0 < (a0.size : Int)) = true := decide_eq_true c4
    have c4b1 : decide (0 < a0.size) = true := decide_eq_true (by omega)
    clear c4
    have H' := aK H
    clear H
    have p5 : 0 ≤ (0 : Int) := (by omega)
    have q5 : 0 < a0.size := (by have : (0 : Int) < (a0.size : Int) := of_decide_eq_true qDoor5_0; omega)
    have hx5 : ∀ h : 0 < a0.size, ((a0[0]'h).toNat : Int) = bt a0 0 := bt_at a0 0
    clear p5
    have qi5 : (0 < (a0.size : Int)) = True := eq_true (of_decide_eq_true qDoor5_0)
    replace q5 := eq_true q5
    go_wp2
    go_meet
    case rel => exact ⟨_, (((bt a0 0) != 126)), qDoor5_3, H', ⟨by first | omega | exact Nat.le_refl _⟩, qDoor5_1⟩
   ·rw [if_neg c4] at H
    exact absurd H (by simp)
 case rest =>
  clear HC2; (try clear p2); (try clear c3); (try clear c3b0); (try clear c3b1); (try clear c4); (try clear c4b0); (try clear c4b1); (try clear c5); (try clear p5); (try clear q5); (try clear hx5); (try clear qi5); (try clear p5); (try clear q5)
  obtain ⟨kq, x10_1, rfl, HA, HJ1, ⟨mc1, rfl⟩⟩ := hcut
  cases kq with
  | zero => exact absurd HA.out (by simp [lexis_numbered.j0])
  | succ kj1 =>
   have H := HA.out
   clear HA
   simp only [lexis_numbered.j0] at H
   by_cases c6 : x10_1 = true
   ·subst c6
    have H1 : (some 0) = some r := by rw [if_pos rfl] at H; exact H
    clear H
    have H := H1
    clear H1
    obtain rfl := Option.some.inj H
    go_wp2
    go_ret
    exact ⟨qDoor5_3, qDoor5_1⟩
   ·replace c6 := Bool.eq_false_iff.mpr c6
    subst c6
    have H1 : (lexis_numbered.l0 kj1 a0 1) = some r := by rw [if_neg (show ¬ (false = true) by decide)] at H; exact H
    clear H
    have H := H1
    clear H1
    have H' := aK H
    clear H
    go_wp2
    go_loopg [3] kj1 (fun kq v3 w' => ∃ (x3_2 : Int), v3 = .int .i64 x3_2 ∧ Aside0 (lexis_numbered.l0 kq a0 x3_2 = some r) ∧ Aside0 (kq ≤ kj1) ∧ Drawn0 w w')
    case atStart => exact ⟨(1), qDoor5_3, H', ⟨Nat.le_refl _⟩, qDoor5_1⟩
    case round =>
     clear H'; (try clear c1); (try clear p2); (try clear c3); (try clear c3b0); (try clear c3b1); (try clear c4); (try clear c4b0); (try clear c4b1); (try clear c5); (try clear p5); (try clear q5); (try clear hx5); (try clear qi5); (try clear c6); (try clear p2); (try clear p5); (try clear q5)
     obtain ⟨x3_2, rfl, HA, HK2, ⟨m2, rfl⟩⟩ := hrel
     cases gk with
     | zero => exact absurd HA.out (by simp [lexis_numbered.l0])
     | succ k2 =>
      have H := HA.out
      clear HA
      simp only [lexis_numbered.l0] at H
      by_cases c7 : x3_2 < (a0.size : Int)
      ·rw [if_pos c7] at H
       have c7b0 : decide (x3_2 < (a0.size : Int)) = true := decide_eq_true c7
       clear c7
       by_cases c8 : 0 ≤ x3_2
       ·rw [if_pos c8] at H
        have c8b0 : decide (0 ≤ x3_2) = true := decide_eq_true c8
        clear c8
        replace H := Option.bind_eq_some_iff.mp H
        obtain ⟨t107, A100, H⟩ := H
        replace H : (if t107 = true then (lexis_numbered.l0 k2 a0 (wrap64 (x3_2 + 1))) else (if x3_2 = 1 then (some 0) else (if x3_2 > 6 then (some 0) else (if 1 < (a0.size : Int) then (if (bt a0 1) = 48 then (some 0) else (some x3_2)) else (none))))) = some r := H
        have A10 := aK A100; clear A100
        by_cases c11 : t107 = true
        ·subst c11
         have H1 : (lexis_numbered.l0 k2 a0 (wrap64 (x3_2 + 1))) = some r := by rw [if_pos rfl] at H; exact H
         clear H
         have H := H1
         clear H1
         have H' := aK H
         clear H
         have p9 : 0 ≤ (x3_2 : Int) := of_decide_eq_true qDoor5_0
         have q9 : x3_2 < (a0.size : Int) := of_decide_eq_true qDoor5_0
         have hx9 := bt_at a0 x3_2
         replace p9 := eq_true p9
         replace q9 := eq_true q9
         go_wp2_with (first | (go_at_call 61; (with_reducible refine (lexis_digit.calls (bt a0 x3_2) true _ A10.out).mono ?_); rintro e w' ⟨rfl, ⟨nd, rfl⟩⟩))
         go_roundg k2
         case measure => have := HJ1.out; have := HK2.out; omega
         case rel => exact ⟨(wrap64 (x3_2 + 1)), qDoor5_3, H', ⟨by have := HJ1.out; have := HK2.out; omega⟩, qDoor5_1⟩
        ·replace c11 := Bool.eq_false_iff.mpr c11
         subst c11
         have H1 : (if x3_2 = 1 then (some 0) else (if x3_2 > 6 then (some 0) else (if 1 < (a0.size : Int) then (if (bt a0 1) = 48 then (some 0) else (some x3_2)) else (none)))) = some r := by rw [if_neg (show ¬ (false = true) by decide)] at H; exact H
         clear H
         have H := H1
         clear H1
         by_cases c12 : x3_2 = 1
         ·rw [if_pos c12] at H
          have c12b0 : (x3_2 == 1) = true := beq_iff_eq.mpr c12
          have c12b1 : (x3_2 != 1) = false := bne_eq_false_iff_eq.mpr c12
          clear c12
          obtain rfl := Option.some.inj H
          have p9 : 0 ≤ (x3_2 : Int) := of_decide_eq_true qDoor5_0
          have q9 : x3_2 < (a0.size : Int) := of_decide_eq_true qDoor5_0
          have hx9 := bt_at a0 x3_2
          replace p9 := eq_true p9
          replace q9 := eq_true q9
          go_wp2_with (first | (go_at_call 61; (with_reducible refine (lexis_digit.calls (bt a0 x3_2) false _ A10.out).mono ?_); rintro e w' ⟨rfl, ⟨nd, rfl⟩⟩))
          go_ret
          exact ⟨qDoor5_3, qDoor5_1⟩
         ·rw [if_neg c12] at H
          have c12b0 : (x3_2 == 1) = false := beq_eq_false_iff_ne.mpr c12
          have c12b1 : (x3_2 != 1) = true := bne_iff_ne.mpr c12
          by_cases c13 : x3_2 > 6
          ·rw [if_pos c13] at H
           have c13b0 : decide (6 < x3_2) = true := decide_eq_true c13
           clear c13
           obtain rfl := Option.some.inj H
           have p9 : 0 ≤ (x3_2 : Int) := of_decide_eq_true qDoor5_0
           have q9 : x3_2 < (a0.size : Int) := of_decide_eq_true qDoor5_0
           have hx9 := bt_at a0 x3_2
           replace p9 := eq_true p9
           replace q9 := eq_true q9
           go_wp2_with (first | (go_at_call 61; (with_reducible refine (lexis_digit.calls (bt a0 x3_2) false _ A10.out).mono ?_); rintro e w' ⟨rfl, ⟨nd, rfl⟩⟩))
           go_ret
           exact ⟨qDoor5_3, qDoor5_1⟩
          ·rw [if_neg c13] at H
           have c13b0 : decide (6 < x3_2) = false := decide_eq_false c13
           clear c13
           by_cases c14 : 1 < (a0.size : Int)
           ·rw [if_pos c14] at H
            have c14b0 : decide (1 < (a0.size : Int)) = true := decide_eq_true c14
            have c14b1 : decide (1 < a0.size) = true := decide_eq_true (by omega)
            clear c14
            by_cases c16 : (bt a0 1) = 48
            ·rw [if_pos c16] at H
             have c16b0 : ((bt a0 1) == 48) = true := beq_iff_eq.mpr c16
             have c16b1 : ((bt a0 1) != 48) = false := bne_eq_false_iff_eq.mpr c16
             clear c16
             obtain rfl := Option.some.inj H
             have p9 : 0 ≤ (x3_2 : Int) := of_decide_eq_true qDoor5_0
             have q9 : x3_2 < (a0.size : Int) := of_decide_eq_true qDoor5_0
             have hx9 := bt_at a0 x3_2
             replace p9 := eq_true p9
             replace q9 := eq_true q9
             go_wp2_with (first | (go_at_call 61; (with_reducible refine (lexis_digit.calls (bt a0 x3_2) false _ A10.out).mono ?_); rintro e w' ⟨rfl, ⟨nd, rfl⟩⟩; have p15 : 0 ≤ (1 : Int) := (by omega); have q15 : 1 < a0.size := (by have : (1 : Int) < (a0.size : Int) := of_decide_eq_true qDoor5_0; omega); have hx15 : ∀ h : 1 < a0.size, ((a0[1]'h).toNat : Int) = bt a0 1 := bt_at a0 1; clear p15; have qi15 : (1 < (a0.size : Int)) = True := eq_true (of_decide_eq_true qDoor5_0); replace q15 := eq_true q15))
             go_ret
             exact ⟨qDoor5_3, qDoor5_1⟩
            ·rw [if_neg c16] at H
             have c16b0 : ((bt a0 1) == 48) = false := beq_eq_false_iff_ne.mpr c16
             have c16b1 : ((bt a0 1) != 48) = true := bne_iff_ne.mpr c16
             obtain rfl := Option.some.inj H
             have p9 : 0 ≤ (x3_2 : Int) := of_decide_eq_true qDoor5_0
             have q9 : x3_2 < (a0.size : Int) := of_decide_eq_true qDoor5_0
             have hx9 := bt_at a0 x3_2
             replace p9 := eq_true p9
             replace q9 := eq_true q9
             go_wp2_with (first | (go_at_call 61; (with_reducible refine (lexis_digit.calls (bt a0 x3_2) false _ A10.out).mono ?_); rintro e w' ⟨rfl, ⟨nd, rfl⟩⟩; have p15 : 0 ≤ (1 : Int) := (by omega); have q15 : 1 < a0.size := (by have : (1 : Int) < (a0.size : Int) := of_decide_eq_true qDoor5_0; omega); have hx15 : ∀ h : 1 < a0.size, ((a0[1]'h).toNat : Int) = bt a0 1 := bt_at a0 1; clear p15; have qi15 : (1 < (a0.size : Int)) = True := eq_true (of_decide_eq_true qDoor5_0); replace q15 := eq_true q15))
             go_ret
             exact ⟨qDoor5_3, qDoor5_1⟩
           ·rw [if_neg c14] at H
            exact absurd H (by simp)
       ·rw [if_neg c8] at H
        exact absurd H (by simp)
      ·rw [if_neg c7] at H
       have c7b0 : decide (x3_2 < (a0.size : Int)) = false := decide_eq_false c7
       clear c7
       by_cases c17 : x3_2 = 1
       ·rw [if_pos c17] at H
        have c17b0 : (x3_2 == 1) = true := beq_iff_eq.mpr c17
        have c17b1 : (x3_2 != 1) = false := bne_eq_false_iff_eq.mpr c17
        clear c17
        obtain rfl := Option.some.inj H
        go_wp2
        go_ret
        exact ⟨qDoor5_3, qDoor5_1⟩
       ·rw [if_neg c17] at H
        have c17b0 : (x3_2 == 1) = false := beq_eq_false_iff_ne.mpr c17
        have c17b1 : (x3_2 != 1) = true := bne_iff_ne.mpr c17
        by_cases c18 : x3_2 > 6
        ·rw [if_pos c18] at H
         have c18b0 : decide (6 < x3_2) = true := decide_eq_true c18
         clear c18
         obtain rfl := Option.some.inj H
         go_wp2
         go_ret
         exact ⟨qDoor5_3, qDoor5_1⟩
        ·rw [if_neg c18] at H
         have c18b0 : decide (6 < x3_2) = false := decide_eq_false c18
         clear c18
         by_cases c19 : 1 < (a0.size : Int)
         ·rw [if_pos c19] at H
          have c19b0 : decide (1 < (a0.size : Int)) = true := decide_eq_true c19
          have c19b1 : decide (1 < a0.size) = true := decide_eq_true (by omega)
          clear c19
          by_cases c21 : (bt a0 1) = 48
          ·rw [if_pos c21] at H
           have c21b0 : ((bt a0 1) == 48) = true := beq_iff_eq.mpr c21
           have c21b1 : ((bt a0 1) != 48) = false := bne_eq_false_iff_eq.mpr c21
           clear c21
           obtain rfl := Option.some.inj H
           have p20 : 0 ≤ (1 : Int) := (by omega)
           have q20 : 1 < a0.size := (by have : (1 : Int) < (a0.size : Int) := of_decide_eq_true qDoor5_0; omega)
           have hx20 : ∀ h : 1 < a0.size, ((a0[1]'h).toNat : Int) = bt a0 1 := bt_at a0 1
           clear p20
           have qi20 : (1 < (a0.size : Int)) = True := eq_true (of_decide_eq_true qDoor5_0)
           replace q20 := eq_true q20
           go_wp2
           go_ret
           exact ⟨qDoor5_3, qDoor5_1⟩
          ·rw [if_neg c21] at H
           have c21b0 : ((bt a0 1) == 48) = false := beq_eq_false_iff_ne.mpr c21
           have c21b1 : ((bt a0 1) != 48) = true := bne_iff_ne.mpr c21
           obtain rfl := Option.some.inj H
           have p20 : 0 ≤ (1 : Int) := (by omega)
           have q20 : 1 < a0.size := (by have : (1 : Int) < (a0.size : Int) := of_decide_eq_true qDoor5_0; omega)
           have hx20 : ∀ h : 1 < a0.size, ((a0[1]'h).toNat : Int) = bt a0 1 := bt_at a0 1
           clear p20
           have qi20 : (1 < (a0.size : Int)) = True := eq_true (of_decide_eq_true qDoor5_0)
           replace q20 := eq_true q20
           go_wp2
           go_ret
           exact ⟨qDoor5_3, qDoor5_1⟩
         ·rw [if_neg c19] at H
          exact absurd H (by simp)
def lexis_named.f (k : Nat) (a0 : ByteArray) (a1 : Int) : Option (Int) := (lexis_own.f k a0 a1).bind fun t108 => (if t108 = 0 then (some 0) else (if 0 ≤ (wrap64 (a1 + t108)) then (if (wrap64 (a1 + t108)) ≤ (a0.size : Int) then ((strings_HasPrefix.f (a0.extract ((wrap64 (a1 + t108)) : Int).toNat a0.size) (⟨#[58, 58]⟩ : ByteArray)).bind fun t109 => (if t109 = true then ((lexis_own.f k a0 (wrap64 ((wrap64 (a1 + t108)) + 2))).bind fun t110 => (if t110 > 0 then (if 0 ≤ (wrap64 (a1 + (wrap64 (t108 + (wrap64 (2 + t110)))))) then (if (wrap64 (a1 + (wrap64 (t108 + (wrap64 (2 + t110)))))) ≤ (a0.size : Int) then ((lexis_numbered.f k (a0.extract ((wrap64 (a1 + (wrap64 (t108 + (wrap64 (2 + t110)))))) : Int).toNat a0.size)).bind fun t111 => (some (wrap64 ((wrap64 (t108 + (wrap64 (2 + t110)))) + t111)))) else (none)) else (none)) else ((lexis_numbered.f k (a0.extract ((wrap64 (a1 + t108)) : Int).toNat a0.size)).bind fun t112 => (some (wrap64 (t108 + t112)))))) else ((lexis_numbered.f k (a0.extract ((wrap64 (a1 + t108)) : Int).toNat a0.size)).bind fun t113 => (some (wrap64 (t108 + t113)))))) else (none)) else (none)))
theorem lexis_named.mono : ∀ a0 a1 k, LeO (lexis_named.f k a0 a1) (lexis_named.f (k + 1) a0 a1) := by
 intro a0 a1 k
 unfold lexis_named.f
 repeat' first
   | (with_reducible exact lexis_numbered.mono _ _)
   | (with_reducible exact lexis_own.mono _ _ _)
   | (with_reducible exact LeO.refl _)
   | (with_reducible exact LeO.none _)
   | (with_reducible refine LeO.ite ?_ ?_)
   | (with_reducible refine LeO.bind ?_ (fun _ => ?_))
   | exact lexis_numbered.mono _ _
   | exact lexis_own.mono _ _ _
   | exact LeO.none _
   | refine LeO.ite ?_ ?_
   | refine LeO.bind ?_ (fun _ => ?_)
set_option maxHeartbeats 8000000 in
set_option maxRecDepth 100000 in
theorem lexis_named.calls (k : Nat) (a0 : ByteArray) (a1 : Int) (r : Int) (w : World) (h : lexis_named.f k a0 a1 = some r) :
  Calls Tryd.prog 32 #[.string a0, .int .i64 a1] w fun e w' => e = .returned (.int .i64 r) ∧ Drawn0 w w' := by
 have H : ((lexis_own.f k a0 a1).bind fun t108 => (if t108 = 0 then (some 0) else (if 0 ≤ (wrap64 (a1 + t108)) then (if (wrap64 (a1 + t108)) ≤ (a0.size : Int) then ((strings_HasPrefix.f (a0.extract ((wrap64 (a1 + t108)) : Int).toNat a0.size) (⟨#[58, 58]⟩ : ByteArray)).bind fun t109 => (if t109 = true then ((lexis_own.f k a0 (wrap64 ((wrap64 (a1 + t108)) + 2))).bind fun t110 => (if t110 > 0 then (if 0 ≤ (wrap64 (a1 + (wrap64 (t108 + (wrap64 (2 + t110)))))) then (if (wrap64 (a1 + (wrap64 (t108 + (wrap64 (2 + t110)))))) ≤ (a0.size : Int) then ((lexis_numbered.f k (a0.extract ((wrap64 (a1 + (wrap64 (t108 + (wrap64 (2 + t110)))))) : Int).toNat a0.size)).bind fun t111 => (some (wrap64 ((wrap64 (t108 + (wrap64 (2 + t110)))) + t111)))) else (none)) else (none)) else ((lexis_numbered.f k (a0.extract ((wrap64 (a1 + t108)) : Int).toNat a0.size)).bind fun t112 => (some (wrap64 (t108 + t112)))))) else ((lexis_numbered.f k (a0.extract ((wrap64 (a1 + t108)) : Int).toNat a0.size)).bind fun t113 => (some (wrap64 (t108 + t113)))))) else (none)) else (none)))) = some r := h
 clear h
 replace H := Option.bind_eq_some_iff.mp H
 obtain ⟨t108, A30, H⟩ := H
 replace H : (if t108 = 0 then (some 0) else (if 0 ≤ (wrap64 (a1 + t108)) then (if (wrap64 (a1 + t108)) ≤ (a0.size : Int) then ((strings_HasPrefix.f (a0.extract ((wrap64 (a1 + t108)) : Int).toNat a0.size) (⟨#[58, 58]⟩ : ByteArray)).bind fun t109 => (if t109 = true then ((lexis_own.f k a0 (wrap64 ((wrap64 (a1 + t108)) + 2))).bind fun t110 => (if t110 > 0 then (if 0 ≤ (wrap64 (a1 + (wrap64 (t108 + (wrap64 (2 + t110)))))) then (if (wrap64 (a1 + (wrap64 (t108 + (wrap64 (2 + t110)))))) ≤ (a0.size : Int) then ((lexis_numbered.f k (a0.extract ((wrap64 (a1 + (wrap64 (t108 + (wrap64 (2 + t110)))))) : Int).toNat a0.size)).bind fun t111 => (some (wrap64 ((wrap64 (t108 + (wrap64 (2 + t110)))) + t111)))) else (none)) else (none)) else ((lexis_numbered.f k (a0.extract ((wrap64 (a1 + t108)) : Int).toNat a0.size)).bind fun t112 => (some (wrap64 (t108 + t112)))))) else ((lexis_numbered.f k (a0.extract ((wrap64 (a1 + t108)) : Int).toNat a0.size)).bind fun t113 => (some (wrap64 (t108 + t113)))))) else (none)) else (none))) = some r := H
 have A3 := aK A30; clear A30
 by_cases c4 : t108 = 0
 ·rw [if_pos c4] at H
  have c4b0 : (t108 == 0) = true := beq_iff_eq.mpr c4
  have c4b1 : (t108 != 0) = false := bne_eq_false_iff_eq.mpr c4
  clear c4
  obtain rfl := Option.some.inj H
  go_enter Tryd.func32, Tryd.ntmps32
  go_wp2_with (first | ((with_reducible refine gate_callee (f := 51) rfl ?_); refine goesL_ (some 9) rfl rfl Tryd.func51 (by kernel_rfl) rfl #[.string a0, .int .i64 a1] rfl qDoor5_4 ?_; (with_reducible refine (lexis_own.calls k a0 a1 t108 _ A3.out).mono ?_); rintro e w' ⟨rfl, ⟨nd, rfl⟩⟩; refine ⟨_, rfl, ?_⟩))
  go_ret
  exact ⟨qDoor5_3, qDoor5_1⟩
 ·rw [if_neg c4] at H
  have c4b0 : (t108 == 0) = false := beq_eq_false_iff_ne.mpr c4
  have c4b1 : (t108 != 0) = true := bne_iff_ne.mpr c4
  obtain ⟨ji5, hji5⟩ : ∃ j_ : Int, (wrap64 (a1 + t108)) = j_ := ⟨_, rfl⟩
  replace H : (if 0 ≤ (ji5) then (if (ji5) ≤ (a0.size : Int) then ((strings_HasPrefix.f (a0.extract ((ji5) : Int).toNat a0.size) (⟨#[58, 58]⟩ : ByteArray)).bind fun t109 => (if t109 = true then ((lexis_own.f k a0 (wrap64 ((ji5) + 2))).bind fun t110 => (if t110 > 0 then (if 0 ≤ (wrap64 (a1 + (wrap64 (t108 + (wrap64 (2 + t110)))))) then (if (wrap64 (a1 + (wrap64 (t108 + (wrap64 (2 + t110)))))) ≤ (a0.size : Int) then ((lexis_numbered.f k (a0.extract ((wrap64 (a1 + (wrap64 (t108 + (wrap64 (2 + t110)))))) : Int).toNat a0.size)).bind fun t111 => (some (wrap64 ((wrap64 (t108 + (wrap64 (2 + t110)))) + t111)))) else (none)) else (none)) else ((lexis_numbered.f k (a0.extract ((ji5) : Int).toNat a0.size)).bind fun t112 => (some (wrap64 (t108 + t112)))))) else ((lexis_numbered.f k (a0.extract ((ji5) : Int).toNat a0.size)).bind fun t113 => (some (wrap64 (t108 + t113)))))) else (none)) else (none)) = some r := by first | (rw [hji5] at H; exact H) | (simp only [hji5] at H ⊢; exact H)
  (try rw [hji5] at A3)
  have hji5w : (IntKind.i64.wrap (a1 + t108)) = ji5 := (i64_w _).trans hji5
  by_cases c6 : 0 ≤ (ji5)
  ·rw [if_pos c6] at H
   have c6b0 := eq_true c6
   have c6b1 : decide (0 ≤ (ji5)) = true := decide_eq_true c6
   clear c6
   by_cases c7 : (ji5) ≤ (a0.size : Int)
   ·rw [if_pos c7] at H
    have c7b0 := eq_true c7
    have c7b1 : decide ((ji5) ≤ (a0.size : Int)) = true := decide_eq_true c7
    clear c7
    replace H := Option.bind_eq_some_iff.mp H
    obtain ⟨t109, A80, H⟩ := H
    replace H : (if t109 = true then ((lexis_own.f k a0 (wrap64 ((ji5) + 2))).bind fun t110 => (if t110 > 0 then (if 0 ≤ (wrap64 (a1 + (wrap64 (t108 + (wrap64 (2 + t110)))))) then (if (wrap64 (a1 + (wrap64 (t108 + (wrap64 (2 + t110)))))) ≤ (a0.size : Int) then ((lexis_numbered.f k (a0.extract ((wrap64 (a1 + (wrap64 (t108 + (wrap64 (2 + t110)))))) : Int).toNat a0.size)).bind fun t111 => (some (wrap64 ((wrap64 (t108 + (wrap64 (2 + t110)))) + t111)))) else (none)) else (none)) else ((lexis_numbered.f k (a0.extract ((ji5) : Int).toNat a0.size)).bind fun t112 => (some (wrap64 (t108 + t112)))))) else ((lexis_numbered.f k (a0.extract ((ji5) : Int).toNat a0.size)).bind fun t113 => (some (wrap64 (t108 + t113))))) = some r := H
    have A8 := aK A80; clear A80
    by_cases c9 : t109 = true
    ·subst c9
     have H1 : ((lexis_own.f k a0 (wrap64 ((ji5) + 2))).bind fun t110 => (if t110 > 0 then (if 0 ≤ (wrap64 (a1 + (wrap64 (t108 + (wrap64 (2 + t110)))))) then (if (wrap64 (a1 + (wrap64 (t108 + (wrap64 (2 + t110)))))) ≤ (a0.size : Int) then ((lexis_numbered.f k (a0.extract ((wrap64 (a1 + (wrap64 (t108 + (wrap64 (2 + t110)))))) : Int).toNat a0.size)).bind fun t111 => (some (wrap64 ((wrap64 (t108 + (wrap64 (2 + t110)))) + t111)))) else (none)) else (none)) else ((lexis_numbered.f k (a0.extract ((ji5) : Int).toNat a0.size)).bind fun t112 => (some (wrap64 (t108 + t112)))))) = some r := by rw [if_pos rfl] at H; exact H
     clear H
     have H := H1
     clear H1
     replace H := Option.bind_eq_some_iff.mp H
     obtain ⟨t110, A100, H⟩ := H
     replace H : (if t110 > 0 then (if 0 ≤ (wrap64 (a1 + (wrap64 (t108 + (wrap64 (2 + t110)))))) then (if (wrap64 (a1 + (wrap64 (t108 + (wrap64 (2 + t110)))))) ≤ (a0.size : Int) then ((lexis_numbered.f k (a0.extract ((wrap64 (a1 + (wrap64 (t108 + (wrap64 (2 + t110)))))) : Int).toNat a0.size)).bind fun t111 => (some (wrap64 ((wrap64 (t108 + (wrap64 (2 + t110)))) + t111)))) else (none)) else (none)) else ((lexis_numbered.f k (a0.extract ((ji5) : Int).toNat a0.size)).bind fun t112 => (some (wrap64 (t108 + t112))))) = some r := H
     have A10 := aK A100; clear A100
     by_cases c11 : t110 > 0
     ·rw [if_pos c11] at H
      have c11b0 : decide (0 < t110) = true := decide_eq_true c11
      clear c11
      obtain ⟨ji12, hji12⟩ : ∃ j_ : Int, (wrap64 (a1 + (wrap64 (t108 + (wrap64 (2 + t110)))))) = j_ := ⟨_, rfl⟩
      replace H : (if 0 ≤ (ji12) then (if (ji12) ≤ (a0.size : Int) then ((lexis_numbered.f k (a0.extract ((ji12) : Int).toNat a0.size)).bind fun t111 => (some (wrap64 ((wrap64 (t108 + (wrap64 (2 + t110)))) + t111)))) else (none)) else (none)) = some r := by first | (rw [hji12] at H; exact H) | (simp only [hji12] at H ⊢; exact H)
      (try rw [hji12] at A3)
      (try rw [hji12] at A8)
      (try rw [hji12] at A10)
      have hji12w : (IntKind.i64.wrap (a1 + (wrap64 (t108 + (wrap64 (2 + t110)))))) = ji12 := (i64_w _).trans hji12
      by_cases c13 : 0 ≤ (ji12)
      ·rw [if_pos c13] at H
       have c13b0 := eq_true c13
       have c13b1 : decide (0 ≤ (ji12)) = true := decide_eq_true c13
       clear c13
       by_cases c14 : (ji12) ≤ (a0.size : Int)
       ·rw [if_pos c14] at H
        have c14b0 := eq_true c14
        have c14b1 : decide ((ji12) ≤ (a0.size : Int)) = true := decide_eq_true c14
        clear c14
        replace H := Option.bind_eq_some_iff.mp H
        obtain ⟨t111, A150, H⟩ := H
        replace H : (some (wrap64 ((wrap64 (t108 + (wrap64 (2 + t110)))) + t111))) = some r := H
        have A15 := aK A150; clear A150
        obtain rfl := Option.some.inj H
        go_enter Tryd.func32, Tryd.ntmps32
        go_wp2_with (first | ((with_reducible refine gate_callee (f := 51) rfl ?_); refine goesL_ (some 9) rfl rfl Tryd.func51 (by kernel_rfl) rfl #[.string a0, .int .i64 a1] rfl qDoor5_4 ?_; (with_reducible refine (lexis_own.calls k a0 a1 t108 _ A3.out).mono ?_); rintro e w' ⟨rfl, ⟨nd, rfl⟩⟩; refine ⟨_, rfl, ?_⟩) | ((with_reducible refine gate_callee (f := 52) rfl ?_); refine goesL_ (some 17) rfl rfl Tryd.func52 (by kernel_rfl) rfl #[.string (a0.extract ((ji5) : Int).toNat a0.size), .string (⟨#[58, 58]⟩ : ByteArray)] rfl qDoor5_2 ?_; (with_reducible refine (strings_HasPrefix.calls (a0.extract ((ji5) : Int).toNat a0.size) (⟨#[58, 58]⟩ : ByteArray) true _ A8.out).mono ?_); rintro e w' ⟨rfl, ⟨nd, rfl⟩⟩; refine ⟨_, rfl, ?_⟩) | ((with_reducible refine gate_callee (f := 51) rfl ?_); refine goesL_ (some 23) rfl rfl Tryd.func51 (by kernel_rfl) rfl #[.string a0, .int .i64 (wrap64 ((ji5) + 2))] rfl qDoor5_2 ?_; (with_reducible refine (lexis_own.calls k a0 (wrap64 ((ji5) + 2)) t110 _ A10.out).mono ?_); rintro e w' ⟨rfl, ⟨nd, rfl⟩⟩; refine ⟨_, rfl, ?_⟩) | ((with_reducible refine gate_callee (f := 53) rfl ?_); refine goesL_ (some 36) rfl rfl Tryd.func53 (by kernel_rfl) rfl #[.string (a0.extract ((ji12) : Int).toNat a0.size)] rfl (by (try simp only [List.map_toArray, List.map_cons, List.map_nil]); first | done | (simp only [hji12]; rfl) | rfl | (simp only [List.length_drop, List.length_take]; rfl)) ?_; (with_reducible refine (lexis_numbered.calls k (a0.extract ((ji12) : Int).toNat a0.size) t111 _ A15.out).mono ?_); rintro e w' ⟨rfl, ⟨nd, rfl⟩⟩; refine ⟨_, rfl, ?_⟩))
        go_ret
        exact ⟨by first | rfl | (simp; done) | (simp only [← hji5, ← hji12] <;> (first | rfl | simp)) | (simp [*]; done), qDoor5_1⟩
       ·rw [if_neg c14] at H
        exact absurd H (by simp)
      ·rw [if_neg c13] at H
       exact absurd H (by simp)
     ·rw [if_neg c11] at H
      have c11b0 : decide (0 < t110) = false := decide_eq_false c11
      clear c11
      have c16b0 := eq_true (of_decide_eq_true qDoor5_0 : 0 ≤ (ji5))
      have c17b0 := eq_true (of_decide_eq_true qDoor5_0 : (ji5) ≤ (a0.size : Int))
      replace H := Option.bind_eq_some_iff.mp H
      obtain ⟨t112, A180, H⟩ := H
      replace H : (some (wrap64 (t108 + t112))) = some r := H
      have A18 := aK A180; clear A180
      obtain rfl := Option.some.inj H
      go_enter Tryd.func32, Tryd.ntmps32
      go_wp2_with (first | ((with_reducible refine gate_callee (f := 51) rfl ?_); refine goesL_ (some 9) rfl rfl Tryd.func51 (by kernel_rfl) rfl #[.string a0, .int .i64 a1] rfl qDoor5_4 ?_; (with_reducible refine (lexis_own.calls k a0 a1 t108 _ A3.out).mono ?_); rintro e w' ⟨rfl, ⟨nd, rfl⟩⟩; refine ⟨_, rfl, ?_⟩) | ((with_reducible refine gate_callee (f := 52) rfl ?_); refine goesL_ (some 17) rfl rfl Tryd.func52 (by kernel_rfl) rfl #[.string (a0.extract ((ji5) : Int).toNat a0.size), .string (⟨#[58, 58]⟩ : ByteArray)] rfl qDoor5_2 ?_; (with_reducible refine (strings_HasPrefix.calls (a0.extract ((ji5) : Int).toNat a0.size) (⟨#[58, 58]⟩ : ByteArray) true _ A8.out).mono ?_); rintro e w' ⟨rfl, ⟨nd, rfl⟩⟩; refine ⟨_, rfl, ?_⟩) | ((with_reducible refine gate_callee (f := 51) rfl ?_); refine goesL_ (some 23) rfl rfl Tryd.func51 (by kernel_rfl) rfl #[.string a0, .int .i64 (wrap64 ((ji5) + 2))] rfl qDoor5_2 ?_; (with_reducible refine (lexis_own.calls k a0 (wrap64 ((ji5) + 2)) t110 _ A10.out).mono ?_); rintro e w' ⟨rfl, ⟨nd, rfl⟩⟩; refine ⟨_, rfl, ?_⟩) | ((with_reducible refine gate_callee (f := 53) rfl ?_); refine goesL_ (some 36) rfl rfl Tryd.func53 (by kernel_rfl) rfl #[.string (a0.extract ((ji5) : Int).toNat a0.size)] rfl qDoor5_2 ?_; (with_reducible refine (lexis_numbered.calls k (a0.extract ((ji5) : Int).toNat a0.size) t112 _ A18.out).mono ?_); rintro e w' ⟨rfl, ⟨nd, rfl⟩⟩; refine ⟨_, rfl, ?_⟩))
      go_ret
      exact ⟨qDoor5_5, qDoor5_1⟩
    ·replace c9 := Bool.eq_false_iff.mpr c9
     subst c9
     have H1 : ((lexis_numbered.f k (a0.extract ((ji5) : Int).toNat a0.size)).bind fun t113 => (some (wrap64 (t108 + t113)))) = some r := by rw [if_neg (show ¬ (false = true) by decide)] at H; exact H
     clear H
     have H := H1
     clear H1
     have c19b0 := eq_true (of_decide_eq_true qDoor5_0 : 0 ≤ (ji5))
     have c20b0 := eq_true (of_decide_eq_true qDoor5_0 : (ji5) ≤ (a0.size : Int))
     replace H := Option.bind_eq_some_iff.mp H
     obtain ⟨t113, A210, H⟩ := H
     replace H : (some (wrap64 (t108 + t113))) = some r := H
     have A21 := aK A210; clear A210
     obtain rfl := Option.some.inj H
     go_enter Tryd.func32, Tryd.ntmps32
     go_wp2_with (first | ((with_reducible refine gate_callee (f := 51) rfl ?_); refine goesL_ (some 9) rfl rfl Tryd.func51 (by kernel_rfl) rfl #[.string a0, .int .i64 a1] rfl qDoor5_4 ?_; (with_reducible refine (lexis_own.calls k a0 a1 t108 _ A3.out).mono ?_); rintro e w' ⟨rfl, ⟨nd, rfl⟩⟩; refine ⟨_, rfl, ?_⟩) | ((with_reducible refine gate_callee (f := 52) rfl ?_); refine goesL_ (some 17) rfl rfl Tryd.func52 (by kernel_rfl) rfl #[.string (a0.extract ((ji5) : Int).toNat a0.size), .string (⟨#[58, 58]⟩ : ByteArray)] rfl qDoor5_2 ?_; (with_reducible refine (strings_HasPrefix.calls (a0.extract ((ji5) : Int).toNat a0.size) (⟨#[58, 58]⟩ : ByteArray) false _ A8.out).mono ?_); rintro e w' ⟨rfl, ⟨nd, rfl⟩⟩; refine ⟨_, rfl, ?_⟩) | ((with_reducible refine gate_callee (f := 53) rfl ?_); refine goesL_ (some 36) rfl rfl Tryd.func53 (by kernel_rfl) rfl #[.string (a0.extract ((ji5) : Int).toNat a0.size)] rfl qDoor5_2 ?_; (with_reducible refine (lexis_numbered.calls k (a0.extract ((ji5) : Int).toNat a0.size) t113 _ A21.out).mono ?_); rintro e w' ⟨rfl, ⟨nd, rfl⟩⟩; refine ⟨_, rfl, ?_⟩))
     go_ret
     exact ⟨qDoor5_5, qDoor5_1⟩
   ·rw [if_neg c7] at H
    exact absurd H (by simp)
  ·rw [if_neg c6] at H
   exact absurd H (by simp)
def lexis_Name.f (k : Nat) (a0 : ByteArray) : Option (Bool) := if a0.toList = ([] : List UInt8) then (some false) else (if (a0.size : Int) ≤ 64 then ((lexis_named.f k a0 0).bind fun t114 => (some (t114 == (a0.size : Int)))) else (some false))
theorem lexis_Name.mono : ∀ a0 k, LeO (lexis_Name.f k a0) (lexis_Name.f (k + 1) a0) := by
 intro a0 k
 unfold lexis_Name.f
 repeat' first
   | (with_reducible exact lexis_named.mono _ _ _)
   | (with_reducible exact LeO.refl _)
   | (with_reducible exact LeO.none _)
   | (with_reducible refine LeO.ite ?_ ?_)
   | (with_reducible refine LeO.bind ?_ (fun _ => ?_))
   | exact lexis_named.mono _ _ _
   | exact LeO.none _
   | refine LeO.ite ?_ ?_
   | refine LeO.bind ?_ (fun _ => ?_)
set_option maxHeartbeats 8000000 in
set_option maxRecDepth 100000 in
theorem lexis_Name.calls (k : Nat) (a0 : ByteArray) (r : Bool) (w : World) (h : lexis_Name.f k a0 = some r) :
  Calls Tryd.prog 19 #[.string a0] w fun e w' => e = .returned (.bool r) ∧ Drawn0 w w' := by
 have H : (if a0.toList = ([] : List UInt8) then (some false) else (if (a0.size : Int) ≤ 64 then ((lexis_named.f k a0 0).bind fun t114 => (some (t114 == (a0.size : Int)))) else (some false))) = some r := h
 clear h
 by_cases c2 : a0.toList = ([] : List UInt8)
 ·rw [if_pos c2] at H
  have c2b0 : (a0.toList == ([] : List UInt8)) = true := beq_iff_eq.mpr c2
  have c2b1 : (a0.toList != ([] : List UInt8)) = false := bne_eq_false_iff_eq.mpr c2
  clear c2
  obtain rfl := Option.some.inj H
  go_enter Tryd.func19, Tryd.ntmps19
  go_wp2
  go_ret
  exact ⟨qDoor5_3, qDoor5_1⟩
 ·rw [if_neg c2] at H
  have c2b0 : (a0.toList == ([] : List UInt8)) = false := beq_eq_false_iff_ne.mpr c2
  have c2b1 : (a0.toList != ([] : List UInt8)) = true := bne_iff_ne.mpr c2
  by_cases c3 : (a0.size : Int) ≤ 64
  ·rw [if_pos c3] at H
   have c3b0 : decide ((a0.size : Int) ≤ 64) = true := decide_eq_true c3
   have c3b1 : decide (a0.size ≤ 64) = true := decide_eq_true (by omega)
   clear c3
   replace H := Option.bind_eq_some_iff.mp H
   obtain ⟨t114, A40, H⟩ := H
   replace H : (some (t114 == (a0.size : Int))) = some r := H
   have A4 := aK A40; clear A40
   obtain rfl := Option.some.inj H
   go_enter Tryd.func19, Tryd.ntmps19
   go_wp2_with (first | (go_at_call 32; (with_reducible refine (lexis_named.calls k a0 0 t114 _ A4.out).mono ?_); rintro e w' ⟨rfl, ⟨nd, rfl⟩⟩))
   go_ret
   exact ⟨qDoor5_3, qDoor5_1⟩
  ·rw [if_neg c3] at H
   have c3b0 : decide ((a0.size : Int) ≤ 64) = false := decide_eq_false c3
   have c3b1 : decide (a0.size ≤ 64) = false := decide_eq_false (by omega)
   clear c3
   obtain rfl := Option.some.inj H
   go_enter Tryd.func19, Tryd.ntmps19
   go_wp2
   go_ret
   exact ⟨qDoor5_3, qDoor5_1⟩
def script_own.l0 : Nat → ByteArray → Int → Option (Bool)
 | 0, _, _ => none
 | k + 1, x0, x3 => if x3 < (x0.size : Int) then (if 0 ≤ x3 then (if (bt x0 x3) = 58 then (some false) else (if (bt x0 x3) = 126 then (some false) else (script_own.l0 k x0 (wrap64 (x3 + 1))))) else (none)) else ((lexis_Name.f k x0).bind fun t115 => (some t115))
def script_own.f (k : Nat) (a0 : ByteArray) : Option (Bool) := script_own.l0 k a0 0
theorem script_own.mono_l : ∀ k, (∀ y0 y1, LeO (script_own.l0 k y0 y1) (script_own.l0 (k + 1) y0 y1))
 | 0 => fun _ _ r h => by simp [script_own.l0] at h
 | k + 1 => by
  have ih0 := script_own.mono_l k
  ·intro y0 y1
   unfold script_own.l0
   repeat' first
   | (with_reducible exact ih0 _ _)
   | (with_reducible exact lexis_Name.mono _ _)
   | (with_reducible exact LeO.refl _)
   | (with_reducible exact LeO.none _)
   | (with_reducible refine LeO.ite ?_ ?_)
   | (with_reducible refine LeO.bind ?_ (fun _ => ?_))
   | exact ih0 _ _
   | exact lexis_Name.mono _ _
   | exact LeO.none _
   | refine LeO.ite ?_ ?_
   | refine LeO.bind ?_ (fun _ => ?_)
theorem script_own.mono : ∀ a0 k, LeO (script_own.f k a0) (script_own.f (k + 1) a0) := by
 intro a0 k
 have ih0 := script_own.mono_l k
 unfold script_own.f
 repeat' first
   | (with_reducible exact ih0 _ _)
   | (with_reducible exact lexis_Name.mono _ _)
   | (with_reducible exact LeO.refl _)
   | (with_reducible exact LeO.none _)
   | (with_reducible refine LeO.ite ?_ ?_)
   | (with_reducible refine LeO.bind ?_ (fun _ => ?_))
   | exact ih0 _ _
   | exact lexis_Name.mono _ _
   | exact LeO.none _
   | refine LeO.ite ?_ ?_
   | refine LeO.bind ?_ (fun _ => ?_)
set_option maxHeartbeats 8000000 in
set_option maxRecDepth 100000 in
theorem script_own.calls (k : Nat) (a0 : ByteArray) (r : Bool) (w : World) (h : script_own.f k a0 = some r) :
  Calls Tryd.prog 26 #[.string a0] w fun e w' => e = .returned (.bool r) ∧ Drawn0 w w' := by
 have H : (script_own.l0 k a0 0) = some r := h
 clear h
 have H' := aK H
 clear H
 go_enter Tryd.func26, Tryd.ntmps26
 go_wp2
 go_loopg [3] k (fun kq v3 w' => ∃ (x3_1 : Int), v3 = .int .i64 x3_1 ∧ Aside0 (script_own.l0 kq a0 x3_1 = some r) ∧ Aside0 (kq ≤ k) ∧ Drawn0 w w')
 case atStart => exact ⟨(0), qDoor5_3, H', ⟨Nat.le_refl _⟩, qDoor5_1⟩
 case round =>
  clear H'
  obtain ⟨x3_1, rfl, HA, HK1, ⟨m1, rfl⟩⟩ := hrel
  cases gk with
  | zero => exact absurd HA.out (by simp [script_own.l0])
  | succ k1 =>
   have H := HA.out
   clear HA
   simp only [script_own.l0] at H
   by_cases c2 : x3_1 < (a0.size : Int)
   ·rw [if_pos c2] at H
    have c2b0 : decide (x3_1 < (a0.size : Int)) = true := decide_eq_true c2
    clear c2
    by_cases c3 : 0 ≤ x3_1
    ·rw [if_pos c3] at H
     have c3b0 : decide (0 ≤ x3_1) = true := decide_eq_true c3
     clear c3
     by_cases c5 : (bt a0 x3_1) = 58
     ·rw [if_pos c5] at H
      have c5b0 : ((bt a0 x3_1) == 58) = true := beq_iff_eq.mpr c5
      have c5b1 : ((bt a0 x3_1) != 58) = false := bne_eq_false_iff_eq.mpr c5
      clear c5
      obtain rfl := Option.some.inj H
      have p4 : 0 ≤ (x3_1 : Int) := of_decide_eq_true qDoor5_0
      have q4 : x3_1 < (a0.size : Int) := of_decide_eq_true qDoor5_0
      have hx4 := bt_at a0 x3_1
      replace p4 := eq_true p4
      replace q4 := eq_true q4
      go_wp2
      go_ret
      exact ⟨qDoor5_3, qDoor5_1⟩
     ·rw [if_neg c5] at H
      have c5b0 : ((bt a0 x3_1) == 58) = false := beq_eq_false_iff_ne.mpr c5
      have c5b1 : ((bt a0 x3_1) != 58) = true := bne_iff_ne.mpr c5
      by_cases c7 : (bt a0 x3_1) = 126
      ·rw [if_pos c7] at H
       have c7b0 : ((bt a0 x3_1) == 126) = true := beq_iff_eq.mpr c7
       have c7b1 : ((bt a0 x3_1) != 126) = false := bne_eq_false_iff_eq.mpr c7
       clear c7
       obtain rfl := Option.some.inj H
       have p4 : 0 ≤ (x3_1 : Int) := of_decide_eq_true qDoor5_0
       have q4 : x3_1 < (a0.size : Int) := of_decide_eq_true qDoor5_0
       have hx4 := bt_at a0 x3_1
       replace p4 := eq_true p4
       replace q4 := eq_true q4
       have p6 : 0 ≤ (x3_1 : Int) := of_decide_eq_true qDoor5_0
       have q6 : x3_1 < (a0.size : Int) := of_decide_eq_true qDoor5_0
       have hx6 := bt_at a0 x3_1
       replace p6 := eq_true p6
       replace q6 := eq_true q6
       go_wp2
       go_ret
       exact ⟨qDoor5_3, qDoor5_1⟩
      ·rw [if_neg c7] at H
       have c7b0 : ((bt a0 x3_1) == 126) = false := beq_eq_false_iff_ne.mpr c7
       have c7b1 : ((bt a0 x3_1) != 126) = true := bne_iff_ne.mpr c7
       have H' := aK H
       clear H
       have p4 : 0 ≤ (x3_1 : Int) := of_decide_eq_true qDoor5_0
       have q4 : x3_1 < (a0.size : Int) := of_decide_eq_true qDoor5_0
       have hx4 := bt_at a0 x3_1
       replace p4 := eq_true p4
       replace q4 := eq_true q4
       have p6 : 0 ≤ (x3_1 : Int) := of_decide_eq_true qDoor5_0
       have q6 : x3_1 < (a0.size : Int) := of_decide_eq_true qDoor5_0
       have hx6 := bt_at a0 x3_1
       replace p6 := eq_true p6
       replace q6 := eq_true q6
       go_wp2
       go_roundg k1
       case measure => have := HK1.out; omega
       case rel => exact ⟨(wrap64 (x3_1 + 1)), qDoor5_3, H', ⟨by have := HK1.out; omega⟩, qDoor5_1⟩
    ·rw [if_neg c3] at H
     exact absurd H (by simp)
   ·rw [if_neg c2] at H
    have c2b0 : decide (x3_1 < (a0.size : Int)) = false := decide_eq_false c2
    clear c2
    replace H := Option.bind_eq_some_iff.mp H
    obtain ⟨t115, A80, H⟩ := H
    replace H : (some t115) = some r := H
    have A8 := aK A80; clear A80
    obtain rfl := Option.some.inj H
    go_wp2_with (first | ((with_reducible refine gate_callee (f := 19) rfl ?_); refine goesL_ (some 21) rfl rfl Tryd.func19 (by kernel_rfl) rfl #[.string a0] rfl qDoor5_4 ?_; (with_reducible refine (lexis_Name.calls k1 a0 t115 _ A8.out).mono ?_); rintro e w' ⟨rfl, ⟨nd, rfl⟩⟩; refine ⟨_, rfl, ?_⟩))
    go_ret
    exact ⟨qDoor5_3, qDoor5_1⟩
end Go.Proofs.YtihiicjnjhideaaDoor.PAll
end
section
namespace Go.Proofs.YtihiicjnjhideaaDoor.Names
open Go.RowKit Go.Proofs.YtihiicjnjhideaaDoorW.PrintWords Go.Proofs.YtihiicjnjhideaaDoor.PAll
set_option linter.unusedVariables false
theorem w64n (a b : Nat) (h : a + b ≤ 140737488351232) : wrap64 ((a : Int) + (b : Int)) = ((a + b : Nat) : Int) := by
 rw [w64] <;> omega
theorem lletter_some (a : Int) : lexis_letter.f a = some (letterI a) := by
 unfold lexis_letter.f letterI
 by_cases h1 : 97 ≤ a <;> by_cases h2 : a ≤ 122 <;> by_cases h3 : 65 ≤ a <;> by_cases h4 : a ≤ 90 <;> simp [h1, h2, h3, h4]
theorem ldigit_some (a : Int) : lexis_digit.f a = some (digitI a) := by
 unfold lexis_digit.f digitI
 by_cases h1 : 48 ≤ a <;> simp [h1]
theorem extract_list (s : ByteArray) (a : Nat) : (s.extract a s.size).data.toList = s.data.toList.drop a := by
 rw [ByteArray.data_extract, Array.toList_extract, size_list, List.extract_eq_take_drop]
 exact List.take_of_length_le (by rw [List.length_drop]; exact Nat.le_refl _)
theorem extract_front (s : ByteArray) (b : Nat) : (s.extract 0 b).data.toList = s.data.toList.take b := by
 rw [ByteArray.data_extract, Array.toList_extract]
 simp [List.extract]
/-- The loop of lexis.own, j bytes behind place i. -/
theorem lown_loop (s : ByteArray) (hs : s.data.toList.length ≤ 140737488351232) (i : Nat) (hi : i ≤ s.data.toList.length) : ∀ (d j : Nat), i + j + d = s.data.toList.length →
  Ev (fun k => lexis_own.l0 k s (i : Int) (j : Int)) (if j = 0 then (ownLen (s.data.toList.drop (i + j)) : Int) else ((j + run inName (s.data.toList.drop (i + j)) : Nat) : Int)) := by
 intro d
 induction d with
 | zero =>
  intro j hj
  refine Ev.step (fun _ => by rw [lexis_own.l0]) ?_
  have hw0 : wrap64 ((i : Int) + (j : Int)) = ((i + j : Nat) : Int) := by rw [w64] <;> omega
  rw [hw0]
  refine Ev.neg (by rw [size_list]; omega) ?_
  exact Ev.some_ (by rw [List.drop_of_length_le (by omega)]; simp [run, ownLen])
 | succ d ih =>
  intro j hj
  have hlt : i + j < s.data.toList.length := by omega
  refine Ev.step (fun _ => by rw [lexis_own.l0]) ?_
  have hw0 : wrap64 ((i : Int) + (j : Int)) = ((i + j : Nat) : Int) := by rw [w64] <;> omega
  have hw : wrap64 ((j : Int) + 1) = ((j + 1 : Nat) : Int) := by rw [w64] <;> omega
  rw [hw0, hw]
  refine Ev.pos (by rw [size_list]; omega) ?_
  refine Ev.pos (by omega) ?_
  refine Ev.bind (Ev.const (lletter_some _)) ?_
  have hn := ih (j + 1) (by omega)
  rw [if_neg (by omega), show i + (j + 1) = i + j + 1 by omega] at hn
  rw [bt_nat s (i + j) hlt, drop_at hlt]
  generalize s.data.toList[i + j] = c
  have hin : inName c = (letterI c.toNat || digitI c.toNat) := rfl
  have hc : letter c = letterI c.toNat := rfl
  refine Ev.ite (fun h => ?_) (fun h => ?_)
  ·refine hn.to ?_
   rw [ownLen, run, hin, hc, h]
   simp
   split <;> omega
  ·refine Ev.ite (fun h0 => ?_) (fun h0 => ?_)
   ·refine Ev.bind (Ev.const (ldigit_some _)) ?_
    refine Ev.ite (fun h' => ?_) (fun h' => ?_)
    ·exact hn.to (by rw [if_neg (by omega), run, hin, h', if_pos (by simp)]; omega)
    ·exact Ev.some_ (by rw [if_neg (by omega), run, hin, if_neg (by simp [h, h'])]; rfl)
   ·exact Ev.some_ (by rw [if_pos (by omega), ownLen, hc, if_neg h]; omega)
theorem lown_ev (s : ByteArray) (hs : s.data.toList.length ≤ 140737488351232) (i : Nat) (hi : i ≤ s.data.toList.length) : Ev (fun k => lexis_own.f k s (i : Int)) (ownLen (s.data.toList.drop i) : Int) := by
 have := lown_loop s hs i hi (s.data.toList.length - i) 0 (by omega)
 rw [if_pos rfl] at this
 exact this
theorem ldigits_ev (s : ByteArray) (hs : s.data.toList.length ≤ 140737488351232) (r : List UInt8) (c0 : UInt8) (hr : s.data.toList = c0 :: r) (v : Int) (hv : ∀ e : Int, e = ((1 + run digit r : Nat) : Int) → Ev (fun k => if e = 1 then some 0 else if e > 6 then some 0 else if 1 < (s.size : Int) then (if bt s 1 = 48 then some 0 else some e) else none) v) : ∀ (d i : Nat), i + d = s.data.toList.length → 1 ≤ i → i + run digit (s.data.toList.drop i) = 1 + run digit r →
  Ev (fun k => lexis_numbered.l0 k s (i : Int)) v := by
 intro d
 induction d with
 | zero =>
  intro i hi h1 he
  refine Ev.step (fun _ => by rw [lexis_numbered.l0]) ?_
  refine Ev.neg (by rw [size_list]; omega) ?_
  rw [List.drop_of_length_le (by omega)] at he
  exact hv _ (by simp [run] at he; omega)
 | succ d ih =>
  intro i hi h1 he
  have hlt : i < s.data.toList.length := by omega
  refine Ev.step (fun _ => by rw [lexis_numbered.l0]) ?_
  refine Ev.pos (by rw [size_list]; omega) ?_
  refine Ev.pos (by omega) ?_
  refine Ev.bind (Ev.const (ldigit_some _)) ?_
  have hw : wrap64 ((i : Int) + 1) = ((i + 1 : Nat) : Int) := by rw [w64] <;> omega
  have hn := ih (i + 1) (by omega) (by omega)
  rw [hw, bt_nat s i hlt]
  rw [drop_at hlt] at he
  generalize s.data.toList[i] = c at *
  have hin : digit c = digitI c.toNat := rfl
  refine Ev.ite (fun h => ?_) (fun h => ?_)
  ·refine hn ?_
   rw [run, hin, h, if_pos rfl] at he
   omega
  ·refine hv _ ?_
   rw [run, hin, if_neg h] at he
   omega
theorem lnumbered_ev (s : ByteArray) (hs : s.data.toList.length ≤ 140737488351232) : Ev (fun k => lexis_numbered.f k s) (tilde s.data.toList : Int) := by
 unfold lexis_numbered.f
 rw [ByteArray.toList_eq]
 refine Ev.ite (fun h => ?_) (fun h => ?_)
 ·refine Ev.step (fun _ => by rw [lexis_numbered.j0]) ?_
  exact Ev.pos rfl (Ev.some_ (by rw [h]; rfl))
 ·have h0 : 0 < s.data.toList.length := by
   cases hl : s.data.toList with
   | nil => exact absurd hl h
   | cons a b => simp
  refine Ev.pos (by rw [size_list]; omega) ?_
  refine Ev.step (fun _ => by rw [lexis_numbered.j0]) ?_
  have hc : ∃ c r, s.data.toList = c :: r := by
   cases hl : s.data.toList with
   | nil => exact absurd hl h
   | cons a b => exact ⟨a, b, rfl⟩
  obtain ⟨c, r, hr⟩ := hc
  have hb0 : bt s 0 = (c.toNat : Int) := by
   have := bt_nat s 0 h0
   rw [show ((0 : Nat) : Int) = 0 from rfl] at this
   rw [this]
   simp [hr]
  rw [hb0]
  have e126 : ((c.toNat : Int) != 126) = (c != 126) := by
   rw [bne, bne, beq126]
  rw [e126]
  refine Ev.ite (fun h1 => ?_) (fun h1 => ?_)
  ·have h1' : c ≠ 126 := by simpa using h1
   refine Ev.some_ ?_
   rw [hr]
   have : tilde (c :: r) = 0 := by
    unfold tilde
    split
    ·rename_i heq
     injection heq with h2 _
     exact absurd h2 h1'
    ·rfl
   rw [this]
   rfl
  ·have h1' : c = 126 := by simpa using h1
   subst h1'
   have hlen : s.data.toList.length = r.length + 1 := by rw [hr, List.length_cons]
   refine ldigits_ev s hs r 126 hr _ (fun e he => ?_) (s.data.toList.length - 1) 1 (by omega) (by omega) (by rw [hr]; rfl)
   rw [hr, tilde_126]
   refine Ev.ite (fun h2 => Ev.some_ (by rw [if_pos (.inl (by omega))]; rfl)) (fun h2 => ?_)
   refine Ev.ite (fun h3 => Ev.some_ (by rw [if_pos (.inr (.inl (by omega)))]; rfl)) (fun h3 => ?_)
   have hne : run digit r ≠ 0 := by omega
   have hl1 : 1 < s.data.toList.length := by
    cases r with
    | nil => exact absurd rfl hne
    | cons a b => rw [hlen]; simp
   refine Ev.pos (by rw [size_list]; omega) ?_
   have hb1 := bt_nat s 1 hl1
   rw [show ((1 : Nat) : Int) = 1 from rfl] at hb1
   rw [hb1]
   have hh : r.head? = some s.data.toList[1] := by
    cases r with
    | nil => exact absurd rfl hne
    | cons a b => simp [hr]
   rw [hh]
   generalize s.data.toList[1] = q
   refine Ev.ite (fun h4 => Ev.some_ (by rw [if_pos (.inr (.inr (by rw [(@byte_eq q 48 (by omega)).1 h4]; rfl)))]; rfl)) (fun h4 => ?_)
   have h4' : ¬ q = 48 := fun h => h4 ((@byte_eq q 48 (by omega)).2 h)
   exact Ev.some_ (by rw [if_neg (by rintro (h | h | h); exact hne h; omega; exact h4' (Option.some.inj h))]; omega)
theorem hasPrefix_some (a0 a1 : ByteArray) : strings_HasPrefix.f a0 a1 = some (a1.data.toList.isPrefixOf a0.data.toList) := by
 unfold strings_HasPrefix.f stringslite_HasPrefix.f
 have key : a1.data.toList.isPrefixOf a0.data.toList = (decide (a1.size ≤ a0.size) && (a0.data.toList.take a1.size == a1.data.toList)) := by
  rw [Bool.eq_iff_iff, List.isPrefixOf_iff_prefix]
  simp only [Bool.and_eq_true, decide_eq_true_eq, beq_iff_eq]
  rw [size_list, size_list]
  constructor
  ·intro h
   exact ⟨h.length_le, (List.prefix_iff_eq_take.1 h).symm⟩
  ·rintro ⟨_, h⟩
   rw [← h]
   exact List.take_prefix _ _
 rw [key]
 by_cases h : a1.size ≤ a0.size
 ·rw [if_pos (by omega), if_pos (by omega), if_pos (by omega), Option.bind_some, Int.toNat_natCast, ByteArray.toList_eq, ByteArray.toList_eq, extract_front, decide_eq_true h, Bool.true_and]
 ·rw [if_neg (by omega), Option.bind_some, decide_eq_false h, Bool.false_and]
theorem more_of (r : List UInt8) : ([58, 58] : List UInt8).isPrefixOf r = true → ∃ r', r = 58 :: 58 :: r' := by
 intro h
 obtain ⟨t, rfl⟩ := List.isPrefixOf_iff_prefix.1 h
 exact ⟨t, rfl⟩
theorem more_not (r : List UInt8) (h : ¬ ([58, 58] : List UInt8).isPrefixOf r = true) : more r = 0 := by
 unfold more
 split
 ·exact absurd (by simp [List.isPrefixOf]) h
 ·rfl
theorem lnamed_ev (s : ByteArray) (hs : s.data.toList.length ≤ 140737488351232) (i : Nat) (hi : i ≤ s.data.toList.length) : Ev (fun k => lexis_named.f k s (i : Int)) (namedLen (s.data.toList.drop i) : Int) := by
 unfold lexis_named.f
 refine Ev.bind (lown_ev s hs i hi) ?_
 have hle := ownLen_le (s.data.toList.drop i)
 rw [List.length_drop] at hle
 refine Ev.ite (fun h => Ev.some_ (by rw [namedLen, if_pos (by omega)]; rfl)) (fun h => ?_)
 have h0 : ownLen (s.data.toList.drop i) ≠ 0 := by omega
 have hnl : namedLen (s.data.toList.drop i) = (ownLen (s.data.toList.drop i) + more (s.data.toList.drop (i + ownLen (s.data.toList.drop i)))) + tilde (s.data.toList.drop (i + (ownLen (s.data.toList.drop i) + more (s.data.toList.drop (i + ownLen (s.data.toList.drop i)))))) := by
  rw [namedLen, if_neg h0]
  simp only [List.drop_drop]
 rw [hnl]
 clear hnl h
 generalize ownLen (s.data.toList.drop i) = n at *
 have hw : wrap64 ((i : Int) + (n : Int)) = ((i + n : Nat) : Int) := by rw [w64] <;> omega
 rw [hw]
 refine Ev.pos (by omega) ?_
 refine Ev.pos (by rw [size_list]; omega) ?_
 rw [Int.toNat_natCast]
 have num : ∀ q : Nat, q ≤ s.data.toList.length → Ev (fun k => lexis_numbered.f k (s.extract q s.size)) (tilde (s.data.toList.drop q) : Int) := by
  intro q hq
  have := lnumbered_ev (s.extract q s.size) (by rw [extract_list, List.length_drop]; omega)
  rwa [extract_list] at this
 have tl : ∀ q : Nat, tilde (s.data.toList.drop q) ≤ 140737488351232 := fun q => by
  have := tilde_le (s.data.toList.drop q)
  rw [List.length_drop] at this
  omega
 have flat : more (s.data.toList.drop (i + n)) = 0 → Ev (fun k => (lexis_numbered.f k (s.extract (i + n) s.size)).bind fun t => some (wrap64 ((n : Int) + t))) (((n + more (s.data.toList.drop (i + n))) + tilde (s.data.toList.drop (i + (n + more (s.data.toList.drop (i + n))))) : Nat) : Int) := by
  intro hm
  rw [hm, Nat.add_zero]
  refine Ev.bind (num (i + n) (by omega)) (Ev.some_ ?_)
  have := tl (i + n)
  rw [w64] <;> omega
 refine Ev.bind (Ev.const (hasPrefix_some _ _)) ?_
 rw [extract_list]
 refine Ev.ite (fun h1 => ?_) (fun h1 => flat (more_not _ h1))
 obtain ⟨r, hr⟩ := more_of _ h1
 have hl : i + n + 2 ≤ s.data.toList.length := by
  have := congrArg List.length hr
  simp only [List.length_drop, List.length_cons] at this
  omega
 have hw2 : wrap64 (((i + n : Nat) : Int) + 2) = ((i + n + 2 : Nat) : Int) := by rw [w64] <;> omega
 rw [hw2]
 have hr2 : s.data.toList.drop (i + n + 2) = r := by rw [← List.drop_drop, hr]; rfl
 have ho := lown_ev s hs (i + n + 2) hl
 rw [hr2] at ho
 have hle2 := ownLen_le r
 have hrl : r.length = s.data.toList.length - (i + n + 2) := by rw [← hr2, List.length_drop]
 have hm : more (s.data.toList.drop (i + n)) = if ownLen r = 0 then 0 else ownLen r + 2 := by rw [hr, more]
 refine Ev.bind ho ?_
 refine Ev.ite (fun h2 => ?_) (fun h2 => flat (by rw [hm, if_pos (by omega)]))
 rw [hm, if_neg (by omega)]
 generalize ownLen r = m at *
 have e0 : wrap64 (2 + (m : Int)) = ((m + 2 : Nat) : Int) := by rw [w64] <;> omega
 have hbnd : i + (n + (m + 2)) ≤ s.data.toList.length := by clear hm ho; omega
 have e1 : wrap64 ((n : Int) + ((m + 2 : Nat) : Int)) = ((n + (m + 2) : Nat) : Int) := w64n _ _ (by clear hm ho; omega)
 have e2 : wrap64 ((i : Int) + ((n + (m + 2) : Nat) : Int)) = ((i + (n + (m + 2)) : Nat) : Int) := w64n _ _ (by clear hm ho; omega)
 rw [e0, e1, e2]
 clear hm ho hr hr2 hw2 hw e0 e1 e2 hle hrl hle2 h2 flat h1
 refine Ev.pos (Int.natCast_nonneg _) ?_
 refine Ev.pos (by rw [size_list]; exact Int.ofNat_le.2 hbnd) ?_
 rw [Int.toNat_natCast]
 refine Ev.bind (num (i + (n + (m + 2))) hbnd) (Ev.some_ ?_)
 have ht := tilde_le (s.data.toList.drop (i + (n + (m + 2))))
 rw [List.length_drop] at ht
 exact w64n _ _ (by omega)
theorem lexName_ev (s : ByteArray) (hs : s.size ≤ 140737488351232) : Ev (fun k => lexis_Name.f k s) (isName s.data.toList) := by
 rw [size_list] at hs
 unfold lexis_Name.f isName
 rw [ByteArray.toList_eq, size_list]
 refine Ev.ite (fun h => ?_) (fun h => ?_)
 ·exact Ev.some_ (by simp [h])
 ·refine Ev.ite (fun h1 => ?_) (fun h1 => ?_)
  ·refine Ev.bind (lnamed_ev s hs 0 (Nat.zero_le _)) ?_
   refine Ev.some_ ?_
   rw [List.drop_zero, Bool.eq_iff_iff, beq_iff_eq]
   simp only [Bool.and_eq_true, decide_eq_true_eq]
   constructor
   ·intro h2
    exact ⟨⟨h, by omega⟩, by omega⟩
   ·intro h2
    omega
  ·refine Ev.some_ ?_
   rw [decide_eq_false (show ¬ s.data.toList.length ≤ 64 by omega), Bool.and_false, Bool.false_and]
end Go.Proofs.YtihiicjnjhideaaDoor.Names
end
section
namespace Go.Proofs.YtihiicjnjhideaaDoor.Build
open Go.RowKit Go.Proofs.YtihiicjnjhideaaDoorW.PrintWords Go.Proofs.YtihiicjnjhideaaDoor.PAll Go.Proofs.YtihiicjnjhideaaDoor.Names
set_option linter.unusedVariables false
def okName (s : ByteArray) : Bool := isOwn s.data.toList && isName s.data.toList
theorem sown_loop (s : ByteArray) (hs : s.size ≤ 140737488351232) : ∀ (d i : Nat), i + d = s.data.toList.length → Ev (fun k => script_own.l0 k s (i : Int)) (isOwn (s.data.toList.drop i) && isName s.data.toList) := by
 intro d
 have hs' := hs
 rw [size_list] at hs'
 induction d with
 | zero =>
  intro i hi
  refine Ev.step (fun _ => by rw [script_own.l0]) ?_
  refine Ev.neg (by rw [size_list]; omega) ?_
  refine Ev.bind (lexName_ev s hs) ?_
  exact Ev.some_ (by rw [List.drop_of_length_le (by omega)]; simp [isOwn])
 | succ d ih =>
  intro i hi
  have hlt : i < s.data.toList.length := by omega
  refine Ev.step (fun _ => by rw [script_own.l0]) ?_
  refine Ev.pos (by rw [size_list]; omega) ?_
  refine Ev.pos (by omega) ?_
  have hw : wrap64 ((i : Int) + 1) = ((i + 1 : Nat) : Int) := by rw [w64] <;> omega
  have hn := ih (i + 1) (by omega)
  rw [bt_nat s i hlt, hw, drop_at hlt]
  generalize s.data.toList[i] = c at *
  refine Ev.ite (fun h => ?_) (fun h => ?_)
  ·have hc : c = 58 := (@byte_eq c 58 (by omega)).1 h
   exact Ev.some_ (by simp [isOwn, hc])
  ·have hc : c ≠ 58 := fun h' => h ((@byte_eq c 58 (by omega)).2 h')
   refine Ev.ite (fun h2 => ?_) (fun h2 => ?_)
   ·have hc2 : c = 126 := (@byte_eq c 126 (by omega)).1 h2
    exact Ev.some_ (by simp [isOwn, hc2])
   ·have hc2 : c ≠ 126 := fun h' => h2 ((@byte_eq c 126 (by omega)).2 h')
    refine hn.to ?_
    have e1 : (c != 58) = true := bne_iff_ne.2 hc
    have e2 : (c != 126) = true := bne_iff_ne.2 hc2
    rw [isOwn, isOwn, List.all_cons, e1, e2, Bool.true_and, Bool.true_and]
theorem sown_ev (s : ByteArray) (hs : s.size ≤ 140737488351232) : Ev (fun k => script_own.f k s) (okName s) := by
 have := sown_loop s hs s.data.toList.length 0 (by omega)
 rwa [List.drop_zero] at this
end Go.Proofs.YtihiicjnjhideaaDoor.Build
end
section
namespace Go.Proofs.YtihiicjnjhideaaDoorW.PrintWords
open Go.RowKit
/-- Block g of w is a row of these cells, of type e, of which none is frozen. -/
def RowAt (w : World) (g : Nat) (e : TypeId) (cs : List Value) : Prop := ∃ cur : Array Value, w.heap[g]? = some (.cells cur e (0, 0)) ∧ cur.toList = cs
section
variable {w w' : World} {g : Nat} {e : TypeId} {cs : List Value}
theorem RowAt.lt (h : RowAt w g e cs) : g < w.heap.size := by obtain ⟨c, h, _⟩ := h; exact blk_lt h
theorem RowAt.kept (h : RowAt w g e cs) (hb : w'.heap[g]? = w.heap[g]?) : RowAt w' g e cs := by obtain ⟨c, h, h2⟩ := h; exact ⟨c, hb.trans h, h2⟩
theorem RowAt.below (h : RowAt w g e cs) (hb : Below w.heap.size w w') : RowAt w' g e cs := h.kept (hb.block g h.lt)
theorem RowAt.grown (h : RowAt w g e cs) {row : Option Nat} (hg : w.grownBy w' row) (hne : some g ≠ row) : RowAt w' g e cs := h.kept (hg.block g h.lt hne)
theorem RowAt.cell (h : RowAt w g e cs) (i : Nat) : w.cell? ⟨g, i, none⟩ = cs[i]? := by
 obtain ⟨c, h, h2⟩ := h
 rw [blk_cell h, ← h2]
 simp
theorem RowAt.det (h : RowAt w g e cs) {e' : TypeId} {cs' : List Value} (h' : RowAt w g e' cs') : cs = cs' ∧ e = e' := by
 obtain ⟨c, h, rfl⟩ := h
 obtain ⟨c', h', rfl⟩ := h'
 rw [h] at h'
 injection h' with h'
 injection h' with h1 h2
 exact ⟨by rw [h1], h2⟩
end
section
variable {P : Program} {ops : Array Oper} {rest : List Oper} {o : Oper} {a : Act} {Q : Exit → Act → World → Prop}
theorem madeCells_list (z : Array Value) (n : Nat) : (madeCells z (n * z.size)).toList = (List.replicate n z.toList).flatten := by
 unfold madeCells
 simp only [Array.toList_map, Array.toList_range]
 induction n with
 | zero => simp
 | succ n ih =>
  rw [Nat.succ_mul, List.range_add, List.map_append, ih, List.replicate_succ']
  simp only [List.flatten_append, List.flatten_cons, List.flatten_nil, List.append_nil]
  congr 1
  apply List.ext_getElem
  ·simp
  ·intro i h1 h2
   simp only [List.map_map, List.getElem_map, List.getElem_range, Function.comp, Array.getElem_toList]
   simp at h2
   rw [Nat.mul_add_mod', Nat.mod_eq_of_lt h2]
   exact getElem!_pos z i h2
/-- 'make([]T, n)': the world gets a letter. -/
theorem make_event {W : World} (hgd : o.guard = none) (t : TypeId) (l c : Operand) (hop : o.op = Op.makeSlice t l c) (n : Nat) (hl : a.eval l = .int .i64 n) (hc : a.eval c = .int .i64 n) (e : TypeId) (z : Value) (size bytes : Nat)
  (ht : P.underlying t = some (.slice e)) (hinfo : (P.info? e).map (fun i => (i.zero, i.size, i.bytes)) = some (some z, size, bytes)) (hz : z.cells.size = size) (hb : bytes * n ≤ 281474976710656) (h63 : n ≤ 9223372036854775807)
  (h : ∀ g, g = W.heap.size → ∀ w1, RowAt w1 g e (List.replicate n z.cells.toList).flatten → Below W.heap.size W w1 → wpList P ops Q rest (a.put o.dst (.slice (some ⟨g, 0, none⟩) n n)) w1) : wpList P ops Q (o :: rest) a W := by
 obtain ⟨i, hi, hzz⟩ := Option.map_eq_some_iff.1 hinfo
 simp only [Prod.mk.injEq] at hzz
 obtain ⟨h1, h2, h3⟩ := hzz
 have hb' : (i.bytes : Int) * (n : Int) ≤ 281474976710656 := by
  rw [h3, ← Int.natCast_mul]
  omega
 have hr := run_make (P := P) W t e i z ht hi h1 .i64 .i64 n n (by omega) (Int.le_refl _) hb' (by omega)
 simp only [Int.toNat_natCast] at hr
 refine wpList_plain hgd fun K hK => ?_
 unfold Oper.wp execOp
 simp only [hop, hl, hc]
 simp only [Sem.run_bind, hr, Result.andThen_ok]
 refine hK _ _ (h _ rfl _ ⟨_, heap_alloc_new W _, ?_⟩ (below_alloc (Below.refl _ _) _))
 rw [h2, ← hz, madeCells_list]
/-- A store of some cells into a row: the world gets a letter. -/
theorem put_event {W : World} (hgd : o.guard = none) (hN : o.dst = none) (t : TypeId) (p x : Operand) (ho : o.op = .store t p x) {g off : Nat} {u : Value} {e : TypeId} {cs seg : List Value} (hp : a.eval p = .pointer (some ⟨g, off, none⟩)) (hx : a.eval x = u)
  (hb : RowAt W g e cs) (hu : u.cells.toList = seg) (hi : (P.info? t).map (·.size) = some seg.length) (hfit : off + seg.length ≤ cs.length) (hone : ∀ q ∈ seg, q.oneCell' = true)
  (h : ∀ w1, RowAt w1 g e (cs.take off ++ seg ++ cs.drop (off + seg.length)) → W.grownBy w1 (some g) → wpList P ops Q rest a w1) : wpList P ops Q (o :: rest) a W := by
 obtain ⟨cur, hh, rfl⟩ := hb
 refine wpList_plain hgd fun K hK => ?_
 have hrun := run_store_run (P := P) (w := W) (g := g) (o := off) (e := e) (cur := cur) t u seg hh hu hi (by simpa using hfit) hone
 obtain ⟨cur', h1, h2, h3⟩ := setCells_row seg off W cur hh (by simpa using hfit)
 obtain ⟨s1, s2, s3, s4⟩ := setCells_same g seg off W
 unfold Oper.wp execOp
 simp only [ho, hp, hx]
 simp only [Sem.run_bind, hrun, Result.andThen_ok]
 have := hK _ _ (h _ ⟨cur', h1, h3⟩ ⟨s1, s2, s3, by rw [s4]; exact Nat.le_refl _, fun i _ hne => setCells_far _ off i (fun e => hne (by rw [e]))⟩)
 simpa [Act.put, hN, Oper.upon] using this
end
/-- '&xs[i]' of a row of the call's own, for regions that are walked quietly. -/
theorem run_indexAt_own {P : Program} {t e : TypeId} {size : Nat} (ht : P.underlying t = some (.slice e)) (hs : ∀ W : World, (sizeOf e).run P W = .ok size W) (g n c i : Nat) (hi : i < n) (W : World) :
  (Instr.indexAt t (.slice (some ⟨g, 0, none⟩) n c) (.int .i64 (i : Int))).run P W = .ok (.pointer (some ⟨g, i * size, none⟩)) W := by
 have h1 : (0 : Int) ≤ (i : Int) ∧ (i : Int) < (n : Int) := by omega
 simp only [Instr.indexAt, asIntOf, Sem.run_bind, Sem.run_pure, Result.andThen_ok, run_underlying ht, if_pos h1, hs, Int.toNat_natCast, add_plain]
end Go.Proofs.YtihiicjnjhideaaDoorW.PrintWords
end
