/- Parts of the proof of packForged and packDecodes and Pack and Pack and Pack: PAllx19. -/
import Derived.Test.YtebiogaacikphaaTP2
import Derived.Test.YtebiogaacikphaaTP4
import Derived.Test.YtebiogaacikphaaTP5
import Derived.Test.YtebiogaacikphaaTP8
section
namespace Go.Proofs.Ytebiogaacikphaa.PAll
open Go.RowKit Go.Proofs.YtebiogaacikphaaW.PrintWords Go.Proofs.YtebiogaacikphaaW.PrintLast Go.Proofs.YtebiogaacikphaaW.PrintMore
set_option linter.unusedVariables false
set_option linter.unusedSimpArgs false
attribute [local go_sem high] eqA90
/-- From rule i on; the names of the rules ahead are in the map. -/
def core_Check.l0 : Nat → List (S30) → Int → Option Int
  | 0, _, _ => none
  | k + 1, l, i => if i < (l.length : Int) then (if 0 ≤ i then (if ((l.take i.toNat).any fun r => r.f0.data.toList == (rd_T30 l i).f0.data.toList) = true then (some 6) else ((lexis_Name.f k (rd_T30 l i).f0).bind fun b => if b = true then ((core_right.f k (rd_T30 l i).f1 (l.length : Int)).bind fun b2 => if b2 = true then (core_Check.l0 k l (i + 1)) else (some 6)) else (some 6))) else (none)) else (some 0)
theorem core_Check.mono_l : ∀ k y0 y1, LeO (core_Check.l0 k y0 y1) (core_Check.l0 (k + 1) y0 y1)
  | 0 => fun _ _ r h => by simp [core_Check.l0] at h
  | k + 1 => fun y0 y1 => by
    unfold core_Check.l0
    refine LeO.ite (LeO.ite (LeO.ite (LeO.refl _) (LeO.bind (lexis_Name.mono _ _) fun (b : Bool) => LeO.ite (LeO.bind (core_right.mono _ _ _) fun (b2 : Bool) => LeO.ite (core_Check.mono_l k _ _) (LeO.refl _)) (LeO.refl _))) (LeO.none _)) (LeO.refl _)
def dowelbook_CoreBodies.l0 : Nat → List (S90) → List (S90) → Int → Option (Bool)
  | 0, _, _, _ => none
  | k + 1, x0, x1, x5 => if x5 < (x0.length : Int) then (if 0 ≤ x5 then (if x5 < (x1.length : Int) then (if (!(((rd_T90 x0 x5).f0) == ((rd_T90 x1 x5).f0)) || ((!(((rd_T90 x0 x5).f1.f0) == ((rd_T90 x1 x5).f1.f0)) || (!(((rd_T90 x0 x5).f1.f1) == ((rd_T90 x1 x5).f1.f1)) || (!(((rd_T90 x0 x5).f1.f2) == ((rd_T90 x1 x5).f1.f2)) || (!(((rd_T90 x0 x5).f1.f3) == ((rd_T90 x1 x5).f1.f3)))))) || (!(((rd_T90 x0 x5).f2) == ((rd_T90 x1 x5).f2)) || (!((((rd_T90 x0 x5).f3).toList) == (((rd_T90 x1 x5).f3).toList)))))) = true then (some false) else (dowelbook_CoreBodies.l0 k x0 x1 (wrap64 (x5 + 1)))) else (none)) else (none)) else (some true)
def dowelbook_CoreBodies.f (k : Nat) (l0 : List (S90)) (l1 : List (S90)) : Option (Bool) := if (l0.length : Int) = (l1.length : Int) then (dowelbook_CoreBodies.l0 k l0 l1 0) else (some false)
theorem dowelbook_CoreBodies.mono_l : ∀ k, (∀ y0 y1 y2, LeO (dowelbook_CoreBodies.l0 k y0 y1 y2) (dowelbook_CoreBodies.l0 (k + 1) y0 y1 y2))
  | 0 => fun _ _ _ r h => by simp [dowelbook_CoreBodies.l0] at h
  | k + 1 => by
    have ih0 := dowelbook_CoreBodies.mono_l k
    · intro y0 y1 y2
      unfold dowelbook_CoreBodies.l0
      repeat' first
      | (with_reducible exact ih0 _ _ _)
      | (with_reducible exact LeO.refl _)
      | (with_reducible exact LeO.none _)
      | (with_reducible refine LeO.ite ?_ ?_)
      | (with_reducible refine LeO.bind ?_ (fun _ => ?_))
      | exact ih0 _ _ _
      | exact LeO.none _
      | refine LeO.ite ?_ ?_
      | refine LeO.bind ?_ (fun _ => ?_)
theorem dowelbook_CoreBodies.mono : ∀ a0 a1 k, LeO (dowelbook_CoreBodies.f k a0 a1) (dowelbook_CoreBodies.f (k + 1) a0 a1) := by
  intro a0 a1 k
  have ih0 := dowelbook_CoreBodies.mono_l k
  unfold dowelbook_CoreBodies.f
  repeat' first
      | (with_reducible exact ih0 _ _ _)
      | (with_reducible exact LeO.refl _)
      | (with_reducible exact LeO.none _)
      | (with_reducible refine LeO.ite ?_ ?_)
      | (with_reducible refine LeO.bind ?_ (fun _ => ?_))
      | exact ih0 _ _ _
      | exact LeO.none _
      | refine LeO.ite ?_ ?_
      | refine LeO.bind ?_ (fun _ => ?_)
set_option maxHeartbeats 8000000 in
set_option maxRecDepth 100000 in
theorem dowelbook_CoreBodies.calls (k : Nat) (A0 : Option Addr) (c0 : Nat) (l0 : List (S90)) (A1 : Option Addr) (c1 : Nat) (l1 : List (S90)) (r : Bool) (w : World) (hr0 : Kd.C k90 w A0 l0.length l0) (hc0 : l0.length ≤ c0) (hr1 : Kd.C k90 w A1 l1.length l1) (hc1 : l1.length ≤ c1) (h : dowelbook_CoreBodies.f k l0 l1 = some r) :
    Calls Try.prog 86 #[.slice A0 l0.length c0, .slice A1 l1.length c1] w fun e w' => e = .returned (.bool r) ∧ Drawn0 w w' := by
  have hu90 := Try.underlying90
  have HR0 := Aside0.mk hr0
  have HC0 := Aside0.mk hc0
  clear hr0 hc0
  have HR1 := Aside0.mk hr1
  have HC1 := Aside0.mk hc1
  clear hr1 hc1
  have H : (if (l0.length : Int) = (l1.length : Int) then (dowelbook_CoreBodies.l0 k l0 l1 0) else (some false)) = some r := h
  clear h
  by_cases c3 : (l0.length : Int) = (l1.length : Int)
  · rw [if_pos c3] at H
    have c3b0 : ((l0.length : Int) == (l1.length : Int)) = true := beq_iff_eq.mpr c3
    have c3b1 : ((l0.length : Int) != (l1.length : Int)) = false := bne_eq_false_iff_eq.mpr c3
    have c3b2 : (l0.length == l1.length) = true := by first | simpa using c3 | (simp at c3 ⊢; omega)
    clear c3
    have H' := Aside0.mk H
    clear H
    go_enter Try.func86, Try.ntmps86
    go_wp2
    repeat (go_quiet (fail); try go_wp2)
    go_loopg [5] k (fun kq v5 w' => ∃ (x5_1 : Int), v5 = .int .i64 x5_1 ∧ Aside0 (dowelbook_CoreBodies.l0 kq l0 l1 x5_1 = some r) ∧ Aside0 (kq ≤ k) ∧ Drawn0 w w')
    case atStart => exact ⟨(0), (by first | rfl | (simp; done) | (simp [*]; done)), H', ⟨Nat.le_refl _⟩, by repeat (first | exact Drawn0.refl _ | apply Drawn0.step)⟩
    case round =>
      clear H'
      try clear c1
      try clear p2
      try clear c3
      try clear c3b0
      try clear c3b1
      try clear c3b2
      obtain ⟨x5_1, rfl, HA, HK1, ⟨m1, rfl⟩⟩ := hrel
      cases gk with
      | zero => exact absurd HA.out (by simp [dowelbook_CoreBodies.l0])
      | succ k1 =>
        have H := HA.out
        clear HA
        simp only [dowelbook_CoreBodies.l0] at H
        by_cases c4 : x5_1 < (l0.length : Int)
        · rw [if_pos c4] at H
          have c4b0 : decide (x5_1 < (l0.length : Int)) = true := decide_eq_true c4
          clear c4
          by_cases c5 : 0 ≤ x5_1
          · rw [if_pos c5] at H
            have c5b0 : decide (0 ≤ x5_1) = true := decide_eq_true c5
            clear c5
            by_cases c6 : x5_1 < (l1.length : Int)
            · rw [if_pos c6] at H
              have c6b0 : decide (x5_1 < (l1.length : Int)) = true := decide_eq_true c6
              clear c6
              by_cases c7 : (!(((rd_T90 l0 x5_1).f0) == ((rd_T90 l1 x5_1).f0)) || ((!(((rd_T90 l0 x5_1).f1.f0) == ((rd_T90 l1 x5_1).f1.f0)) || (!(((rd_T90 l0 x5_1).f1.f1) == ((rd_T90 l1 x5_1).f1.f1)) || (!(((rd_T90 l0 x5_1).f1.f2) == ((rd_T90 l1 x5_1).f1.f2)) || (!(((rd_T90 l0 x5_1).f1.f3) == ((rd_T90 l1 x5_1).f1.f3)))))) || (!(((rd_T90 l0 x5_1).f2) == ((rd_T90 l1 x5_1).f2)) || (!((((rd_T90 l0 x5_1).f3).toList) == (((rd_T90 l1 x5_1).f3).toList)))))) = true
              · rw [if_pos c7] at H
                have c7b0 : (!(((rd_T90 l0 x5_1).f0) == ((rd_T90 l1 x5_1).f0)) || ((!(((rd_T90 l0 x5_1).f1.f0) == ((rd_T90 l1 x5_1).f1.f0)) || (!(((rd_T90 l0 x5_1).f1.f1) == ((rd_T90 l1 x5_1).f1.f1)) || (!(((rd_T90 l0 x5_1).f1.f2) == ((rd_T90 l1 x5_1).f1.f2)) || (!(((rd_T90 l0 x5_1).f1.f3) == ((rd_T90 l1 x5_1).f1.f3)))))) || (!(((rd_T90 l0 x5_1).f2) == ((rd_T90 l1 x5_1).f2)) || (!((((rd_T90 l0 x5_1).f3).toList) == (((rd_T90 l1 x5_1).f3).toList)))))) = true := c7
                clear c7
                obtain rfl := Option.some.inj H
                have p178 : 0 ≤ (x5_1 : Int) := of_decide_eq_true (by first | (with_reducible assumption) | assumption)
                have q178 : x5_1 < (l0.length : Int) := of_decide_eq_true (by first | (with_reducible assumption) | assumption)
                obtain ⟨ad178, e178, hx178_0, hx178_1, hx178_2, hx178_3, hx178_4, hx178_5, hx178_6⟩ := at_T90 HR0.out x5_1 p178 q178
                cases e178
                replace p178 := eq_true p178
                replace q178 := eq_true q178
                have p179 : 0 ≤ (x5_1 : Int) := of_decide_eq_true (by first | (with_reducible assumption) | assumption)
                have q179 : x5_1 < (l1.length : Int) := of_decide_eq_true (by first | (with_reducible assumption) | assumption)
                obtain ⟨ad179, e179, hx179_0, hx179_1, hx179_2, hx179_3, hx179_4, hx179_5, hx179_6⟩ := at_T90 HR1.out x5_1 p179 q179
                cases e179
                replace p179 := eq_true p179
                replace q179 := eq_true q179
                go_wp2
                repeat (go_quiet (fail); try go_wp2)
                go_ret
                exact ⟨by first | rfl | (simp; done) | (simp [*]; done), by repeat (first | exact Drawn0.refl _ | apply Drawn0.step)⟩
              · rw [if_neg c7] at H
                have c7b0 : (!(((rd_T90 l0 x5_1).f0) == ((rd_T90 l1 x5_1).f0)) || ((!(((rd_T90 l0 x5_1).f1.f0) == ((rd_T90 l1 x5_1).f1.f0)) || (!(((rd_T90 l0 x5_1).f1.f1) == ((rd_T90 l1 x5_1).f1.f1)) || (!(((rd_T90 l0 x5_1).f1.f2) == ((rd_T90 l1 x5_1).f1.f2)) || (!(((rd_T90 l0 x5_1).f1.f3) == ((rd_T90 l1 x5_1).f1.f3)))))) || (!(((rd_T90 l0 x5_1).f2) == ((rd_T90 l1 x5_1).f2)) || (!((((rd_T90 l0 x5_1).f3).toList) == (((rd_T90 l1 x5_1).f3).toList)))))) = false := by simpa using c7
                clear c7
                have H' := Aside0.mk H
                clear H
                have p178 : 0 ≤ (x5_1 : Int) := of_decide_eq_true (by first | (with_reducible assumption) | assumption)
                have q178 : x5_1 < (l0.length : Int) := of_decide_eq_true (by first | (with_reducible assumption) | assumption)
                obtain ⟨ad178, e178, hx178_0, hx178_1, hx178_2, hx178_3, hx178_4, hx178_5, hx178_6⟩ := at_T90 HR0.out x5_1 p178 q178
                cases e178
                replace p178 := eq_true p178
                replace q178 := eq_true q178
                have p179 : 0 ≤ (x5_1 : Int) := of_decide_eq_true (by first | (with_reducible assumption) | assumption)
                have q179 : x5_1 < (l1.length : Int) := of_decide_eq_true (by first | (with_reducible assumption) | assumption)
                obtain ⟨ad179, e179, hx179_0, hx179_1, hx179_2, hx179_3, hx179_4, hx179_5, hx179_6⟩ := at_T90 HR1.out x5_1 p179 q179
                cases e179
                replace p179 := eq_true p179
                replace q179 := eq_true q179
                go_wp2
                repeat (go_quiet (fail); try go_wp2)
                go_roundg k1
                case measure => have := HK1.out; omega
                case rel => exact ⟨(wrap64 (x5_1 + 1)), (by first | rfl | (simp; done) | (simp [*]; done)), H', ⟨by have := HK1.out; omega⟩, by repeat (first | exact Drawn0.refl _ | apply Drawn0.step)⟩
            · rw [if_neg c6] at H
              exact absurd H (by simp)
          · rw [if_neg c5] at H
            exact absurd H (by simp)
        · rw [if_neg c4] at H
          have c4b0 : decide (x5_1 < (l0.length : Int)) = false := decide_eq_false c4
          clear c4
          obtain rfl := Option.some.inj H
          go_wp2
          repeat (go_quiet (fail); try go_wp2)
          go_ret
          exact ⟨by first | rfl | (simp; done) | (simp [*]; done), by repeat (first | exact Drawn0.refl _ | apply Drawn0.step)⟩
  · rw [if_neg c3] at H
    have c3b0 : ((l0.length : Int) == (l1.length : Int)) = false := beq_eq_false_iff_ne.mpr c3
    have c3b1 : ((l0.length : Int) != (l1.length : Int)) = true := bne_iff_ne.mpr c3
    have c3b2 : (l0.length == l1.length) = false := by first | simpa using c3 | (simp at c3 ⊢; omega)
    obtain rfl := Option.some.inj H
    go_enter Try.func86, Try.ntmps86
    go_wp2
    repeat (go_quiet (fail); try go_wp2)
    go_ret
    exact ⟨by first | rfl | (simp; done) | (simp [*]; done), by repeat (first | exact Drawn0.refl _ | apply Drawn0.step)⟩
end Go.Proofs.Ytebiogaacikphaa.PAll
end
