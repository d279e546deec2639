/- Parts of the proof of packBack and packOne and packCuts and packSpoilt and packSmall: PAllx21, PackOwn, PackNames, PackNext. No condition beyond each lemma's own. -/
import Derived.Test.YtebiogaacikphaaTQ3
import Derived.Test.YtebiogaacikphaaTQ4
import Derived.Test.YtebiogaacikphaaTQ6
section
namespace Go.Proofs.Ytebiogaacikphaa.PAll
open Go.RowKit Go.Proofs.YtebiogaacikphaaW.PrintWords Go.Proofs.YtebiogaacikphaaW.PrintLast Go.Proofs.YtebiogaacikphaaW.PrintMore
set_option linter.unusedVariables false
set_option linter.unusedSimpArgs false
mutual
def pack_sum.l0 : Nat → Int → List Int → Int → Int → Option (Int)
  | 0, _, _, _, _ => none
  | k + 1, x3, x7, x8, x9 => if x9 < x8 then (if 0 ≤ x9 then (if x9 < (x7.length : Int) then (pack_sum.l1 k (Go.bits .xor .u32 x3 ((rd x7 x9) % 4294967296)) x7 x8 x9 0) else (none)) else (none)) else (some (Go.bits .xor .u32 4294967295 x3))
def pack_sum.l1 : Nat → Int → List Int → Int → Int → Int → Option (Int)
  | 0, _, _, _, _, _ => none
  | k + 1, x3, x7, x8, x9, x17 => if x17 < 8 then (if (Go.bits .and .u32 x3 1) = 1 then (pack_sum.l1 k (Go.bits .xor .u32 (x3 / 2) 3988292384) x7 x8 x9 (wrap64 (x17 + 1))) else (pack_sum.l1 k (x3 / 2) x7 x8 x9 (wrap64 (x17 + 1)))) else (pack_sum.l0 k x3 x7 x8 (wrap64 (x9 + 1)))
end
def pack_sum.f (k : Nat) (l0 : List Int) : Option (Int) := pack_sum.l0 k 4294967295 l0 (l0.length : Int) 0
theorem pack_sum.mono_l : ∀ k, (∀ y0 y1 y2 y3, LeO (pack_sum.l0 k y0 y1 y2 y3) (pack_sum.l0 (k + 1) y0 y1 y2 y3)) ∧ (∀ y0 y1 y2 y3 y4, LeO (pack_sum.l1 k y0 y1 y2 y3 y4) (pack_sum.l1 (k + 1) y0 y1 y2 y3 y4))
  | 0 => ⟨fun _ _ _ _ r h => by simp [pack_sum.l0] at h, fun _ _ _ _ _ r h => by simp [pack_sum.l1] at h⟩
  | k + 1 => by
    obtain ⟨ih0, ih1⟩ := pack_sum.mono_l k
    refine ⟨?_, ?_⟩
    · intro y0 y1 y2 y3
      unfold pack_sum.l0
      repeat' first
      | (with_reducible exact ih0 _ _ _ _)
      | (with_reducible exact ih1 _ _ _ _ _)
      | (with_reducible exact LeO.refl _)
      | (with_reducible exact LeO.none _)
      | (with_reducible refine LeO.ite ?_ ?_)
      | (with_reducible refine LeO.bind ?_ (fun _ => ?_))
      | exact ih0 _ _ _ _
      | exact ih1 _ _ _ _ _
      | exact LeO.none _
      | refine LeO.ite ?_ ?_
      | refine LeO.bind ?_ (fun _ => ?_)
    · intro y0 y1 y2 y3 y4
      unfold pack_sum.l1
      repeat' first
      | (with_reducible exact ih0 _ _ _ _)
      | (with_reducible exact ih1 _ _ _ _ _)
      | (with_reducible exact LeO.refl _)
      | (with_reducible exact LeO.none _)
      | (with_reducible refine LeO.ite ?_ ?_)
      | (with_reducible refine LeO.bind ?_ (fun _ => ?_))
      | exact ih0 _ _ _ _
      | exact ih1 _ _ _ _ _
      | exact LeO.none _
      | refine LeO.ite ?_ ?_
      | refine LeO.bind ?_ (fun _ => ?_)
set_option maxHeartbeats 8000000 in
set_option maxRecDepth 100000 in
theorem pack_sum.calls (k : Nat) (A0 : Option Addr) (c0 : Nat) (l0 : List Int) (r : Int) (w : World) (hr0 : Kd.C (Kd.int .u8) w A0 l0.length l0) (hc0 : l0.length ≤ c0) (h : pack_sum.f k l0 = some r) :
    Calls Try.prog 76 #[.slice A0 l0.length c0] w fun e w' => e = .returned (.int .u32 r) ∧ Drawn0 w w' := by
  have HR0 := Aside0.mk hr0
  have HC0 := Aside0.mk hc0
  clear hr0 hc0
  have H : (pack_sum.l0 k 4294967295 l0 (l0.length : Int) 0) = some r := h
  clear h
  have H' := Aside0.mk H
  clear H
  go_enter Try.func76, Try.ntmps76
  go_wp2
  go_loopg [3, 9] k (fun kq v3 v9 w' => ∃ (x3_1 : Int) (x9_1 : Int), v3 = .int .u32 x3_1 ∧ v9 = .int .i64 x9_1 ∧ Aside0 (pack_sum.l0 kq x3_1 l0 (l0.length : Int) x9_1 = some r) ∧ Aside0 (kq ≤ k) ∧ Drawn0 w w')
  case atStart => exact ⟨(4294967295), (0), (by first | rfl | (simp; done) | (simp [*]; done)), (by first | rfl | (simp; done) | (simp [*]; done)), H', ⟨Nat.le_refl _⟩, by repeat (first | exact Drawn0.refl _ | apply Drawn0.step)⟩
  case round =>
    clear H'
    obtain ⟨x3_1, x9_1, rfl, rfl, HA, HK1, ⟨m1, rfl⟩⟩ := hrel
    cases gk with
    | zero => exact absurd HA.out (by simp [pack_sum.l0])
    | succ k1 =>
      have H := HA.out
      clear HA
      simp only [pack_sum.l0] at H
      by_cases c2 : x9_1 < (l0.length : Int)
      · rw [if_pos c2] at H
        have c2b0 : decide (x9_1 < (l0.length : Int)) = true := decide_eq_true c2
        clear c2
        by_cases c3 : 0 ≤ x9_1
        · rw [if_pos c3] at H
          have c3b0 : decide (0 ≤ x9_1) = true := decide_eq_true c3
          clear c3
          by_cases c4 : x9_1 < (l0.length : Int)
          · rw [if_pos c4] at H
            have c4b0 : decide (x9_1 < (l0.length : Int)) = true := decide_eq_true c4
            clear c4
            have H' := Aside0.mk H
            clear H
            have p197 : 0 ≤ (x9_1 : Int) := of_decide_eq_true (by first | (with_reducible assumption) | assumption)
            have q197 : x9_1 < (l0.length : Int) := of_decide_eq_true (by first | (with_reducible assumption) | assumption)
            obtain ⟨ad197, e197, hx197_0⟩ := Kd.at_int HR0.out x9_1 p197 q197
            cases e197
            replace p197 := eq_true p197
            replace q197 := eq_true q197
            go_wp2
            go_loopg [3, 17] k1 (fun kq v3 v17 w' => ∃ (x3_2 : Int) (x17_2 : Int), v3 = .int .u32 x3_2 ∧ v17 = .int .i64 x17_2 ∧ Aside0 (pack_sum.l1 kq x3_2 l0 (l0.length : Int) x9_1 x17_2 = some r) ∧ Aside0 (kq ≤ k1) ∧ Drawn0 w w')
            case atStart => exact ⟨(Go.bits .xor .u32 x3_1 ((rd l0 x9_1) % 4294967296)), (0), (by first | rfl | (simp; done) | (simp [*]; done)), (by first | rfl | (simp; done) | (simp [*]; done)), H', ⟨Nat.le_refl _⟩, by repeat (first | exact Drawn0.refl _ | apply Drawn0.step)⟩
            case round =>
              clear H'
              try clear p1
              try clear q1
              try clear hx1
              try clear c2
              try clear c2b0
              try clear p2
              try clear c3
              try clear c3b0
              try clear c4
              try clear c4b0
              try clear hx197_0
              try clear p197
              try clear q197
              obtain ⟨x3_2, x17_2, rfl, rfl, HA, HK2, ⟨m2, rfl⟩⟩ := hrel
              cases gk with
              | zero => exact absurd HA.out (by simp [pack_sum.l1])
              | succ k2 =>
                have H := HA.out
                clear HA
                simp only [pack_sum.l1] at H
                by_cases c5 : x17_2 < 8
                · rw [if_pos c5] at H
                  have c5b0 : decide (x17_2 < 8) = true := decide_eq_true c5
                  clear c5
                  by_cases c6 : (Go.bits .and .u32 x3_2 1) = 1
                  · rw [if_pos c6] at H
                    have c6b0 : ((Go.bits .and .u32 x3_2 1) == 1) = true := beq_iff_eq.mpr c6
                    have c6b1 : ((Go.bits .and .u32 x3_2 1) != 1) = false := bne_eq_false_iff_eq.mpr c6
                    clear c6
                    have H' := Aside0.mk H
                    clear H
                    go_wp2
                    go_roundg k2
                    case measure => have := HK1.out; have := HK2.out; omega
                    case rel => exact ⟨(Go.bits .xor .u32 (x3_2 / 2) 3988292384), (wrap64 (x17_2 + 1)), (by first | rfl | (simp; done) | (simp [*]; done)), (by first | rfl | (simp; done) | (simp [*]; done)), H', ⟨by have := HK1.out; have := HK2.out; omega⟩, by repeat (first | exact Drawn0.refl _ | apply Drawn0.step)⟩
                  · rw [if_neg c6] at H
                    have c6b0 : ((Go.bits .and .u32 x3_2 1) == 1) = false := beq_eq_false_iff_ne.mpr c6
                    have c6b1 : ((Go.bits .and .u32 x3_2 1) != 1) = true := bne_iff_ne.mpr c6
                    have H' := Aside0.mk H
                    clear H
                    go_wp2
                    go_roundg k2
                    case measure => have := HK1.out; have := HK2.out; omega
                    case rel => exact ⟨(x3_2 / 2), (wrap64 (x17_2 + 1)), (by first | rfl | (simp; done) | (simp [*]; done)), (by first | rfl | (simp; done) | (simp [*]; done)), H', ⟨by have := HK1.out; have := HK2.out; omega⟩, by repeat (first | exact Drawn0.refl _ | apply Drawn0.step)⟩
                · rw [if_neg c5] at H
                  have c5b0 : decide (x17_2 < 8) = false := decide_eq_false c5
                  clear c5
                  have H' := Aside0.mk H
                  clear H
                  go_wp2
                  go_roundg k2
                  case measure => have := HK1.out; have := HK2.out; omega
                  case rel => exact ⟨(x3_2), (wrap64 (x9_1 + 1)), (by first | rfl | (simp; done) | (simp [*]; done)), (by first | rfl | (simp; done) | (simp [*]; done)), H', ⟨by have := HK1.out; have := HK2.out; omega⟩, by repeat (first | exact Drawn0.refl _ | apply Drawn0.step)⟩
          · rw [if_neg c4] at H
            exact absurd H (by simp)
        · rw [if_neg c3] at H
          exact absurd H (by simp)
      · rw [if_neg c2] at H
        have c2b0 : decide (x9_1 < (l0.length : Int)) = false := decide_eq_false c2
        clear c2
        obtain rfl := Option.some.inj H
        go_wp2
        go_ret
        exact ⟨by first | rfl | (simp; done) | (simp [*]; done), by repeat (first | exact Drawn0.refl _ | apply Drawn0.step)⟩
def pack_own.l0 : Nat → ByteArray → Int → Option (Bool)
  | 0, _, _ => none
  | k + 1, x0, x3 => if x3 < (x0.size : Int) then (if 0 ≤ x3 then (if (bt x0 x3) = 58 then (some false) else (if (bt x0 x3) = 126 then (some false) else (pack_own.l0 k x0 (wrap64 (x3 + 1))))) else (none)) else ((lexis_Name.f k x0).bind fun t224 => (some t224))
def pack_own.f (k : Nat) (a0 : ByteArray) : Option (Bool) := pack_own.l0 k a0 0
theorem pack_own.mono_l : ∀ k, (∀ y0 y1, LeO (pack_own.l0 k y0 y1) (pack_own.l0 (k + 1) y0 y1))
  | 0 => fun _ _ r h => by simp [pack_own.l0] at h
  | k + 1 => by
    have ih0 := pack_own.mono_l k
    · intro y0 y1
      unfold pack_own.l0
      repeat' first
      | (with_reducible exact ih0 _ _)
      | (with_reducible exact lexis_Name.mono _ _)
      | (with_reducible exact LeO.refl _)
      | (with_reducible exact LeO.none _)
      | (with_reducible refine LeO.ite ?_ ?_)
      | (with_reducible refine LeO.bind ?_ (fun _ => ?_))
      | exact ih0 _ _
      | exact lexis_Name.mono _ _
      | exact LeO.none _
      | refine LeO.ite ?_ ?_
      | refine LeO.bind ?_ (fun _ => ?_)
theorem pack_own.mono : ∀ a0 k, LeO (pack_own.f k a0) (pack_own.f (k + 1) a0) := by
  intro a0 k
  have ih0 := pack_own.mono_l k
  unfold pack_own.f
  repeat' first
      | (with_reducible exact ih0 _ _)
      | (with_reducible exact lexis_Name.mono _ _)
      | (with_reducible exact LeO.refl _)
      | (with_reducible exact LeO.none _)
      | (with_reducible refine LeO.ite ?_ ?_)
      | (with_reducible refine LeO.bind ?_ (fun _ => ?_))
      | exact ih0 _ _
      | exact lexis_Name.mono _ _
      | exact LeO.none _
      | refine LeO.ite ?_ ?_
      | refine LeO.bind ?_ (fun _ => ?_)
set_option maxHeartbeats 8000000 in
set_option maxRecDepth 100000 in
theorem pack_own.calls (k : Nat) (a0 : ByteArray) (r : Bool) (w : World) (h : pack_own.f k a0 = some r) :
    Calls Try.prog 90 #[.string a0] w fun e w' => e = .returned (.bool r) ∧ Drawn0 w w' := by
  have H : (pack_own.l0 k a0 0) = some r := h
  clear h
  have H' := Aside0.mk H
  clear H
  go_enter Try.func90, Try.ntmps90
  go_wp2
  go_loopg [3] k (fun kq v3 w' => ∃ (x3_1 : Int), v3 = .int .i64 x3_1 ∧ Aside0 (pack_own.l0 kq a0 x3_1 = some r) ∧ Aside0 (kq ≤ k) ∧ Drawn0 w w')
  case atStart => exact ⟨(0), (by first | rfl | (simp; done) | (simp [*]; done)), H', ⟨Nat.le_refl _⟩, by repeat (first | exact Drawn0.refl _ | apply Drawn0.step)⟩
  case round =>
    clear H'
    obtain ⟨x3_1, rfl, HA, HK1, ⟨m1, rfl⟩⟩ := hrel
    cases gk with
    | zero => exact absurd HA.out (by simp [pack_own.l0])
    | succ k1 =>
      have H := HA.out
      clear HA
      simp only [pack_own.l0] at H
      by_cases c2 : x3_1 < (a0.size : Int)
      · rw [if_pos c2] at H
        have c2b0 : decide (x3_1 < (a0.size : Int)) = true := decide_eq_true c2
        clear c2
        by_cases c3 : 0 ≤ x3_1
        · rw [if_pos c3] at H
          have c3b0 : decide (0 ≤ x3_1) = true := decide_eq_true c3
          clear c3
          by_cases c5 : (bt a0 x3_1) = 58
          · rw [if_pos c5] at H
            have c5b0 : ((bt a0 x3_1) == 58) = true := beq_iff_eq.mpr c5
            have c5b1 : ((bt a0 x3_1) != 58) = false := bne_eq_false_iff_eq.mpr c5
            clear c5
            obtain rfl := Option.some.inj H
            have p4 : 0 ≤ (x3_1 : Int) := of_decide_eq_true (by first | (with_reducible assumption) | assumption)
            have q4 : x3_1 < (a0.size : Int) := of_decide_eq_true (by first | (with_reducible assumption) | assumption)
            have hx4 := bt_at a0 x3_1
            replace p4 := eq_true p4
            replace q4 := eq_true q4
            go_wp2
            go_ret
            exact ⟨by first | rfl | (simp; done) | (simp [*]; done), by repeat (first | exact Drawn0.refl _ | apply Drawn0.step)⟩
          · rw [if_neg c5] at H
            have c5b0 : ((bt a0 x3_1) == 58) = false := beq_eq_false_iff_ne.mpr c5
            have c5b1 : ((bt a0 x3_1) != 58) = true := bne_iff_ne.mpr c5
            by_cases c7 : (bt a0 x3_1) = 126
            · rw [if_pos c7] at H
              have c7b0 : ((bt a0 x3_1) == 126) = true := beq_iff_eq.mpr c7
              have c7b1 : ((bt a0 x3_1) != 126) = false := bne_eq_false_iff_eq.mpr c7
              clear c7
              obtain rfl := Option.some.inj H
              have p4 : 0 ≤ (x3_1 : Int) := of_decide_eq_true (by first | (with_reducible assumption) | assumption)
              have q4 : x3_1 < (a0.size : Int) := of_decide_eq_true (by first | (with_reducible assumption) | assumption)
              have hx4 := bt_at a0 x3_1
              replace p4 := eq_true p4
              replace q4 := eq_true q4
              have p6 : 0 ≤ (x3_1 : Int) := of_decide_eq_true (by first | (with_reducible assumption) | assumption)
              have q6 : x3_1 < (a0.size : Int) := of_decide_eq_true (by first | (with_reducible assumption) | assumption)
              have hx6 := bt_at a0 x3_1
              replace p6 := eq_true p6
              replace q6 := eq_true q6
              go_wp2
              go_ret
              exact ⟨by first | rfl | (simp; done) | (simp [*]; done), by repeat (first | exact Drawn0.refl _ | apply Drawn0.step)⟩
            · rw [if_neg c7] at H
              have c7b0 : ((bt a0 x3_1) == 126) = false := beq_eq_false_iff_ne.mpr c7
              have c7b1 : ((bt a0 x3_1) != 126) = true := bne_iff_ne.mpr c7
              have H' := Aside0.mk H
              clear H
              have p4 : 0 ≤ (x3_1 : Int) := of_decide_eq_true (by first | (with_reducible assumption) | assumption)
              have q4 : x3_1 < (a0.size : Int) := of_decide_eq_true (by first | (with_reducible assumption) | assumption)
              have hx4 := bt_at a0 x3_1
              replace p4 := eq_true p4
              replace q4 := eq_true q4
              have p6 : 0 ≤ (x3_1 : Int) := of_decide_eq_true (by first | (with_reducible assumption) | assumption)
              have q6 : x3_1 < (a0.size : Int) := of_decide_eq_true (by first | (with_reducible assumption) | assumption)
              have hx6 := bt_at a0 x3_1
              replace p6 := eq_true p6
              replace q6 := eq_true q6
              go_wp2
              go_roundg k1
              case measure => have := HK1.out; omega
              case rel => exact ⟨(wrap64 (x3_1 + 1)), (by first | rfl | (simp; done) | (simp [*]; done)), H', ⟨by have := HK1.out; omega⟩, by repeat (first | exact Drawn0.refl _ | apply Drawn0.step)⟩
        · rw [if_neg c3] at H
          exact absurd H (by simp)
      · rw [if_neg c2] at H
        have c2b0 : decide (x3_1 < (a0.size : Int)) = false := decide_eq_false c2
        clear c2
        replace H := Option.bind_eq_some_iff.mp H
        obtain ⟨t224, A80, H⟩ := H
        replace H : (some t224) = some r := H
        have A8 := Aside0.mk A80
        clear A80
        obtain rfl := Option.some.inj H
        go_wp2_with (first | ((with_reducible refine gate_callee (f := 47) rfl ?_); refine goesL_ (some 21) rfl rfl Try.func47 (by kernel_rfl) rfl #[.string a0] rfl (by (try simp only [List.map_toArray, List.map_cons, List.map_nil]); first | done | rfl | (simp only [List.length_drop, List.length_take]; rfl)) ?_; (with_reducible refine (lexis_Name.calls k1 a0 t224 _ A8.out).mono ?_); rintro e w' ⟨rfl, ⟨nd, rfl⟩⟩; refine ⟨_, rfl, ?_⟩))
        go_ret
        exact ⟨by first | rfl | (simp; done) | (simp [*]; done), by repeat (first | exact Drawn0.refl _ | apply Drawn0.step)⟩
end Go.Proofs.Ytebiogaacikphaa.PAll
end
section
namespace Go.Proofs.Ytebiogaacikphaa.Pack
open Go.RowKit Go.Proofs.YtebiogaacikphaaW.PrintWords Go.Proofs.Ytebiogaacikphaa.PAll Go.Proofs.Ytebiogaacikphaa.Names
set_option linter.unusedVariables false
def okName (s : ByteArray) : Bool := isOwn s.data.toList && isName s.data.toList
theorem own_loop (s : ByteArray) (hs : s.size ≤ 140737488351232) : ∀ (d i : Nat), i + d = s.data.toList.length → Ev (fun k => pack_own.l0 k s (i : Int)) (isOwn (s.data.toList.drop i) && isName s.data.toList) := by
  intro d
  have hs' := hs
  rw [size_list] at hs'
  induction d with
  | zero =>
    intro i hi
    refine Ev.step (fun _ => by rw [pack_own.l0]) ?_
    refine Ev.neg (by rw [size_list]; omega) ?_
    refine Ev.bind (lexName_ev s hs) ?_
    exact Ev.some_ (by rw [List.drop_of_length_le (by omega)]; simp [isOwn])
  | succ d ih =>
    intro i hi
    have hlt : i < s.data.toList.length := by omega
    refine Ev.step (fun _ => by rw [pack_own.l0]) ?_
    refine Ev.pos (by rw [size_list]; omega) ?_
    refine Ev.pos (by omega) ?_
    have hw : wrap64 ((i : Int) + 1) = ((i + 1 : Nat) : Int) := by rw [w64] <;> omega
    have hn := ih (i + 1) (by omega)
    rw [bt_nat s i hlt, hw, drop_at hlt]
    generalize s.data.toList[i] = c at *
    refine Ev.ite (fun h => ?_) (fun h => ?_)
    · have hc : c = 58 := (@byte_eq c 58 (by omega)).1 h
      exact Ev.some_ (by simp [isOwn, hc])
    · have hc : c ≠ 58 := fun h' => h ((@byte_eq c 58 (by omega)).2 h')
      refine Ev.ite (fun h2 => ?_) (fun h2 => ?_)
      · have hc2 : c = 126 := (@byte_eq c 126 (by omega)).1 h2
        exact Ev.some_ (by simp [isOwn, hc2])
      · have hc2 : c ≠ 126 := fun h' => h2 ((@byte_eq c 126 (by omega)).2 h')
        refine hn.to ?_
        have e1 : (c != 58) = true := bne_iff_ne.2 hc
        have e2 : (c != 126) = true := bne_iff_ne.2 hc2
        rw [isOwn, isOwn, List.all_cons, e1, e2, Bool.true_and, Bool.true_and]
theorem own_ev (s : ByteArray) (hs : s.size ≤ 140737488351232) : Ev (fun k => pack_own.f k s) (okName s) := by
  have := own_loop s hs s.data.toList.length 0 (by omega)
  rwa [List.drop_zero] at this
theorem own_calls (s : ByteArray) (hs : s.size ≤ 140737488351232) (w : World) : Calls Try.prog 90 #[.string s] w fun e w' => e = .returned (.bool (okName s)) ∧ Below w.heap.size w w' := by
  obtain ⟨k, hk⟩ := own_ev s hs
  exact (pack_own.calls k s _ w (hk k (Nat.le_refl _))).mono fun e w' ⟨he, hd⟩ => ⟨he, hd.below⟩
theorem own_lit (s : ByteArray) (hs : s.size ≤ 140737488351232) (v : Bool) (hv : okName s = v) (w : World) : Calls Try.prog 90 #[.string s] w fun e w' => e = .returned (.bool v) ∧ Below w.heap.size w w' := by
  subst hv
  exact own_calls s hs w
end Go.Proofs.Ytebiogaacikphaa.Pack
end
section
namespace Go.Proofs.Ytebiogaacikphaa.Pack
open Go.RowKit Go.Proofs.YtebiogaacikphaaW.PrintWords Go.Proofs.Ytebiogaacikphaa.PAll
set_option linter.unusedVariables false
set_option linter.unusedSimpArgs false
set_option linter.unnecessarySimpa false
/-- Is a text among others? -/
def among (x : ByteArray) (acc : List ByteArray) : Bool := acc.any fun y => decide (y = x)
theorem among_iff (x : ByteArray) (acc : List ByteArray) : among x acc = true ↔ x ∈ acc := by
  simp [among]
/-- So many names, no two alike; acc are there. -/
def namesL (e : Nat) : Nat → List ByteArray → List Int → Except (Int × Int) (List ByteArray × List Int)
  | 0, acc, l => .ok (acc, l)
  | n + 1, acc, l => match cntL e (e - l.length) 0 0 l with
    | .error f => .error f
    | .ok (size, r) => if size = 0 ∨ 64 < size then .error ((e - l.length : Nat), 204) else if r.length < size.toNat then .error (e, 200)
      else if okName (strOfNums (r.take size.toNat)) = false ∨ among (strOfNums (r.take size.toNat)) acc = true then .error ((e - r.length : Nat), 204) else namesL e n (acc ++ [strOfNums (r.take size.toNat)]) (r.drop size.toNat)
/-- The names seen are each seen once. -/
def heardOnce (acc : List ByteArray) : List (ByteArray × Value) := acc.map fun x => (x, .int .i64 1)
theorem heard_keys (acc : List ByteArray) : (heardOnce acc).map (·.1) = acc := by simp [heardOnce, Function.comp_def]
theorem str_keys : KeyKind Try.prog 9 Value.string := string_keys Try.underlying9
theorem heard_find {acc : List ByteArray} {x : ByteArray} (h : x ∈ acc) : ∃ j, mapFind x (heardOnce acc) 0 = some (j, .int .i64 1) := by
  cases hf : mapFind x (heardOnce acc) 0 with
  | none => exact absurd h (by rw [← heard_keys acc]; exact mapFind_none.1 hf)
  | some p =>
    obtain ⟨j, v⟩ := p
    refine ⟨j, ?_⟩
    have h1 := (mapFind_some hf).2
    rw [heardOnce, List.getElem?_map] at h1
    obtain ⟨y, _, h3⟩ := Option.map_eq_some_iff.1 h1
    injection h3 with h3 h4
    rw [← h4]
/-- What 'seen[s]++' meets. -/
structure IncrS (gm : Nat) (x : ByteArray) (z : Int) (L0 L2 : List (ByteArray × Value)) : Prop where
  first : ∀ W, MapAt Value.string W gm L0 → (Instr.lookup 94 (.map (some gm)) (.string x) false).run Try.prog W = .ok (.int .i64 z) W
  store : ∀ W, MapAt Value.string W gm L0 → ∃ W', (Instr.mapUpdate 94 (.map (some gm)) (.string x) (.int .i64 (z + 1))).run Try.prog W = .ok () W' ∧ MapAt Value.string W' gm L2 ∧ W.grownBy W' (some gm)
  last : ∀ W, MapAt Value.string W gm L2 → (Instr.lookup 94 (.map (some gm)) (.string x) false).run Try.prog W = .ok (.int .i64 (z + 1)) W
theorem look_str {gm : Nat} {x : ByteArray} {L : List (ByteArray × Value)} (W : World) (hm : MapAt Value.string W gm L) {z : Int} (h : (∃ j, mapFind x L 0 = some (j, .int .i64 z)) ∨ (mapFind x L 0 = none ∧ z = 0)) : (Instr.lookup 94 (.map (some gm)) (.string x) false).run Try.prog W = .ok (.int .i64 z) W := by
  have := MapAt.lookup (P := Try.prog) str_keys Try.underlying94 hm x (z := .int .i64 0) (by kernel_rfl) false
  rcases h with ⟨j, h⟩ | ⟨h, rfl⟩
  · rw [h] at this
    exact this
  · rw [h] at this
    exact this
theorem find_snoc {κ : Type} [DecidableEq κ] {x : κ} {u : Value} : ∀ (l : List (κ × Value)) (i : Nat), x ∉ l.map (·.1) → mapFind x (l ++ [(x, u)]) i = some (i + l.length, u)
  | [], i, _ => by simp [mapFind]
  | p :: l, i, hx => by
    have h1 : ¬ x = p.1 := fun e => hx (by simp [e])
    rw [List.cons_append, mapFind, if_neg h1, find_snoc l (i + 1) (fun hm => hx (by simp only [List.map_cons, List.mem_cons]; exact .inr hm)), List.length_cons]
    congr 2
    omega
theorem incrs (gm : Nat) (x : ByteArray) (acc : List ByteArray) : ∃ (z : Int) (L2 : List (ByteArray × Value)), IncrS gm x z (heardOnce acc) L2 ∧ (x ∈ acc → z = 1) ∧ (x ∉ acc → z = 0 ∧ L2 = heardOnce (acc ++ [x])) := by
  by_cases h : x ∈ acc
  · obtain ⟨j, hj⟩ := heard_find h
    refine ⟨1, (heardOnce acc).set j (x, .int .i64 2), ⟨fun W hm => look_str W hm (.inl ⟨_, hj⟩), fun W hm => ?_, fun W hm => look_str W hm (.inl ⟨j, find_set _ hj⟩)⟩, fun _ => rfl, fun hn => absurd h hn⟩
    exact map_update_hit (P := Try.prog) str_keys Try.underlying94 hm x hj (.int .i64 2)
  · have hmiss : x ∉ (heardOnce acc).map (·.1) := by rw [heard_keys]; exact h
    have e : heardOnce acc ++ [(x, Value.int .i64 1)] = heardOnce (acc ++ [x]) := by simp [heardOnce]
    refine ⟨0, heardOnce (acc ++ [x]), ⟨fun W hm => look_str W hm (.inr ⟨mapFind_none.2 hmiss, rfl⟩), fun W hm => ?_, fun W hm => look_str W hm (.inl ⟨(heardOnce acc).length, ?_⟩)⟩, fun hp => absurd hp h, fun _ => ⟨rfl, rfl⟩⟩
    · have := map_update_new (P := Try.prog) str_keys Try.underlying94 hm x (.int .i64 1) hmiss
      rwa [e] at this
    · rw [← e, find_snoc _ 0 hmiss, Nat.zero_add]
      rfl
/-- What the rounds of names keep; the reader may be bad. -/
structure NI (w0 w W : World) (g gm : Nat) (v : Value) (acc : List ByteArray) (l : List (ByteArray × Value)) : Prop where
  only : Only w W g
  map_ : MapAt Value.string W gm l
  row : W.ownsRow w.heap.size 9 1 v acc.length (acc.map Value.string)
  gmge : w.heap.size ≤ gm
  glt : g < w.heap.size
  ge : w0.heap.size ≤ g
  off : v.ownBlock ≠ some gm
section
variable {w0 w W W' : World} {g gm : Nat} {v : Value} {acc : List ByteArray} {l : List (ByteArray × Value)}
theorem NI.below (h : NI w0 w W g gm v acc l) (hb : Below W.heap.size W W') : NI w0 w W' g gm v acc l :=
  ⟨h.only.trans (Only.of_below hb g), h.map_.below hb, own_kept h.row (fun k hk => hb.block k (own_lt h.row k hk)), h.gmge, h.glt, h.ge, h.off⟩
theorem NI.remap (h : NI w0 w W g gm v acc l) {l' : List (ByteArray × Value)} (hm : MapAt Value.string W' gm l') (hg : W.grownBy W' (some gm)) : NI w0 w W' g gm v acc l' := by
  have hgl := h.glt
  have hgm := h.gmge
  exact ⟨h.only.new hg hgm, hm, own_kept h.row (fun k hk => hg.block k (own_lt h.row k hk) (fun e => h.off (hk.trans e))), h.gmge, h.glt, h.ge, h.off⟩
theorem NI.step (h : NI w0 w W g gm v acc l) (ho : Only W W' g) : NI w0 w W' g gm v acc l := by
  have hgl := h.glt
  have hgm := h.gmge
  exact ⟨h.only.trans ho, h.map_.kept (ho.2 gm h.map_.lt (by omega)), own_kept h.row (fun k hk => ho.2 k (own_lt h.row k hk) (by have := own_base h.row k hk; omega)), h.gmge, h.glt, h.ge, h.off⟩
theorem NI.append (h : NI w0 w W g gm v acc l) {v' : Value} {x : ByteArray} (ho : W'.ownsRow w.heap.size 9 1 v' (acc.length + 1) (acc.map Value.string ++ [.string x])) (hg : W.grownBy W' v.ownBlock) (hat : v'.ownBlock = v.ownBlock ∨ ∃ q, v'.ownBlock = some q ∧ W.heap.size ≤ q) : NI w0 w W' g gm v' (acc ++ [x]) l := by
  have hgl := h.glt
  have hgm := h.gmge
  have hbase : ∀ k, v.ownBlock = some k → w.heap.size ≤ k := fun k hk => own_base h.row k hk
  refine ⟨h.only.through hg hbase, h.map_.kept (hg.block gm h.map_.lt (fun e => h.off e.symm)), ?_, h.gmge, h.glt, h.ge, ?_⟩
  · rw [List.length_append, List.map_append]
    simpa using ho
  · rcases hat with hat | ⟨q, hat, hq⟩
    · rw [hat]
      exact h.off
    · rw [hat]
      intro e
      injection e with e
      have := h.map_.lt
      omega
end
theorem z_range {x : ByteArray} {acc : List ByteArray} {z : Int} {p : Prop} (h1 : x ∈ acc → z = 1) (h2 : x ∉ acc → z = 0 ∧ p) : 0 ≤ z ∧ z ≤ 1 := by
  by_cases h : x ∈ acc
  · have := h1 h
    omega
  · have := (h2 h).1
    omega
theorem str_size (l : List Int) : (strOfNums l).size = l.length := by
  simp [strOfNums, size_list]
section
variable (w0 w : World) (g : Nat) (A : Option Addr) (c : Nat) (b : List Int) (i e : Nat)
theorem conv_nil (W : World) : (convert 37 9 (.slice none 0 0)).run Try.prog W = .ok (.string (⟨#[]⟩ : ByteArray)) W := by
  have := Kd.C_string (P := Try.prog) (w := W) (src := 37) (dst := 9) (c := 0) Try.underlying37 Try.underlying5 Try.underlying9 (A := none) (n := 0) (xs := []) ⟨rfl, by omega, fun h => absurd h (by omega)⟩
  exact this
theorem conv_cut {w0 W : World} {A : Option Addr} {b r2 : List Int} {j2 sz e : Nat} {x : ByteArray} (h : Kd.C (Kd.int .u8) w0 A b.length b) (ho : Below w0.heap.size w0 W) (hr : r2 = (b.take e).drop j2) (he : e ≤ b.length) (hs : j2 + sz ≤ e) (hx : strOfNums (r2.take sz) = x) : (convert 37 9 (.slice (cutAt A sz j2) sz sz)).run Try.prog W = .ok (.string x) W := by
  have e1 : r2.take sz = (b.drop j2).take sz := by rw [hr, List.drop_take, List.take_take, Nat.min_eq_left (by omega)]
  have := Kd.C_string (P := Try.prog) (w := W) (src := 37) (dst := 9) (c := sz) Try.underlying37 Try.underlying5 Try.underlying9 (Kd.C_below (cut_reads (i := j2) (n := sz) h (by omega)) ho)
  rw [← e1, hx] at this
  exact this
set_option maxHeartbeats 2000000 in
set_option maxRecDepth 100000 in
theorem names_ok (h : RS w0 w g A c b i e 0 0) (hby : ∀ x ∈ b, 0 ≤ x ∧ x < 256) (res : Except (Int × Int) (List ByteArray × List Int)) (hres : ((manyL e i ((b.take e).drop i)).bind fun p => namesL e p.1.toNat [] p.2) = res) :
    Calls Try.prog 52 #[.pointer (some ⟨g, 0, none⟩)] w fun x w' => ∃ v, x = .returned v ∧ St w0 w' g A c b e (res.map (·.2)) ∧ Only w w' g ∧ (∀ acc r, res = .ok (acc, r) → w'.ownsRow w.heap.size 9 1 v acc.length (acc.map Value.string)) ∧ IsSl v := by
  have HMA := Aside0.mk (many_ok w0 w g A c b i e h hby)
  have HY := Aside0.mk hby
  have GLT := Aside0.mk h.lt
  have GGE := Aside0.mk h.ge
  have H := Aside0.mk h
  clear h hby
  have HMB := Aside0.mk (fun n r => manyL_range (e := e) (fr := i) (l := (b.take e).drop i) (n := n) (r := r) (fun x hx => HY.out x (List.mem_of_mem_take (List.mem_of_mem_drop hx))))
  generalize manyL e i ((b.take e).drop i) = m at *
  match m with
  | .error f =>
    go_enter Try.func52, Try.ntmps52
    go_wp2_with (first
      | (go_at_call 87; refine HMA.out.mono ?_; rintro xx w1 ⟨v, rfl, hq1, hq2, hq3, hq4⟩; obtain rfl := hq4 f rfl; obtain ⟨j, hf, hrs⟩ := hq1; have HF := Aside0.mk hf; clear H; have H := Aside0.mk hrs; have HO := Aside0.mk hq2; clear hq2 hq3 hq4 hrs hf)
      | ((with_reducible refine gate_dst (N := 12) rfl ?_); refine map_event Value.string rfl 94 rfl ?_; intro gm hgm w2 hm hb2; have n1_ := Aside0.mk (H.out.below hb2); have n2_ := Aside0.mk (HO.out.trans (Only.of_below hb2 g)); clear H HO hm hb2; have H := n1_; have HO := n2_; clear n1_ n2_))
    refine wp_loop_once ?_
    go_wp2
    go_ret
    subst hres
    exact ⟨_, rfl, ⟨j, HF.out, H.out⟩, HO.out, (fun _ _ h => by cases h), ⟨_, _, _, rfl⟩⟩
  | .ok (n, r) =>
    have HMN := Aside0.mk (show (0 : Int) ≤ n from (HMB.out n r rfl).1)
    have HNB := Aside0.mk (show n ≤ 65536 from (HMB.out n r rfl).2)
    have HRES := Aside0.mk (show namesL e n.toNat [] r = res from hres)
    clear hres
    go_enter Try.func52, Try.ntmps52
    go_wp2_with (first
      | (go_at_call 87; refine HMA.out.mono ?_; rintro xx w1 ⟨v, rfl, hq1, hq2, hq3, hq4⟩; obtain rfl := (hq3 n r rfl).symm; obtain ⟨j, hrs, hr⟩ := hq1; have HR := Aside0.mk hr; clear H; have H := Aside0.mk hrs; have HO := Aside0.mk hq2; clear hq2 hq3 hq4 hrs hr)
      | ((with_reducible refine gate_dst (N := 12) rfl ?_); refine map_event Value.string rfl 94 rfl ?_; intro gm hgm w2 hm hb2; have n1_ := Aside0.mk (H.out.below hb2); have HI := Aside0.mk (show NI w0 w w2 g gm (.slice none 0 0) [] (heardOnce []) from ⟨HO.out.trans (Only.of_below hb2 g), hm, World.ownsRow_nil w2 _ _ _, by rw [hgm]; exact HO.out.1, GLT.out, GGE.out, by simp [Value.ownBlock]⟩); clear H HO hm hb2 hgm; have H := n1_; clear n1_))
    go_loopw [4, 6] (fun v4 v6 wr => ∃ (q : Nat) (acc : List ByteArray), v6 = .int .i64 q ∧ Aside0 ((∃ at_, RS w0 wr g A c b at_ e 0 0 ∧ NI w0 w wr g gm v4 acc (heardOnce acc) ∧ acc.length = q ∧ namesL e (n.toNat - q) acc ((b.take e).drop at_) = res ∧ q ≤ n.toNat) ∨ (∃ f at_, RS w0 wr g A c b at_ e f.1 f.2 ∧ f.2 ≠ 0 ∧ Only w wr g ∧ res = .error f ∧ q ≤ n.toNat ∧ IsSl v4))) (fun v4 v6 _ => n.toNat - (intOf v6).toNat)
    case atStart => exact ⟨0, [], rfl, ⟨.inl ⟨j, H.out, HI.out, rfl, by rw [← HR.out]; exact HRES.out, Nat.zero_le _⟩⟩⟩
    case round =>
      clear HI HR HRES HMA H
      obtain ⟨q, acc, rfl, hcase⟩ := hrel
      have qb : (q : Int) ≤ 65536 := by
        have h1 := HNB.out
        have h2 := HMN.out
        rcases hcase.out with ⟨_, _, _, _, _, h3⟩ | ⟨_, _, _, _, _, _, h3, _⟩ <;> omega
      obtain ⟨at_, hrs, hni, haq, hres, hq⟩ | ⟨f, at_, hrs, hf, hon, rfl, hq, hsl⟩ := hcase.out
      · clear hcase
        have HI := Aside0.mk hni
        have H := Aside0.mk hrs
        have HAQ := Aside0.mk haq
        have hlen : ((b.take e).drop at_).length = e - at_ := by have := hrs.e_; rw [List.length_drop, List.length_take]; omega
        have hat := hrs.at_
        have h1 := hrs.c1
        by_cases c1 : q < n.toNat
        · have b1 : decide ((q : Int) < n) = true := decide_eq_true (by omega)
          have HCO := Aside0.mk (count_ok w0 · g A c b at_ e · HY.out)
          rw [show n.toNat - q = (n.toNat - (q + 1)) + 1 by omega, namesL, hlen, show e - (e - at_) = at_ by omega] at hres
          clear hrs hni
          have hby := fun n r => cntL_nonneg e at_ ((b.take e).drop at_) 0 0 n r (fun x hx => HY.out x (List.mem_of_mem_take (List.mem_of_mem_drop hx))) (by omega)
          generalize cntL e at_ 0 0 ((b.take e).drop at_) = cnt at *
          have hcn := conv_nil
          match cnt with
          | .error f =>
            obtain ⟨z, L2, hin, hz1, hz2⟩ := incrs gm (⟨#[]⟩ : ByteArray) acc
            have HIN := Aside0.mk hin
            have hz01 := z_range hz1 hz2
            clear hz1 hz2
            have hzw : IntKind.i64.wrap (z + 1) = z + 1 := IntWalk.i64_in _ (by omega)
            clear hin
            go_wp2_with (first
              | (go_at_call 89; refine (HCO.out _ H.out).mono ?_; rintro xx w8 ⟨v, rfl, hq1, hq2, _, hq4⟩; obtain rfl := hq4 f rfl; obtain ⟨j2, hf, hrs⟩ := hq1; have HF := Aside0.mk hf; have n2_ := Aside0.mk (HI.out.step hq2); clear H HI h1; have H := Aside0.mk hrs; have HI := n2_; clear n2_ hq2 hq4 hrs hf; have h1 := H.out.c1)
              | (go_at_call 88; refine (take_bad w0 _ g A c b _ e _ _ _ H.out HF.out).mono ?_; rintro xx w8 ⟨rfl, hq1, hq2⟩; have n1_ := Aside0.mk hq1; have n2_ := Aside0.mk (HI.out.step hq2); clear H HI hq1 hq2; have H := n1_; have HI := n2_; clear n1_ n2_; have hlk := HIN.out.first _ HI.out.map_)
              | (go_at_call 54; refine (bad_same w0 _ g A c b _ e _ _ true H.out (by simpa using HF.out)).mono ?_; rintro xx w8 ⟨rfl, rfl⟩)
              | (go_at_call 54; refine (bad_same w0 _ g A c b _ e 0 0 false H.out rfl).mono ?_; rintro xx w8 ⟨rfl, rfl⟩)
              | (at_mapUpdate; obtain ⟨w9, hr9, hm9, hg9⟩ := HIN.out.store _ HI.out.map_; refine wpList_mute (w' := w9) rfl (by go_simp) ?_; have n1_ := Aside0.mk (H.out.grown hg9 (by have := HI.out.gmge; have := HI.out.glt; omega) (by have := HI.out.gmge; have := HI.out.glt; have := HI.out.ge; omega)); have hlk2 := HIN.out.last w9 hm9; have n2_ := Aside0.mk (HI.out.remap hm9 hg9); clear H HI hlk hr9 hm9 hg9; have H := n1_; have HI := n2_; clear n1_ n2_)
              | ((with_reducible refine gate_builtin (b := .append) (xs := #[.tmp 72, .tmp 74]) rfl ?_); at_builtin; refine print_append_cells w.heap.size rfl (.tmp 72) (.tmp 74) 86 9 (.string (⟨#[]⟩ : ByteArray)) 1 16 rfl Try.underlying86 (by kernel_rfl) rfl (by decide) (by decide) u4 acc.length (acc.map Value.string) [.string (⟨#[]⟩ : ByteArray)] rfl rfl rfl (by simp [Value.oneCell']) HI.out.row (Below.refl _ _) (HI.out.only.1) (by have := HAQ.out; have := HNB.out; have := HMN.out; omega) ?_; intro v5 w10 hown hbel hgr hat; have HSL := Aside0.mk (IsSl.own hown); have n1_ := Aside0.mk (H.out.through hgr (fun k hk => by have := own_base HI.out.row k hk; have := HI.out.glt; have := HI.out.ge; omega)); have n2_ := Aside0.mk (HI.out.append hown hgr hat); clear H HI hown hgr hat hbel hlk2; have H := n1_; have HI := n2_; clear n1_ n2_))
            go_roundw
            case measure => simp [intOf]; omega
            case rel => exact ⟨q + 1, acc ++ [(⟨#[]⟩ : ByteArray)], by go_num, ⟨.inr ⟨f, _, H.out, HF.out, HI.out.only, by rw [← hres], by omega, HSL.out⟩⟩⟩
          | .ok (size, r2) =>
            have hs0 := hby size r2 rfl
            obtain ⟨sz, rfl⟩ := Int.eq_ofNat_of_zero_le hs0
            simp only [Int.toNat_natCast] at hres
            clear hby hs0
            by_cases z0 : sz = 0
            · subst z0
              rw [if_pos (.inl rfl)] at hres
              obtain ⟨z, L2, hin, hz1, hz2⟩ := incrs gm (⟨#[]⟩ : ByteArray) acc
              have HIN := Aside0.mk hin
              have hz01 := z_range hz1 hz2
              have HZ1 := Aside0.mk hz1
              have HZ2 := Aside0.mk hz2
              clear hz1 hz2
              have hzw : IntKind.i64.wrap (z + 1) = z + 1 := IntWalk.i64_in _ (by omega)
              clear hin
              go_wp2_with (first
                | (go_at_call 89; refine (HCO.out _ H.out).mono ?_; rintro xx w8 ⟨v, rfl, hq1, hq2, hq3, _⟩; obtain rfl := (hq3 _ r2 rfl).symm; obtain ⟨j2, hrs, hr0⟩ := hq1; have hr : r2 = (b.take e).drop j2 := hr0; clear hr0; have HR2 := Aside0.mk hr; have hrl : r2.length = e - j2 := (by have := hrs.e_; rw [hr, List.length_drop, List.length_take]; omega); have hj2 := hrs.at_; have n2_ := Aside0.mk (HI.out.step hq2); clear H HI h1; have H := Aside0.mk hrs; have HI := n2_; clear n2_ hq2 hq3 hrs hr; have h1 := H.out.c1)
                | (go_at_call 88; refine (take_bad w0 _ g A c b _ e _ _ _ H.out HF.out).mono ?_; rintro xx w8 ⟨rfl, hq1, hq2⟩; have n1_ := Aside0.mk hq1; have n2_ := Aside0.mk (HI.out.step hq2); clear H HI hq1 hq2; have H := n1_; have HI := n2_; clear n1_ n2_; have hlk := HIN.out.first _ HI.out.map_)
                | (go_at_call 54; refine (bad_same w0 _ g A c b _ e _ _ true H.out (by simpa using HF.out)).mono ?_; rintro xx w8 ⟨rfl, rfl⟩)
                | (go_at_call 54; refine (bad_same w0 _ g A c b _ e 0 0 false H.out rfl).mono ?_; rintro xx w8 ⟨rfl, rfl⟩)
                | (go_at_call 55; refine (fail_ok w0 _ g A c b _ e _ _ H.out).mono ?_; rintro xx w8 ⟨rfl, hq1, hq2⟩; have HF := Aside0.mk (show (204 : Int) ≠ 0 by decide); have n1_ := Aside0.mk hq1; have n2_ := Aside0.mk (HI.out.step hq2); clear H HI hq1 hq2; have H := n1_; have HI := n2_; clear n1_ n2_; have h1 := H.out.c1)
                | (at_mapUpdate; obtain ⟨w9, hr9, hm9, hg9⟩ := HIN.out.store _ HI.out.map_; refine wpList_mute (w' := w9) rfl (by go_simp) ?_; have n1_ := Aside0.mk (H.out.grown hg9 (by have := HI.out.gmge; have := HI.out.glt; omega) (by have := HI.out.gmge; have := HI.out.glt; have := HI.out.ge; omega)); have hlk2 := HIN.out.last w9 hm9; have n2_ := Aside0.mk (HI.out.remap hm9 hg9); clear H HI hlk hr9 hm9 hg9; have H := n1_; have HI := n2_; clear n1_ n2_)
                | ((with_reducible refine gate_builtin (b := .append) (xs := #[.tmp 72, .tmp 74]) rfl ?_); at_builtin; refine print_append_cells w.heap.size rfl (.tmp 72) (.tmp 74) 86 9 (.string (⟨#[]⟩ : ByteArray)) 1 16 rfl Try.underlying86 (by kernel_rfl) rfl (by decide) (by decide) u4 acc.length (acc.map Value.string) [.string (⟨#[]⟩ : ByteArray)] rfl rfl rfl (by simp [Value.oneCell']) HI.out.row (Below.refl _ _) (HI.out.only.1) (by have := HAQ.out; have := HNB.out; have := HMN.out; omega) ?_; intro v5 w10 hown hbel hgr hat; have HSL := Aside0.mk (IsSl.own hown); have n1_ := Aside0.mk (H.out.through hgr (fun k hk => by have := own_base HI.out.row k hk; have := HI.out.glt; have := HI.out.ge; omega)); have n2_ := Aside0.mk (HI.out.append hown hgr hat); clear H HI hown hgr hat hbel hlk2; have H := n1_; have HI := n2_; clear n1_ n2_))
              go_roundw
              case measure => simp [intOf]; omega
              case rel => exact ⟨q + 1, acc ++ [(⟨#[]⟩ : ByteArray)], by go_num, ⟨.inr ⟨(((at_ : Nat) : Int), 204), _, H.out, HF.out, HI.out.only, by rw [← hres], by omega, HSL.out⟩⟩⟩
            have b5 : ((sz : Int) == 0) = false := by simp; omega
            by_cases z64 : 64 < sz
            · rw [if_pos (.inr (by omega))] at hres
              have b6 : decide ((sz : Int) > 64) = true := decide_eq_true (by omega)
              obtain ⟨z, L2, hin, hz1, hz2⟩ := incrs gm (⟨#[]⟩ : ByteArray) acc
              have HIN := Aside0.mk hin
              have hz01 := z_range hz1 hz2
              have HZ1 := Aside0.mk hz1
              have HZ2 := Aside0.mk hz2
              clear hz1 hz2
              have hzw : IntKind.i64.wrap (z + 1) = z + 1 := IntWalk.i64_in _ (by omega)
              clear hin
              go_wp2_with (first
                | (go_at_call 89; refine (HCO.out _ H.out).mono ?_; rintro xx w8 ⟨v, rfl, hq1, hq2, hq3, _⟩; obtain rfl := (hq3 _ r2 rfl).symm; obtain ⟨j2, hrs, hr0⟩ := hq1; have hr : r2 = (b.take e).drop j2 := hr0; clear hr0; have HR2 := Aside0.mk hr; have hrl : r2.length = e - j2 := (by have := hrs.e_; rw [hr, List.length_drop, List.length_take]; omega); have hj2 := hrs.at_; have n2_ := Aside0.mk (HI.out.step hq2); clear H HI h1; have H := Aside0.mk hrs; have HI := n2_; clear n2_ hq2 hq3 hrs hr; have h1 := H.out.c1)
                | (go_at_call 88; refine (take_bad w0 _ g A c b _ e _ _ _ H.out HF.out).mono ?_; rintro xx w8 ⟨rfl, hq1, hq2⟩; have n1_ := Aside0.mk hq1; have n2_ := Aside0.mk (HI.out.step hq2); clear H HI hq1 hq2; have H := n1_; have HI := n2_; clear n1_ n2_; have hlk := HIN.out.first _ HI.out.map_)
                | (go_at_call 54; refine (bad_same w0 _ g A c b _ e _ _ true H.out (by simpa using HF.out)).mono ?_; rintro xx w8 ⟨rfl, rfl⟩)
                | (go_at_call 54; refine (bad_same w0 _ g A c b _ e 0 0 false H.out rfl).mono ?_; rintro xx w8 ⟨rfl, rfl⟩)
                | (go_at_call 55; refine (fail_ok w0 _ g A c b _ e _ _ H.out).mono ?_; rintro xx w8 ⟨rfl, hq1, hq2⟩; have HF := Aside0.mk (show (204 : Int) ≠ 0 by decide); have n1_ := Aside0.mk hq1; have n2_ := Aside0.mk (HI.out.step hq2); clear H HI hq1 hq2; have H := n1_; have HI := n2_; clear n1_ n2_; have h1 := H.out.c1)
                | (at_mapUpdate; obtain ⟨w9, hr9, hm9, hg9⟩ := HIN.out.store _ HI.out.map_; refine wpList_mute (w' := w9) rfl (by go_simp) ?_; have n1_ := Aside0.mk (H.out.grown hg9 (by have := HI.out.gmge; have := HI.out.glt; omega) (by have := HI.out.gmge; have := HI.out.glt; have := HI.out.ge; omega)); have hlk2 := HIN.out.last w9 hm9; have n2_ := Aside0.mk (HI.out.remap hm9 hg9); clear H HI hlk hr9 hm9 hg9; have H := n1_; have HI := n2_; clear n1_ n2_)
                | ((with_reducible refine gate_builtin (b := .append) (xs := #[.tmp 72, .tmp 74]) rfl ?_); at_builtin; refine print_append_cells w.heap.size rfl (.tmp 72) (.tmp 74) 86 9 (.string (⟨#[]⟩ : ByteArray)) 1 16 rfl Try.underlying86 (by kernel_rfl) rfl (by decide) (by decide) u4 acc.length (acc.map Value.string) [.string (⟨#[]⟩ : ByteArray)] rfl rfl rfl (by simp [Value.oneCell']) HI.out.row (Below.refl _ _) (HI.out.only.1) (by have := HAQ.out; have := HNB.out; have := HMN.out; omega) ?_; intro v5 w10 hown hbel hgr hat; have HSL := Aside0.mk (IsSl.own hown); have n1_ := Aside0.mk (H.out.through hgr (fun k hk => by have := own_base HI.out.row k hk; have := HI.out.glt; have := HI.out.ge; omega)); have n2_ := Aside0.mk (HI.out.append hown hgr hat); clear H HI hown hgr hat hbel hlk2; have H := n1_; have HI := n2_; clear n1_ n2_))
              go_roundw
              case measure => simp [intOf]; omega
              case rel => exact ⟨q + 1, acc ++ [(⟨#[]⟩ : ByteArray)], by go_num, ⟨.inr ⟨(((at_ : Nat) : Int), 204), _, H.out, HF.out, HI.out.only, by rw [← hres], by omega, HSL.out⟩⟩⟩
            rw [if_neg (by omega)] at hres
            have b6 : decide ((sz : Int) > 64) = false := decide_eq_false (by omega)
            by_cases short : r2.length < sz
            · rw [if_pos short] at hres
              obtain ⟨z, L2, hin, hz1, hz2⟩ := incrs gm (⟨#[]⟩ : ByteArray) acc
              have HIN := Aside0.mk hin
              have hz01 := z_range hz1 hz2
              have HZ1 := Aside0.mk hz1
              have HZ2 := Aside0.mk hz2
              clear hz1 hz2
              have hzw : IntKind.i64.wrap (z + 1) = z + 1 := IntWalk.i64_in _ (by omega)
              clear hin
              go_wp2_with (first
                | (go_at_call 89; refine (HCO.out _ H.out).mono ?_; rintro xx w8 ⟨v, rfl, hq1, hq2, hq3, _⟩; obtain rfl := (hq3 _ r2 rfl).symm; obtain ⟨j2, hrs, hr0⟩ := hq1; have hr : r2 = (b.take e).drop j2 := hr0; clear hr0; have HR2 := Aside0.mk hr; have hrl : r2.length = e - j2 := (by have := hrs.e_; rw [hr, List.length_drop, List.length_take]; omega); have hj2 := hrs.at_; have n2_ := Aside0.mk (HI.out.step hq2); clear H HI h1; have H := Aside0.mk hrs; have HI := n2_; clear n2_ hq2 hq3 hrs hr; have h1 := H.out.c1)
                | (go_at_call 88; refine (take_short w0 _ g A c b _ e sz (by omega) H.out (by omega)).mono ?_; rintro xx w8 ⟨rfl, hq1, hq2⟩; have HF := Aside0.mk (show (200 : Int) ≠ 0 by decide); have n1_ := Aside0.mk hq1; have n2_ := Aside0.mk (HI.out.step hq2); clear H HI hq1 hq2; have H := n1_; have HI := n2_; clear n1_ n2_; have hlk := HIN.out.first _ HI.out.map_)
                | (go_at_call 54; refine (bad_same w0 _ g A c b _ e _ _ true H.out (by simpa using HF.out)).mono ?_; rintro xx w8 ⟨rfl, rfl⟩)
                | (go_at_call 54; refine (bad_same w0 _ g A c b _ e 0 0 false H.out rfl).mono ?_; rintro xx w8 ⟨rfl, rfl⟩)
                | (at_mapUpdate; obtain ⟨w9, hr9, hm9, hg9⟩ := HIN.out.store _ HI.out.map_; refine wpList_mute (w' := w9) rfl (by go_simp) ?_; have n1_ := Aside0.mk (H.out.grown hg9 (by have := HI.out.gmge; have := HI.out.glt; omega) (by have := HI.out.gmge; have := HI.out.glt; have := HI.out.ge; omega)); have hlk2 := HIN.out.last w9 hm9; have n2_ := Aside0.mk (HI.out.remap hm9 hg9); clear H HI hlk hr9 hm9 hg9; have H := n1_; have HI := n2_; clear n1_ n2_)
                | ((with_reducible refine gate_builtin (b := .append) (xs := #[.tmp 72, .tmp 74]) rfl ?_); at_builtin; refine print_append_cells w.heap.size rfl (.tmp 72) (.tmp 74) 86 9 (.string (⟨#[]⟩ : ByteArray)) 1 16 rfl Try.underlying86 (by kernel_rfl) rfl (by decide) (by decide) u4 acc.length (acc.map Value.string) [.string (⟨#[]⟩ : ByteArray)] rfl rfl rfl (by simp [Value.oneCell']) HI.out.row (Below.refl _ _) (HI.out.only.1) (by have := HAQ.out; have := HNB.out; have := HMN.out; omega) ?_; intro v5 w10 hown hbel hgr hat; have HSL := Aside0.mk (IsSl.own hown); have n1_ := Aside0.mk (H.out.through hgr (fun k hk => by have := own_base HI.out.row k hk; have := HI.out.glt; have := HI.out.ge; omega)); have n2_ := Aside0.mk (HI.out.append hown hgr hat); clear H HI hown hgr hat hbel hlk2; have H := n1_; have HI := n2_; clear n1_ n2_))
              go_roundw
              case measure => simp [intOf]; omega
              case rel => exact ⟨q + 1, acc ++ [(⟨#[]⟩ : ByteArray)], by go_num, ⟨.inr ⟨((e : Int), 200), _, H.out, HF.out, HI.out.only, by rw [← hres], by omega, HSL.out⟩⟩⟩
            rw [if_neg short] at hres
            have hxs : (strOfNums (r2.take sz)).size ≤ 140737488351232 := by rw [str_size, List.length_take]; omega
            generalize hx : strOfNums (r2.take sz) = x at *
            have HX := Aside0.mk hx
            have HXS := Aside0.mk hxs
            clear hx hxs
            obtain ⟨z, L2, hin, hz1, hz2⟩ := incrs gm x acc
            have HIN := Aside0.mk hin
            have hz01 := z_range hz1 hz2
            have HZ1 := Aside0.mk hz1
            have HZ2 := Aside0.mk hz2
            clear hz1 hz2
            have hzw : IntKind.i64.wrap (z + 1) = z + 1 := IntWalk.i64_in _ (by omega)
            clear hin
            cases hok : okName x with
            | false =>
              have HOK := Aside0.mk hok
              rw [if_pos (.inl hok)] at hres
              clear hok
              go_wp2_with (first
                | (go_at_call 89; refine (HCO.out _ H.out).mono ?_; rintro xx w8 ⟨v, rfl, hq1, hq2, hq3, _⟩; obtain rfl := (hq3 _ r2 rfl).symm; obtain ⟨j2, hrs, hr0⟩ := hq1; have hr : r2 = (b.take e).drop j2 := hr0; clear hr0; have HR2 := Aside0.mk hr; have hrl : r2.length = e - j2 := (by have := hrs.e_; rw [hr, List.length_drop, List.length_take]; omega); have hj2 := hrs.at_; have n2_ := Aside0.mk (HI.out.step hq2); clear H HI h1; have H := Aside0.mk hrs; have HI := n2_; clear n2_ hq2 hq3 hrs hr; have h1 := H.out.c1)
                | (go_at_call 88; refine (take_ok w0 _ g A c b _ e sz H.out (by omega)).mono ?_; rintro xx w8 ⟨rfl, hq1, hq2⟩; have n1_ := Aside0.mk hq1; have n2_ := Aside0.mk (HI.out.step hq2); clear H HI hq1 hq2; have H := n1_; have HI := n2_; clear n1_ n2_; have hlk := HIN.out.first _ HI.out.map_; have hcv := conv_cut H.out.rd H.out.old HR2.out H.out.e_ (by omega) HX.out)
                | (go_at_call 54; refine (bad_same w0 _ g A c b _ e 0 0 false H.out rfl).mono ?_; rintro xx w8 ⟨rfl, rfl⟩)
                | (go_at_call 55; refine (fail_ok w0 _ g A c b _ e _ _ H.out).mono ?_; rintro xx w8 ⟨rfl, hq1, hq2⟩; have HF := Aside0.mk (show (204 : Int) ≠ 0 by decide); have n1_ := Aside0.mk hq1; have n2_ := Aside0.mk (HI.out.step hq2); clear H HI hq1 hq2; have H := n1_; have HI := n2_; clear n1_ n2_; clear hlk2; have hlk2 := HIN.out.last _ HI.out.map_)
                | (at_mapUpdate; obtain ⟨w9, hr9, hm9, hg9⟩ := HIN.out.store _ HI.out.map_; refine wpList_mute (w' := w9) rfl (by go_simp) ?_; have n1_ := Aside0.mk (H.out.grown hg9 (by have := HI.out.gmge; have := HI.out.glt; omega) (by have := HI.out.gmge; have := HI.out.glt; have := HI.out.ge; omega)); have hlk2 := HIN.out.last w9 hm9; have n2_ := Aside0.mk (HI.out.remap hm9 hg9); clear H HI hlk hr9 hm9 hg9; have H := n1_; have HI := n2_; clear n1_ n2_)
                | (go_at_call 90; refine (own_lit x HXS.out _ HOK.out _).mono ?_; rintro xx w8 ⟨rfl, hb⟩; have n1_ := Aside0.mk (H.out.below hb); have n2_ := Aside0.mk (HI.out.below hb); clear H HI hlk2 hb; have H := n1_; have HI := n2_; clear n1_ n2_; have hlk2 := HIN.out.last _ HI.out.map_)
                | ((with_reducible refine gate_builtin (b := .append) (xs := #[.tmp 72, .tmp 74]) rfl ?_); at_builtin; refine print_append_cells w.heap.size rfl (.tmp 72) (.tmp 74) 86 9 (.string (⟨#[]⟩ : ByteArray)) 1 16 rfl Try.underlying86 (by kernel_rfl) rfl (by decide) (by decide) u4 acc.length (acc.map Value.string) [.string x] rfl rfl rfl (by simp [Value.oneCell']) HI.out.row (Below.refl _ _) (HI.out.only.1) (by have := HAQ.out; have := HNB.out; have := HMN.out; omega) ?_; intro v5 w10 hown hbel hgr hat; have HSL := Aside0.mk (IsSl.own hown); have n1_ := Aside0.mk (H.out.through hgr (fun k hk => by have := own_base HI.out.row k hk; have := HI.out.glt; have := HI.out.ge; omega)); have n2_ := Aside0.mk (HI.out.append hown hgr hat); clear H HI hown hgr hat hbel hlk2; have H := n1_; have HI := n2_; clear n1_ n2_))
              go_roundw
              case measure => simp [intOf]; omega
              case rel => exact ⟨q + 1, acc ++ [x], by go_num, ⟨.inr ⟨(((j2 : Nat) : Int), 204), _, H.out, HF.out, HI.out.only, by rw [← hres, hrl, show e - (e - j2) = j2 by omega], by omega, HSL.out⟩⟩⟩
            | true =>
              have HOK := Aside0.mk hok
              by_cases cd : x ∈ acc
              · rw [if_pos (.inr ((among_iff x acc).2 cd))] at hres
                have hd : decide (z + 1 > 1) = true := by rw [HZ1.out cd]; decide
                clear hok
                go_wp2_with (first
                  | (go_at_call 89; refine (HCO.out _ H.out).mono ?_; rintro xx w8 ⟨v, rfl, hq1, hq2, hq3, _⟩; obtain rfl := (hq3 _ r2 rfl).symm; obtain ⟨j2, hrs, hr0⟩ := hq1; have hr : r2 = (b.take e).drop j2 := hr0; clear hr0; have HR2 := Aside0.mk hr; have hrl : r2.length = e - j2 := (by have := hrs.e_; rw [hr, List.length_drop, List.length_take]; omega); have hj2 := hrs.at_; have n2_ := Aside0.mk (HI.out.step hq2); clear H HI h1; have H := Aside0.mk hrs; have HI := n2_; clear n2_ hq2 hq3 hrs hr; have h1 := H.out.c1)
                  | (go_at_call 88; refine (take_ok w0 _ g A c b _ e sz H.out (by omega)).mono ?_; rintro xx w8 ⟨rfl, hq1, hq2⟩; have n1_ := Aside0.mk hq1; have n2_ := Aside0.mk (HI.out.step hq2); clear H HI hq1 hq2; have H := n1_; have HI := n2_; clear n1_ n2_; have hlk := HIN.out.first _ HI.out.map_; have hcv := conv_cut H.out.rd H.out.old HR2.out H.out.e_ (by omega) HX.out)
                  | (go_at_call 54; refine (bad_same w0 _ g A c b _ e 0 0 false H.out rfl).mono ?_; rintro xx w8 ⟨rfl, rfl⟩)
                  | (go_at_call 55; refine (fail_ok w0 _ g A c b _ e _ _ H.out).mono ?_; rintro xx w8 ⟨rfl, hq1, hq2⟩; have HF := Aside0.mk (show (204 : Int) ≠ 0 by decide); have n1_ := Aside0.mk hq1; have n2_ := Aside0.mk (HI.out.step hq2); clear H HI hq1 hq2; have H := n1_; have HI := n2_; clear n1_ n2_; clear hlk2; have hlk2 := HIN.out.last _ HI.out.map_)
                  | (at_mapUpdate; obtain ⟨w9, hr9, hm9, hg9⟩ := HIN.out.store _ HI.out.map_; refine wpList_mute (w' := w9) rfl (by go_simp) ?_; have n1_ := Aside0.mk (H.out.grown hg9 (by have := HI.out.gmge; have := HI.out.glt; omega) (by have := HI.out.gmge; have := HI.out.glt; have := HI.out.ge; omega)); have hlk2 := HIN.out.last w9 hm9; have n2_ := Aside0.mk (HI.out.remap hm9 hg9); clear H HI hlk hr9 hm9 hg9; have H := n1_; have HI := n2_; clear n1_ n2_)
                  | (go_at_call 90; refine (own_lit x HXS.out _ HOK.out _).mono ?_; rintro xx w8 ⟨rfl, hb⟩; have n1_ := Aside0.mk (H.out.below hb); have n2_ := Aside0.mk (HI.out.below hb); clear H HI hlk2 hb; have H := n1_; have HI := n2_; clear n1_ n2_; have hlk2 := HIN.out.last _ HI.out.map_)
                  | ((with_reducible refine gate_builtin (b := .append) (xs := #[.tmp 72, .tmp 74]) rfl ?_); at_builtin; refine print_append_cells w.heap.size rfl (.tmp 72) (.tmp 74) 86 9 (.string (⟨#[]⟩ : ByteArray)) 1 16 rfl Try.underlying86 (by kernel_rfl) rfl (by decide) (by decide) u4 acc.length (acc.map Value.string) [.string x] rfl rfl rfl (by simp [Value.oneCell']) HI.out.row (Below.refl _ _) (HI.out.only.1) (by have := HAQ.out; have := HNB.out; have := HMN.out; omega) ?_; intro v5 w10 hown hbel hgr hat; have HSL := Aside0.mk (IsSl.own hown); have n1_ := Aside0.mk (H.out.through hgr (fun k hk => by have := own_base HI.out.row k hk; have := HI.out.glt; have := HI.out.ge; omega)); have n2_ := Aside0.mk (HI.out.append hown hgr hat); clear H HI hown hgr hat hbel hlk2; have H := n1_; have HI := n2_; clear n1_ n2_))
                go_roundw
                case measure => simp [intOf]; omega
                case rel => exact ⟨q + 1, acc ++ [x], by go_num, ⟨.inr ⟨(((j2 : Nat) : Int), 204), _, H.out, HF.out, HI.out.only, by rw [← hres, hrl, show e - (e - j2) = j2 by omega], by omega, HSL.out⟩⟩⟩
              · rw [if_neg (by rintro (h | h); rw [hok] at h; cases h; exact cd ((among_iff x acc).1 h))] at hres
                have hd : decide (z + 1 > 1) = false := by rw [(HZ2.out cd).1]; decide
                have hL2 := (HZ2.out cd).2
                subst hL2
                clear hok
                go_wp2_with (first
                  | (go_at_call 89; refine (HCO.out _ H.out).mono ?_; rintro xx w8 ⟨v, rfl, hq1, hq2, hq3, _⟩; obtain rfl := (hq3 _ r2 rfl).symm; obtain ⟨j2, hrs, hr0⟩ := hq1; have hr : r2 = (b.take e).drop j2 := hr0; clear hr0; have HR2 := Aside0.mk hr; have hrl : r2.length = e - j2 := (by have := hrs.e_; rw [hr, List.length_drop, List.length_take]; omega); have hj2 := hrs.at_; have n2_ := Aside0.mk (HI.out.step hq2); clear H HI h1; have H := Aside0.mk hrs; have HI := n2_; clear n2_ hq2 hq3 hrs hr; have h1 := H.out.c1)
                  | (go_at_call 88; refine (take_ok w0 _ g A c b _ e sz H.out (by omega)).mono ?_; rintro xx w8 ⟨rfl, hq1, hq2⟩; have n1_ := Aside0.mk hq1; have n2_ := Aside0.mk (HI.out.step hq2); clear H HI hq1 hq2; have H := n1_; have HI := n2_; clear n1_ n2_; have hlk := HIN.out.first _ HI.out.map_; have hcv := conv_cut H.out.rd H.out.old HR2.out H.out.e_ (by omega) HX.out)
                  | (go_at_call 54; refine (bad_same w0 _ g A c b _ e 0 0 false H.out rfl).mono ?_; rintro xx w8 ⟨rfl, rfl⟩)
                  | (at_mapUpdate; obtain ⟨w9, hr9, hm9, hg9⟩ := HIN.out.store _ HI.out.map_; refine wpList_mute (w' := w9) rfl (by go_simp) ?_; have n1_ := Aside0.mk (H.out.grown hg9 (by have := HI.out.gmge; have := HI.out.glt; omega) (by have := HI.out.gmge; have := HI.out.glt; have := HI.out.ge; omega)); have hlk2 := HIN.out.last w9 hm9; have n2_ := Aside0.mk (HI.out.remap hm9 hg9); clear H HI hlk hr9 hm9 hg9; have H := n1_; have HI := n2_; clear n1_ n2_)
                  | (go_at_call 90; refine (own_lit x HXS.out _ HOK.out _).mono ?_; rintro xx w8 ⟨rfl, hb⟩; have n1_ := Aside0.mk (H.out.below hb); have n2_ := Aside0.mk (HI.out.below hb); clear H HI hlk2 hb; have H := n1_; have HI := n2_; clear n1_ n2_; have hlk2 := HIN.out.last _ HI.out.map_)
                  | ((with_reducible refine gate_builtin (b := .append) (xs := #[.tmp 72, .tmp 74]) rfl ?_); at_builtin; refine print_append_cells w.heap.size rfl (.tmp 72) (.tmp 74) 86 9 (.string (⟨#[]⟩ : ByteArray)) 1 16 rfl Try.underlying86 (by kernel_rfl) rfl (by decide) (by decide) u4 acc.length (acc.map Value.string) [.string x] rfl rfl rfl (by simp [Value.oneCell']) HI.out.row (Below.refl _ _) (HI.out.only.1) (by have := HAQ.out; have := HNB.out; have := HMN.out; omega) ?_; intro v5 w10 hown hbel hgr hat; have HSL := Aside0.mk (IsSl.own hown); have n1_ := Aside0.mk (H.out.through hgr (fun k hk => by have := own_base HI.out.row k hk; have := HI.out.glt; have := HI.out.ge; omega)); have n2_ := Aside0.mk (HI.out.append hown hgr hat); clear H HI hown hgr hat hbel hlk2; have H := n1_; have HI := n2_; clear n1_ n2_))
                go_roundw
                case measure => simp [intOf]; omega
                case rel => exact ⟨q + 1, acc ++ [x], by go_num, ⟨.inl ⟨j2 + sz, H.out, HI.out, by simp [haq], by rw [← hres, HR2.out, List.drop_drop], by omega⟩⟩⟩
        · have b1 : decide ((q : Int) < n) = false := decide_eq_false (by have := HMN.out; omega)
          rw [show n.toNat - q = 0 by omega, namesL] at hres
          go_wp2
          go_ret
          subst hres
          exact ⟨_, rfl, ⟨_, H.out, rfl⟩, HI.out.only, (fun acc' r' h => by injection h with h; injection h with h1 h2; rw [← h1]; exact HI.out.row), IsSl.own HI.out.row⟩
      · clear hcase
        have HF := Aside0.mk hf
        have H := Aside0.mk hrs
        have HO := Aside0.mk hon
        clear hf hrs hon
        by_cases c1 : q < n.toNat
        · have b1 : decide ((q : Int) < n) = true := decide_eq_true (by have := HMN.out; omega)
          go_wp2_with (first
            | (go_at_call 54; refine (bad_same w0 _ g A c b _ _ _ _ true H.out (by simpa using HF.out)).mono ?_; rintro xx w1 ⟨rfl, rfl⟩))
          go_ret
          exact ⟨_, rfl, ⟨_, HF.out, H.out⟩, HO.out, (fun _ _ h => by cases h), hsl⟩
        · have b1 : decide ((q : Int) < n) = false := decide_eq_false (by have := HMN.out; omega)
          go_wp2
          go_ret
          exact ⟨_, rfl, ⟨_, HF.out, H.out⟩, HO.out, (fun _ _ h => by cases h), hsl⟩
theorem names_bad (fa fc : Int) (h : RS w0 w g A c b i e fa fc) (hc : fc ≠ 0) : Calls Try.prog 52 #[.pointer (some ⟨g, 0, none⟩)] w fun x w' => x = .returned (.slice none 0 0) ∧ RS w0 w' g A c b i e fa fc ∧ Only w w' g := by
  have HMA := Aside0.mk (many_bad w0 w g A c b i e fa fc h hc)
  clear h hc
  go_enter Try.func52, Try.ntmps52
  go_wp2_with (first
    | (go_at_call 87; refine HMA.out.mono ?_; rintro xx w1 ⟨rfl, hq1, hq2⟩; have H := Aside0.mk hq1; have HO := Aside0.mk hq2; clear hq1 hq2)
    | ((with_reducible refine gate_dst (N := 12) rfl ?_); refine map_event Value.string rfl 94 rfl ?_; intro gm hgm w2 hm hb2; have n1_ := Aside0.mk (H.out.below hb2); have n2_ := Aside0.mk (HO.out.trans (Only.of_below hb2 g)); clear H HO hm hb2; have H := n1_; have HO := n2_; clear n1_ n2_))
  refine wp_loop_once ?_
  go_wp2
  go_ret
  exact ⟨rfl, H.out, HO.out⟩
end
end Go.Proofs.Ytebiogaacikphaa.Pack
end
section
namespace Go.Proofs.Ytebiogaacikphaa.Pack
open Go.RowKit Go.Proofs.YtebiogaacikphaaW.PrintWords Go.Proofs.Ytebiogaacikphaa.PAll
set_option linter.unusedVariables false
set_option linter.unusedSimpArgs false
/-- w' is w, but for blocks of a kind and for what is new. -/
structure But (P : Nat → Prop) (w w' : World) : Prop where
  os : w'.os = w.os
  tape : w'.tape = w.tape
  output : w'.output = w.output
  size : w.heap.size ≤ w'.heap.size
  block : ∀ k, k < w.heap.size → ¬ P k → w'.heap[k]? = w.heap[k]?
theorem But.refl (P : Nat → Prop) (w : World) : But P w w := ⟨rfl, rfl, rfl, Nat.le_refl _, fun _ _ _ => rfl⟩
theorem But.of_below {P : Nat → Prop} {w w' : World} (h : Below w.heap.size w w') : But P w w' := ⟨h.os, h.tape, h.output, h.size, fun k hk _ => h.block k hk⟩
theorem But.of_grown {P : Nat → Prop} {w w' : World} {r : Option Nat} (h : w.grownBy w' r) (hr : ∀ k, r = some k → k < w.heap.size → P k) : But P w w' := ⟨h.os, h.tape, h.output, h.size, fun k hk hp => h.block k hk (fun e => hp (hr k e.symm hk))⟩
theorem But.trans {P Q : Nat → Prop} {w w1 w2 : World} (h : But P w w1) (k : But Q w1 w2) (hq : ∀ j, j < w.heap.size → Q j → P j) : But P w w2 :=
  ⟨k.os.trans h.os, k.tape.trans h.tape, k.output.trans h.output, Nat.le_trans h.size k.size, fun j hj hp => (k.block j (Nat.lt_of_lt_of_le hj h.size) (fun e => hp (hq j hj e))).trans (h.block j hj hp)⟩
theorem But.below {P : Nat → Prop} {B : Nat} {w w1 w2 : World} (h : Below B w w1) (hB : B ≤ w1.heap.size) (k : But P w1 w2) (hp : ∀ j, P j → B ≤ j) : Below B w w2 :=
  ⟨k.os.trans h.os, k.tape.trans h.tape, k.output.trans h.output, Nat.le_trans h.size k.size, fun j hj => (k.block j (Nat.lt_of_lt_of_le hj hB) (fun e => by have := hp j e; omega)).trans (h.block j hj)⟩
/-- Field j of the block gu holds a list of k numbers of the call's own. -/
structure NS (base : Nat) (W : World) (gu : Nat) (cs : List Value) (j : Nat) (v : Value) (k : Nat) : Prop where
  row : RowAt W gu 103 cs
  at_ : cs[j]? = some v
  own : ∃ xs, W.ownsRow base 3 1 v k xs
  ge : base ≤ gu
  off : v.ownBlock ≠ some gu
theorem own_len {W : World} {base : Nat} {t : TypeId} {size n : Nat} {v : Value} {xs : List Value} (h : W.ownsRow base t size v n xs) : ∃ A c, v = .slice A n c := own_slice h
theorem next_no (base : Nat) (w : World) (gu j : Nat) (cs : List Value) (v : Value) (k n size : Nat) (h : NS base w gu cs j v k) (hno : k < n ∨ size ≤ n) :
    Calls Try.prog 109 #[.pointer (some ⟨gu, j, none⟩), .int .i64 n, .int .i64 size] w fun x w' => x = .returned (.bool false) ∧ w' = w := by
  obtain ⟨xs, hown⟩ := h.own
  obtain ⟨A, c, rfl⟩ := own_len hown
  have hc : w.cell? ⟨gu, j, none⟩ = some (.slice A k c) := (h.row.cell j).trans h.at_
  clear h hown
  by_cases c1 : k < n
  · have b1 : decide ((n : Int) > (k : Int)) = true := decide_eq_true (by omega)
    go_enter Try.func109, Try.ntmps109
    go_wp2
    go_ret
    exact ⟨rfl, rfl⟩
  · have b1 : decide ((n : Int) > (k : Int)) = false := decide_eq_false (by omega)
    have b2 : decide ((n : Int) ≥ (size : Int)) = true := decide_eq_true (by omega)
    go_enter Try.func109, Try.ntmps109
    go_wp2
    go_ret
    exact ⟨rfl, rfl⟩
theorem next_old (base : Nat) (w : World) (gu j : Nat) (cs : List Value) (v : Value) (k n size : Nat) (h : NS base w gu cs j v k) (h1 : n < k) (h2 : n < size) :
    Calls Try.prog 109 #[.pointer (some ⟨gu, j, none⟩), .int .i64 n, .int .i64 size] w fun x w' => x = .returned (.bool true) ∧ w' = w := by
  obtain ⟨xs, hown⟩ := h.own
  obtain ⟨A, c, rfl⟩ := own_len hown
  have hc : w.cell? ⟨gu, j, none⟩ = some (.slice A k c) := (h.row.cell j).trans h.at_
  clear h hown
  have b1 : decide ((n : Int) > (k : Int)) = false := decide_eq_false (by omega)
  have b2 : decide ((n : Int) ≥ (size : Int)) = false := decide_eq_false (by omega)
  have b3 : ((n : Int) == (k : Int)) = false := by simp; omega
  go_enter Try.func109, Try.ntmps109
  go_wp2
  go_ret
  exact ⟨rfl, rfl⟩
theorem next_new (base : Nat) (w : World) (gu j : Nat) (cs : List Value) (v : Value) (k size : Nat) (h : NS base w gu cs j v k) (h2 : k < size) (hs : size ≤ 65536) :
    Calls Try.prog 109 #[.pointer (some ⟨gu, j, none⟩), .int .i64 k, .int .i64 size] w fun x w' => ∃ v', x = .returned (.bool true) ∧ NS base w' gu (cs.set j v') j v' (k + 1) ∧ But (fun q => q = gu ∨ some q = v.ownBlock) w w' ∧ (v'.ownBlock = v.ownBlock ∨ ∃ q, v'.ownBlock = some q ∧ w.heap.size ≤ q) := by
  obtain ⟨xs, hown⟩ := h.own
  obtain ⟨A, c, rfl⟩ := own_len hown
  have hc : w.cell? ⟨gu, j, none⟩ = some (.slice A k c) := (h.row.cell j).trans h.at_
  have HN := Aside0.mk h
  have HOW := Aside0.mk hown
  clear h hown
  have b1 : decide ((k : Int) > (k : Int)) = false := decide_eq_false (by omega)
  have b2 : decide ((k : Int) ≥ (size : Int)) = false := decide_eq_false (by omega)
  go_enter Try.func109, Try.ntmps109
  go_wp2_with (first
    | ((with_reducible refine gate_builtin (b := .append) (xs := #[.tmp 27, .tmp 29]) rfl ?_); at_builtin; refine print_append_cells base rfl (.tmp 27) (.tmp 29) 101 3 (.int .i64 0) 1 8 rfl Try.underlying101 (by kernel_rfl) rfl (by decide) (by decide) (.slice A k c) k xs [.int .i64 k] rfl rfl rfl (by simp [Value.oneCell']) HOW.out (Below.refl _ _) (by have := HN.out.ge; have := HN.out.row.lt; omega) (by omega) ?_; intro v5 w5 hown hbel hgr hat; obtain ⟨A5, c5, rfl⟩ := own_len hown; have HG := Aside0.mk hgr; have HAT := Aside0.mk hat; have HO5 := Aside0.mk hown; have HR5 := Aside0.mk (HN.out.row.grown hgr (fun e => HN.out.off e.symm)); clear hown hbel hgr hat hc)
    | ((with_reducible refine gate_store (t := 101) (p := 31) rfl ?_); refine put_event rfl rfl 101 (.tmp 31) (.tmp 30) rfl (off := j) (u := .slice A5 (k + 1) c5) (seg := [.slice A5 (k + 1) c5]) rfl rfl HR5.out rfl (by kernel_rfl) (by have := (List.getElem?_eq_some_iff.1 HN.out.at_).1; simp; omega) (by simp [Value.oneCell']) ?_; intro w6 hrow hgr; have HROW := Aside0.mk hrow; have HG6 := Aside0.mk hgr; clear hrow hgr))
  go_ret
  have hjl := (List.getElem?_eq_some_iff.1 HN.out.at_).1
  have hset : cs.take j ++ [Value.slice A5 (k + 1) c5] ++ cs.drop (j + 1) = cs.set j (.slice A5 (k + 1) c5) := by
    rw [List.set_eq_take_append_cons_drop, if_pos hjl, List.append_assoc]
    rfl
  have hge := HN.out.ge
  have hlt := HN.out.row.lt
  have hown5 := HO5.out
  have hoff : (Value.slice A5 (k + 1) c5).ownBlock ≠ some gu := by
    rcases HAT.out with e | ⟨q, e, hq⟩
    · rw [e]; exact HN.out.off
    · rw [e]; intro h; injection h with h; omega
  refine ⟨_, rfl, ⟨by rw [← hset]; exact HROW.out, by rw [List.getElem?_set_self hjl], ⟨_, own_kept hown5 (fun q hq => HG6.out.block q (own_lt hown5 q hq) (fun e => hoff (hq.trans e)))⟩, hge, hoff⟩, (But.of_grown HG.out (fun k hk _ => .inr hk.symm)).trans (But.of_grown (P := fun q => q = gu ∨ some q = (Value.slice A5 (k + 1) c5).ownBlock) HG6.out (fun k hk _ => by injection hk with hk; exact .inl hk.symm)) (fun j hj h => by
    rcases h with h | h
    · exact .inl h
    · rcases HAT.out with e | ⟨q, e, hq⟩
      · exact .inr (h.trans e)
      · rw [e] at h; injection h with h; omega), HAT.out⟩
end Go.Proofs.Ytebiogaacikphaa.Pack
end
