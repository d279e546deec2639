/- Parts of the proof of packEncodes: Lexis, PAllx21, PackOwn, PackNames, PackNext, PAllx22, PackPut, PackProgram, PAllx17, Contains. No condition beyond each lemma's own. -/
import Derived.Test.YtebiogaacikphaaTE3
import Derived.Test.YtebiogaacikphaaTE4
import Derived.Test.YtebiogaacikphaaTE5
section
namespace Go.Proofs.Ytebiogaacikphaa.Names
open Go.RowKit Go.Proofs.YtebiogaacikphaaW.PrintWords Go.Proofs.Ytebiogaacikphaa.PAll
set_option linter.unusedVariables false
theorem w64n (a b : Nat) (h : a + b ≤ 140737488351232) : wrap64 ((a : Int) + (b : Int)) = ((a + b : Nat) : Int) := by
  rw [w64] <;> omega
theorem lletter_some (a : Int) : lexis_letter.f a = some (letterI a) := by
  unfold lexis_letter.f letterI
  by_cases h1 : 97 ≤ a <;> by_cases h2 : a ≤ 122 <;> by_cases h3 : 65 ≤ a <;> by_cases h4 : a ≤ 90 <;> simp [h1, h2, h3, h4]
theorem ldigit_some (a : Int) : lexis_digit.f a = some (digitI a) := by
  unfold lexis_digit.f digitI
  by_cases h1 : 48 ≤ a <;> simp [h1]
theorem extract_list (s : ByteArray) (a : Nat) : (s.extract a s.size).data.toList = s.data.toList.drop a := by
  rw [ByteArray.data_extract, Array.toList_extract, size_list, List.extract_eq_take_drop]
  exact List.take_of_length_le (by rw [List.length_drop]; exact Nat.le_refl _)
theorem extract_front (s : ByteArray) (b : Nat) : (s.extract 0 b).data.toList = s.data.toList.take b := by
  rw [ByteArray.data_extract, Array.toList_extract]
  simp [List.extract]
/-- The loop of lexis.own, j bytes behind place i. -/
theorem lown_loop (s : ByteArray) (hs : s.data.toList.length ≤ 140737488351232) (i : Nat) (hi : i ≤ s.data.toList.length) : ∀ (d j : Nat), i + j + d = s.data.toList.length →
    Ev (fun k => lexis_own.l0 k s (i : Int) (j : Int)) (if j = 0 then (ownLen (s.data.toList.drop (i + j)) : Int) else ((j + run inName (s.data.toList.drop (i + j)) : Nat) : Int)) := by
  intro d
  induction d with
  | zero =>
    intro j hj
    refine Ev.step (fun _ => by rw [lexis_own.l0]) ?_
    have hw0 : wrap64 ((i : Int) + (j : Int)) = ((i + j : Nat) : Int) := by rw [w64] <;> omega
    rw [hw0]
    refine Ev.neg (by rw [size_list]; omega) ?_
    exact Ev.some_ (by rw [List.drop_of_length_le (by omega)]; simp [run, ownLen])
  | succ d ih =>
    intro j hj
    have hlt : i + j < s.data.toList.length := by omega
    refine Ev.step (fun _ => by rw [lexis_own.l0]) ?_
    have hw0 : wrap64 ((i : Int) + (j : Int)) = ((i + j : Nat) : Int) := by rw [w64] <;> omega
    have hw : wrap64 ((j : Int) + 1) = ((j + 1 : Nat) : Int) := by rw [w64] <;> omega
    rw [hw0, hw]
    refine Ev.pos (by rw [size_list]; omega) ?_
    refine Ev.pos (by omega) ?_
    refine Ev.bind (Ev.const (lletter_some _)) ?_
    have hn := ih (j + 1) (by omega)
    rw [if_neg (by omega), show i + (j + 1) = i + j + 1 by omega] at hn
    rw [bt_nat s (i + j) hlt, drop_at hlt]
    generalize s.data.toList[i + j] = c
    have hin : inName c = (letterI c.toNat || digitI c.toNat) := rfl
    have hc : letter c = letterI c.toNat := rfl
    refine Ev.ite (fun h => ?_) (fun h => ?_)
    · refine hn.to ?_
      rw [ownLen, run, hin, hc, h]
      simp
      split <;> omega
    · refine Ev.ite (fun h0 => ?_) (fun h0 => ?_)
      · refine Ev.bind (Ev.const (ldigit_some _)) ?_
        refine Ev.ite (fun h' => ?_) (fun h' => ?_)
        · exact hn.to (by rw [if_neg (by omega), run, hin, h', if_pos (by simp)]; omega)
        · exact Ev.some_ (by rw [if_neg (by omega), run, hin, if_neg (by simp [h, h'])]; rfl)
      · exact Ev.some_ (by rw [if_pos (by omega), ownLen, hc, if_neg h]; omega)
theorem lown_ev (s : ByteArray) (hs : s.data.toList.length ≤ 140737488351232) (i : Nat) (hi : i ≤ s.data.toList.length) : Ev (fun k => lexis_own.f k s (i : Int)) (ownLen (s.data.toList.drop i) : Int) := by
  have := lown_loop s hs i hi (s.data.toList.length - i) 0 (by omega)
  rw [if_pos rfl] at this
  exact this
theorem ldigits_ev (s : ByteArray) (hs : s.data.toList.length ≤ 140737488351232) (r : List UInt8) (c0 : UInt8) (hr : s.data.toList = c0 :: r) (v : Int) (hv : ∀ e : Int, e = ((1 + run digit r : Nat) : Int) → Ev (fun k => if e = 1 then some 0 else if e > 6 then some 0 else if 1 < (s.size : Int) then (if bt s 1 = 48 then some 0 else some e) else none) v) : ∀ (d i : Nat), i + d = s.data.toList.length → 1 ≤ i → i + run digit (s.data.toList.drop i) = 1 + run digit r →
    Ev (fun k => lexis_numbered.l0 k s (i : Int)) v := by
  intro d
  induction d with
  | zero =>
    intro i hi h1 he
    refine Ev.step (fun _ => by rw [lexis_numbered.l0]) ?_
    refine Ev.neg (by rw [size_list]; omega) ?_
    rw [List.drop_of_length_le (by omega)] at he
    exact hv _ (by simp [run] at he; omega)
  | succ d ih =>
    intro i hi h1 he
    have hlt : i < s.data.toList.length := by omega
    refine Ev.step (fun _ => by rw [lexis_numbered.l0]) ?_
    refine Ev.pos (by rw [size_list]; omega) ?_
    refine Ev.pos (by omega) ?_
    refine Ev.bind (Ev.const (ldigit_some _)) ?_
    have hw : wrap64 ((i : Int) + 1) = ((i + 1 : Nat) : Int) := by rw [w64] <;> omega
    have hn := ih (i + 1) (by omega) (by omega)
    rw [hw, bt_nat s i hlt]
    rw [drop_at hlt] at he
    generalize s.data.toList[i] = c at *
    have hin : digit c = digitI c.toNat := rfl
    refine Ev.ite (fun h => ?_) (fun h => ?_)
    · refine hn ?_
      rw [run, hin, h, if_pos rfl] at he
      omega
    · refine hv _ ?_
      rw [run, hin, if_neg h] at he
      omega
theorem lnumbered_ev (s : ByteArray) (hs : s.data.toList.length ≤ 140737488351232) : Ev (fun k => lexis_numbered.f k s) (tilde s.data.toList : Int) := by
  unfold lexis_numbered.f
  rw [ByteArray.toList_eq]
  refine Ev.ite (fun h => ?_) (fun h => ?_)
  · refine Ev.step (fun _ => by rw [lexis_numbered.j0]) ?_
    exact Ev.pos rfl (Ev.some_ (by rw [h]; rfl))
  · have h0 : 0 < s.data.toList.length := by
      cases hl : s.data.toList with
      | nil => exact absurd hl h
      | cons a b => simp
    refine Ev.pos (by rw [size_list]; omega) ?_
    refine Ev.step (fun _ => by rw [lexis_numbered.j0]) ?_
    have hc : ∃ c r, s.data.toList = c :: r := by
      cases hl : s.data.toList with
      | nil => exact absurd hl h
      | cons a b => exact ⟨a, b, rfl⟩
    obtain ⟨c, r, hr⟩ := hc
    have hb0 : bt s 0 = (c.toNat : Int) := by
      have := bt_nat s 0 h0
      rw [show ((0 : Nat) : Int) = 0 from rfl] at this
      rw [this]
      simp [hr]
    rw [hb0]
    have e126 : ((c.toNat : Int) != 126) = (c != 126) := by
      rw [bne, bne, beq126]
    rw [e126]
    refine Ev.ite (fun h1 => ?_) (fun h1 => ?_)
    · have h1' : c ≠ 126 := by simpa using h1
      refine Ev.some_ ?_
      rw [hr]
      have : tilde (c :: r) = 0 := by
        unfold tilde
        split
        · rename_i heq
          injection heq with h2 _
          exact absurd h2 h1'
        · rfl
      rw [this]
      rfl
    · have h1' : c = 126 := by simpa using h1
      subst h1'
      have hlen : s.data.toList.length = r.length + 1 := by rw [hr, List.length_cons]
      refine ldigits_ev s hs r 126 hr _ (fun e he => ?_) (s.data.toList.length - 1) 1 (by omega) (by omega) (by rw [hr]; rfl)
      rw [hr, tilde_126]
      refine Ev.ite (fun h2 => Ev.some_ (by rw [if_pos (.inl (by omega))]; rfl)) (fun h2 => ?_)
      refine Ev.ite (fun h3 => Ev.some_ (by rw [if_pos (.inr (.inl (by omega)))]; rfl)) (fun h3 => ?_)
      have hne : run digit r ≠ 0 := by omega
      have hl1 : 1 < s.data.toList.length := by
        cases r with
        | nil => exact absurd rfl hne
        | cons a b => rw [hlen]; simp
      refine Ev.pos (by rw [size_list]; omega) ?_
      have hb1 := bt_nat s 1 hl1
      rw [show ((1 : Nat) : Int) = 1 from rfl] at hb1
      rw [hb1]
      have hh : r.head? = some s.data.toList[1] := by
        cases r with
        | nil => exact absurd rfl hne
        | cons a b => simp [hr]
      rw [hh]
      generalize s.data.toList[1] = q
      refine Ev.ite (fun h4 => Ev.some_ (by rw [if_pos (.inr (.inr (by rw [(@byte_eq q 48 (by omega)).1 h4]; rfl)))]; rfl)) (fun h4 => ?_)
      have h4' : ¬ q = 48 := fun h => h4 ((@byte_eq q 48 (by omega)).2 h)
      exact Ev.some_ (by rw [if_neg (by rintro (h | h | h); exact hne h; omega; exact h4' (Option.some.inj h))]; omega)
theorem hasPrefix_some (a0 a1 : ByteArray) : strings_HasPrefix.f a0 a1 = some (a1.data.toList.isPrefixOf a0.data.toList) := by
  unfold strings_HasPrefix.f stringslite_HasPrefix.f
  have key : a1.data.toList.isPrefixOf a0.data.toList = (decide (a1.size ≤ a0.size) && (a0.data.toList.take a1.size == a1.data.toList)) := by
    rw [Bool.eq_iff_iff, List.isPrefixOf_iff_prefix]
    simp only [Bool.and_eq_true, decide_eq_true_eq, beq_iff_eq]
    rw [size_list, size_list]
    constructor
    · intro h
      exact ⟨h.length_le, (List.prefix_iff_eq_take.1 h).symm⟩
    · rintro ⟨_, h⟩
      rw [← h]
      exact List.take_prefix _ _
  rw [key]
  by_cases h : a1.size ≤ a0.size
  · rw [if_pos (by omega), if_pos (by omega), if_pos (by omega), Option.bind_some, Int.toNat_natCast, ByteArray.toList_eq, ByteArray.toList_eq, extract_front, decide_eq_true h, Bool.true_and]
  · rw [if_neg (by omega), Option.bind_some, decide_eq_false h, Bool.false_and]
theorem more_of (r : List UInt8) : ([58, 58] : List UInt8).isPrefixOf r = true → ∃ r', r = 58 :: 58 :: r' := by
  intro h
  obtain ⟨t, rfl⟩ := List.isPrefixOf_iff_prefix.1 h
  exact ⟨t, rfl⟩
theorem more_not (r : List UInt8) (h : ¬ ([58, 58] : List UInt8).isPrefixOf r = true) : more r = 0 := by
  unfold more
  split
  · exact absurd (by simp [List.isPrefixOf]) h
  · rfl
theorem lnamed_ev (s : ByteArray) (hs : s.data.toList.length ≤ 140737488351232) (i : Nat) (hi : i ≤ s.data.toList.length) : Ev (fun k => lexis_named.f k s (i : Int)) (namedLen (s.data.toList.drop i) : Int) := by
  unfold lexis_named.f
  refine Ev.bind (lown_ev s hs i hi) ?_
  have hle := ownLen_le (s.data.toList.drop i)
  rw [List.length_drop] at hle
  refine Ev.ite (fun h => Ev.some_ (by rw [namedLen, if_pos (by omega)]; rfl)) (fun h => ?_)
  have h0 : ownLen (s.data.toList.drop i) ≠ 0 := by omega
  have hnl : namedLen (s.data.toList.drop i) = (ownLen (s.data.toList.drop i) + more (s.data.toList.drop (i + ownLen (s.data.toList.drop i)))) + tilde (s.data.toList.drop (i + (ownLen (s.data.toList.drop i) + more (s.data.toList.drop (i + ownLen (s.data.toList.drop i)))))) := by
    rw [namedLen, if_neg h0]
    simp only [List.drop_drop]
  rw [hnl]
  clear hnl h
  generalize ownLen (s.data.toList.drop i) = n at *
  have hw : wrap64 ((i : Int) + (n : Int)) = ((i + n : Nat) : Int) := by rw [w64] <;> omega
  rw [hw]
  refine Ev.pos (by omega) ?_
  refine Ev.pos (by rw [size_list]; omega) ?_
  rw [Int.toNat_natCast]
  have num : ∀ q : Nat, q ≤ s.data.toList.length → Ev (fun k => lexis_numbered.f k (s.extract q s.size)) (tilde (s.data.toList.drop q) : Int) := by
    intro q hq
    have := lnumbered_ev (s.extract q s.size) (by rw [extract_list, List.length_drop]; omega)
    rwa [extract_list] at this
  have tl : ∀ q : Nat, tilde (s.data.toList.drop q) ≤ 140737488351232 := fun q => by
    have := tilde_le (s.data.toList.drop q)
    rw [List.length_drop] at this
    omega
  have flat : more (s.data.toList.drop (i + n)) = 0 → Ev (fun k => (lexis_numbered.f k (s.extract (i + n) s.size)).bind fun t => some (wrap64 ((n : Int) + t))) (((n + more (s.data.toList.drop (i + n))) + tilde (s.data.toList.drop (i + (n + more (s.data.toList.drop (i + n))))) : Nat) : Int) := by
    intro hm
    rw [hm, Nat.add_zero]
    refine Ev.bind (num (i + n) (by omega)) (Ev.some_ ?_)
    have := tl (i + n)
    rw [w64] <;> omega
  refine Ev.bind (Ev.const (hasPrefix_some _ _)) ?_
  rw [extract_list]
  refine Ev.ite (fun h1 => ?_) (fun h1 => flat (more_not _ h1))
  obtain ⟨r, hr⟩ := more_of _ h1
  have hl : i + n + 2 ≤ s.data.toList.length := by
    have := congrArg List.length hr
    simp only [List.length_drop, List.length_cons] at this
    omega
  have hw2 : wrap64 (((i + n : Nat) : Int) + 2) = ((i + n + 2 : Nat) : Int) := by rw [w64] <;> omega
  rw [hw2]
  have hr2 : s.data.toList.drop (i + n + 2) = r := by rw [← List.drop_drop, hr]; rfl
  have ho := lown_ev s hs (i + n + 2) hl
  rw [hr2] at ho
  have hle2 := ownLen_le r
  have hrl : r.length = s.data.toList.length - (i + n + 2) := by rw [← hr2, List.length_drop]
  have hm : more (s.data.toList.drop (i + n)) = if ownLen r = 0 then 0 else ownLen r + 2 := by rw [hr, more]
  refine Ev.bind ho ?_
  refine Ev.ite (fun h2 => ?_) (fun h2 => flat (by rw [hm, if_pos (by omega)]))
  rw [hm, if_neg (by omega)]
  generalize ownLen r = m at *
  have e0 : wrap64 (2 + (m : Int)) = ((m + 2 : Nat) : Int) := by rw [w64] <;> omega
  have hbnd : i + (n + (m + 2)) ≤ s.data.toList.length := by clear hm ho; omega
  have e1 : wrap64 ((n : Int) + ((m + 2 : Nat) : Int)) = ((n + (m + 2) : Nat) : Int) := w64n _ _ (by clear hm ho; omega)
  have e2 : wrap64 ((i : Int) + ((n + (m + 2) : Nat) : Int)) = ((i + (n + (m + 2)) : Nat) : Int) := w64n _ _ (by clear hm ho; omega)
  rw [e0, e1, e2]
  clear hm ho hr hr2 hw2 hw e0 e1 e2 hle hrl hle2 h2 flat h1
  refine Ev.pos (Int.natCast_nonneg _) ?_
  refine Ev.pos (by rw [size_list]; exact Int.ofNat_le.2 hbnd) ?_
  rw [Int.toNat_natCast]
  refine Ev.bind (num (i + (n + (m + 2))) hbnd) (Ev.some_ ?_)
  have ht := tilde_le (s.data.toList.drop (i + (n + (m + 2))))
  rw [List.length_drop] at ht
  exact w64n _ _ (by omega)
theorem lexName_ev (s : ByteArray) (hs : s.size ≤ 140737488351232) : Ev (fun k => lexis_Name.f k s) (isName s.data.toList) := by
  rw [size_list] at hs
  unfold lexis_Name.f isName
  rw [ByteArray.toList_eq, size_list]
  refine Ev.ite (fun h => ?_) (fun h => ?_)
  · exact Ev.some_ (by simp [h])
  · refine Ev.ite (fun h1 => ?_) (fun h1 => ?_)
    · refine Ev.bind (lnamed_ev s hs 0 (Nat.zero_le _)) ?_
      refine Ev.some_ ?_
      rw [List.drop_zero, Bool.eq_iff_iff, beq_iff_eq]
      simp only [Bool.and_eq_true, decide_eq_true_eq]
      constructor
      · intro h2
        exact ⟨⟨h, by omega⟩, by omega⟩
      · intro h2
        omega
    · refine Ev.some_ ?_
      rw [decide_eq_false (show ¬ s.data.toList.length ≤ 64 by omega), Bool.and_false, Bool.false_and]
end Go.Proofs.Ytebiogaacikphaa.Names
end
section
namespace Go.Proofs.Ytebiogaacikphaa.PAll
open Go.RowKit Go.Proofs.YtebiogaacikphaaW.PrintWords Go.Proofs.YtebiogaacikphaaW.PrintLast Go.Proofs.YtebiogaacikphaaW.PrintMore
set_option linter.unusedVariables false
set_option linter.unusedSimpArgs false
mutual
def pack_sum.l0 : Nat → Int → List Int → Int → Int → Option (Int)
  | 0, _, _, _, _ => none
  | k + 1, x3, x7, x8, x9 => if x9 < x8 then (if 0 ≤ x9 then (if x9 < (x7.length : Int) then (pack_sum.l1 k (Go.bits .xor .u32 x3 ((rd x7 x9) % 4294967296)) x7 x8 x9 0) else (none)) else (none)) else (some (Go.bits .xor .u32 4294967295 x3))
def pack_sum.l1 : Nat → Int → List Int → Int → Int → Int → Option (Int)
  | 0, _, _, _, _, _ => none
  | k + 1, x3, x7, x8, x9, x17 => if x17 < 8 then (if (Go.bits .and .u32 x3 1) = 1 then (pack_sum.l1 k (Go.bits .xor .u32 (x3 / 2) 3988292384) x7 x8 x9 (wrap64 (x17 + 1))) else (pack_sum.l1 k (x3 / 2) x7 x8 x9 (wrap64 (x17 + 1)))) else (pack_sum.l0 k x3 x7 x8 (wrap64 (x9 + 1)))
end
def pack_sum.f (k : Nat) (l0 : List Int) : Option (Int) := pack_sum.l0 k 4294967295 l0 (l0.length : Int) 0
set_option maxHeartbeats 8000000 in
set_option maxRecDepth 100000 in
theorem pack_sum.calls (k : Nat) (A0 : Option Addr) (c0 : Nat) (l0 : List Int) (r : Int) (w : World) (hr0 : Kd.C (Kd.int .u8) w A0 l0.length l0) (hc0 : l0.length ≤ c0) (h : pack_sum.f k l0 = some r) :
    Calls Try.prog 76 #[.slice A0 l0.length c0] w fun e w' => e = .returned (.int .u32 r) ∧ Drawn0 w w' := by
  have HR0 := Aside0.mk hr0
  have HC0 := Aside0.mk hc0
  clear hr0 hc0
  have H : (pack_sum.l0 k 4294967295 l0 (l0.length : Int) 0) = some r := h
  clear h
  have H' := Aside0.mk H
  clear H
  go_enter Try.func76, Try.ntmps76
  go_wp2
  go_loopg [3, 9] k (fun kq v3 v9 w' => ∃ (x3_1 : Int) (x9_1 : Int), v3 = .int .u32 x3_1 ∧ v9 = .int .i64 x9_1 ∧ Aside0 (pack_sum.l0 kq x3_1 l0 (l0.length : Int) x9_1 = some r) ∧ Aside0 (kq ≤ k) ∧ Drawn0 w w')
  case atStart => exact ⟨(4294967295), (0), (by first | rfl | (simp; done) | (simp [*]; done)), (by first | rfl | (simp; done) | (simp [*]; done)), H', ⟨Nat.le_refl _⟩, by repeat (first | exact Drawn0.refl _ | apply Drawn0.step)⟩
  case round =>
    clear H'
    obtain ⟨x3_1, x9_1, rfl, rfl, HA, HK1, ⟨m1, rfl⟩⟩ := hrel
    cases gk with
    | zero => exact absurd HA.out (by simp [pack_sum.l0])
    | succ k1 =>
      have H := HA.out
      clear HA
      simp only [pack_sum.l0] at H
      by_cases c2 : x9_1 < (l0.length : Int)
      · rw [if_pos c2] at H
        have c2b0 : decide (x9_1 < (l0.length : Int)) = true := decide_eq_true c2
        clear c2
        by_cases c3 : 0 ≤ x9_1
        · rw [if_pos c3] at H
          have c3b0 : decide (0 ≤ x9_1) = true := decide_eq_true c3
          clear c3
          by_cases c4 : x9_1 < (l0.length : Int)
          · rw [if_pos c4] at H
            have c4b0 : decide (x9_1 < (l0.length : Int)) = true := decide_eq_true c4
            clear c4
            have H' := Aside0.mk H
            clear H
            have p197 : 0 ≤ (x9_1 : Int) := of_decide_eq_true (by first | (with_reducible assumption) | assumption)
            have q197 : x9_1 < (l0.length : Int) := of_decide_eq_true (by first | (with_reducible assumption) | assumption)
            obtain ⟨ad197, e197, hx197_0⟩ := Kd.at_int HR0.out x9_1 p197 q197
            cases e197
            replace p197 := eq_true p197
            replace q197 := eq_true q197
            go_wp2
            go_loopg [3, 17] k1 (fun kq v3 v17 w' => ∃ (x3_2 : Int) (x17_2 : Int), v3 = .int .u32 x3_2 ∧ v17 = .int .i64 x17_2 ∧ Aside0 (pack_sum.l1 kq x3_2 l0 (l0.length : Int) x9_1 x17_2 = some r) ∧ Aside0 (kq ≤ k1) ∧ Drawn0 w w')
            case atStart => exact ⟨(Go.bits .xor .u32 x3_1 ((rd l0 x9_1) % 4294967296)), (0), (by first | rfl | (simp; done) | (simp [*]; done)), (by first | rfl | (simp; done) | (simp [*]; done)), H', ⟨Nat.le_refl _⟩, by repeat (first | exact Drawn0.refl _ | apply Drawn0.step)⟩
            case round =>
              clear H'
              try clear p1
              try clear q1
              try clear hx1
              try clear c2
              try clear c2b0
              try clear p2
              try clear c3
              try clear c3b0
              try clear c4
              try clear c4b0
              try clear hx197_0
              try clear p197
              try clear q197
              obtain ⟨x3_2, x17_2, rfl, rfl, HA, HK2, ⟨m2, rfl⟩⟩ := hrel
              cases gk with
              | zero => exact absurd HA.out (by simp [pack_sum.l1])
              | succ k2 =>
                have H := HA.out
                clear HA
                simp only [pack_sum.l1] at H
                by_cases c5 : x17_2 < 8
                · rw [if_pos c5] at H
                  have c5b0 : decide (x17_2 < 8) = true := decide_eq_true c5
                  clear c5
                  by_cases c6 : (Go.bits .and .u32 x3_2 1) = 1
                  · rw [if_pos c6] at H
                    have c6b0 : ((Go.bits .and .u32 x3_2 1) == 1) = true := beq_iff_eq.mpr c6
                    have c6b1 : ((Go.bits .and .u32 x3_2 1) != 1) = false := bne_eq_false_iff_eq.mpr c6
                    clear c6
                    have H' := Aside0.mk H
                    clear H
                    go_wp2
                    go_roundg k2
                    case measure => have := HK1.out; have := HK2.out; omega
                    case rel => exact ⟨(Go.bits .xor .u32 (x3_2 / 2) 3988292384), (wrap64 (x17_2 + 1)), (by first | rfl | (simp; done) | (simp [*]; done)), (by first | rfl | (simp; done) | (simp [*]; done)), H', ⟨by have := HK1.out; have := HK2.out; omega⟩, by repeat (first | exact Drawn0.refl _ | apply Drawn0.step)⟩
                  · rw [if_neg c6] at H
                    have c6b0 : ((Go.bits .and .u32 x3_2 1) == 1) = false := beq_eq_false_iff_ne.mpr c6
                    have c6b1 : ((Go.bits .and .u32 x3_2 1) != 1) = true := bne_iff_ne.mpr c6
                    have H' := Aside0.mk H
                    clear H
                    go_wp2
                    go_roundg k2
                    case measure => have := HK1.out; have := HK2.out; omega
                    case rel => exact ⟨(x3_2 / 2), (wrap64 (x17_2 + 1)), (by first | rfl | (simp; done) | (simp [*]; done)), (by first | rfl | (simp; done) | (simp [*]; done)), H', ⟨by have := HK1.out; have := HK2.out; omega⟩, by repeat (first | exact Drawn0.refl _ | apply Drawn0.step)⟩
                · rw [if_neg c5] at H
                  have c5b0 : decide (x17_2 < 8) = false := decide_eq_false c5
                  clear c5
                  have H' := Aside0.mk H
                  clear H
                  go_wp2
                  go_roundg k2
                  case measure => have := HK1.out; have := HK2.out; omega
                  case rel => exact ⟨(x3_2), (wrap64 (x9_1 + 1)), (by first | rfl | (simp; done) | (simp [*]; done)), (by first | rfl | (simp; done) | (simp [*]; done)), H', ⟨by have := HK1.out; have := HK2.out; omega⟩, by repeat (first | exact Drawn0.refl _ | apply Drawn0.step)⟩
          · rw [if_neg c4] at H
            exact absurd H (by simp)
        · rw [if_neg c3] at H
          exact absurd H (by simp)
      · rw [if_neg c2] at H
        have c2b0 : decide (x9_1 < (l0.length : Int)) = false := decide_eq_false c2
        clear c2
        obtain rfl := Option.some.inj H
        go_wp2
        go_ret
        exact ⟨by first | rfl | (simp; done) | (simp [*]; done), by repeat (first | exact Drawn0.refl _ | apply Drawn0.step)⟩
end Go.Proofs.Ytebiogaacikphaa.PAll
end
section
namespace Go.Proofs.Ytebiogaacikphaa.Pack
open Go.RowKit Go.Proofs.YtebiogaacikphaaW.PrintWords Go.Proofs.Ytebiogaacikphaa.PAll Go.Proofs.Ytebiogaacikphaa.Names
set_option linter.unusedVariables false
def okName (s : ByteArray) : Bool := isOwn s.data.toList && isName s.data.toList
end Go.Proofs.Ytebiogaacikphaa.Pack
end
section
namespace Go.Proofs.Ytebiogaacikphaa.Pack
open Go.RowKit Go.Proofs.YtebiogaacikphaaW.PrintWords Go.Proofs.Ytebiogaacikphaa.PAll
set_option linter.unusedVariables false
set_option linter.unusedSimpArgs false
set_option linter.unnecessarySimpa false
theorem str_keys : KeyKind Try.prog 9 Value.string := string_keys Try.underlying9
end Go.Proofs.Ytebiogaacikphaa.Pack
end
section
namespace Go.Proofs.Ytebiogaacikphaa.Pack
open Go.RowKit Go.Proofs.YtebiogaacikphaaW.PrintWords Go.Proofs.Ytebiogaacikphaa.PAll
set_option linter.unusedVariables false
set_option linter.unusedSimpArgs false
theorem own_len {W : World} {base : Nat} {t : TypeId} {size n : Nat} {v : Value} {xs : List Value} (h : W.ownsRow base t size v n xs) : ∃ A c, v = .slice A n c := own_slice h
end Go.Proofs.Ytebiogaacikphaa.Pack
end
section
namespace Go.Proofs.Ytebiogaacikphaa.PAll
open Go.RowKit Go.Proofs.YtebiogaacikphaaW.PrintWords Go.Proofs.YtebiogaacikphaaW.PrintLast Go.Proofs.YtebiogaacikphaaW.PrintMore
set_option linter.unusedVariables false
set_option linter.unusedSimpArgs false
mutual
def pack_operand.j0 : Nat → Int → Bool → Option (Int)
  | 0, _, _ => none
  | k + 1, x3, x4 => if x4 = true then (some 1) else (if x3 = 1 then (pack_operand.j1 k x3 (x3 == 1)) else (pack_operand.j1 k x3 (x3 == 2)))
def pack_operand.j1 : Nat → Int → Bool → Option (Int)
  | 0, _, _ => none
  | k + 1, x3, x12 => if x12 = true then (some 2) else (if x3 = 12 then (some 3) else (if x3 = 14 then (some 3) else (some 0)))
end
def pack_operand.f (k : Nat) (a0 : Int) : Option (Int) := if a0 = 3 then (pack_operand.j0 k a0 (a0 == 3)) else (if a0 = 4 then (pack_operand.j0 k a0 (a0 == 4)) else (if a0 = 5 then (pack_operand.j0 k a0 (a0 == 5)) else (if a0 = 6 then (pack_operand.j0 k a0 (a0 == 6)) else (if a0 = 7 then (pack_operand.j0 k a0 (a0 == 7)) else (if a0 = 10 then (pack_operand.j0 k a0 (a0 == 10)) else (pack_operand.j0 k a0 (a0 == 15)))))))
set_option maxHeartbeats 8000000 in
set_option maxRecDepth 100000 in
theorem pack_operand.calls (k : Nat) (a0 : Int) (r : Int) (w : World) (h : pack_operand.f k a0 = some r) :
    Calls Try.prog 99 #[.int .i64 a0] w fun e w' => e = .returned (.int .i64 r) ∧ Drawn0 w w' := by
  have H : (if a0 = 3 then (pack_operand.j0 k a0 (a0 == 3)) else (if a0 = 4 then (pack_operand.j0 k a0 (a0 == 4)) else (if a0 = 5 then (pack_operand.j0 k a0 (a0 == 5)) else (if a0 = 6 then (pack_operand.j0 k a0 (a0 == 6)) else (if a0 = 7 then (pack_operand.j0 k a0 (a0 == 7)) else (if a0 = 10 then (pack_operand.j0 k a0 (a0 == 10)) else (pack_operand.j0 k a0 (a0 == 15)))))))) = some r := h
  clear h
  have HC2 := Aside0.mk H
  clear H
  go_enter Try.func99, Try.ntmps99
  go_upto_if 4 with (fail)
  go_cut [4] (fun v4 wc => ∃ (kq : Nat) (x4_1 : Bool), v4 = .bool x4_1 ∧ Aside0 (pack_operand.j0 kq a0 x4_1 = some r) ∧ Aside0 (kq ≤ k) ∧ Drawn0 w wc)
  case first =>
    have H := HC2.out
    clear HC2
    by_cases c3 : a0 = 3
    · rw [if_pos c3] at H
      have c3b0 : (a0 == 3) = true := beq_iff_eq.mpr c3
      have c3b1 : (a0 != 3) = false := bne_eq_false_iff_eq.mpr c3
      clear c3
      (first | rw [c3b0] | (simp only [i64_w, i32_w]; rw [c3b0]) | skip)
      have H' := Aside0.mk H
      clear H
      go_wp2
      go_meet
      case rel => exact ⟨_, ((a0 == 3)), (by first | rfl | (simp; done) | (simp [*]; done)), H', ⟨by first | omega | exact Nat.le_refl _⟩, by repeat (first | exact Drawn0.refl _ | apply Drawn0.step)⟩
    · rw [if_neg c3] at H
      have c3b0 : (a0 == 3) = false := beq_eq_false_iff_ne.mpr c3
      have c3b1 : (a0 != 3) = true := bne_iff_ne.mpr c3
      (first | rw [c3b0] | (simp only [i64_w, i32_w]; rw [c3b0]) | skip)
      by_cases c4 : a0 = 4
      · rw [if_pos c4] at H
        have c4b0 : (a0 == 4) = true := beq_iff_eq.mpr c4
        have c4b1 : (a0 != 4) = false := bne_eq_false_iff_eq.mpr c4
        clear c4
        have H' := Aside0.mk H
        clear H
        go_wp2
        go_meet
        case rel => exact ⟨_, ((a0 == 4)), (by first | rfl | (simp; done) | (simp [*]; done)), H', ⟨by first | omega | exact Nat.le_refl _⟩, by repeat (first | exact Drawn0.refl _ | apply Drawn0.step)⟩
      · rw [if_neg c4] at H
        have c4b0 : (a0 == 4) = false := beq_eq_false_iff_ne.mpr c4
        have c4b1 : (a0 != 4) = true := bne_iff_ne.mpr c4
        by_cases c5 : a0 = 5
        · rw [if_pos c5] at H
          have c5b0 : (a0 == 5) = true := beq_iff_eq.mpr c5
          have c5b1 : (a0 != 5) = false := bne_eq_false_iff_eq.mpr c5
          clear c5
          have H' := Aside0.mk H
          clear H
          go_wp2
          go_meet
          case rel => exact ⟨_, ((a0 == 5)), (by first | rfl | (simp; done) | (simp [*]; done)), H', ⟨by first | omega | exact Nat.le_refl _⟩, by repeat (first | exact Drawn0.refl _ | apply Drawn0.step)⟩
        · rw [if_neg c5] at H
          have c5b0 : (a0 == 5) = false := beq_eq_false_iff_ne.mpr c5
          have c5b1 : (a0 != 5) = true := bne_iff_ne.mpr c5
          by_cases c6 : a0 = 6
          · rw [if_pos c6] at H
            have c6b0 : (a0 == 6) = true := beq_iff_eq.mpr c6
            have c6b1 : (a0 != 6) = false := bne_eq_false_iff_eq.mpr c6
            clear c6
            have H' := Aside0.mk H
            clear H
            go_wp2
            go_meet
            case rel => exact ⟨_, ((a0 == 6)), (by first | rfl | (simp; done) | (simp [*]; done)), H', ⟨by first | omega | exact Nat.le_refl _⟩, by repeat (first | exact Drawn0.refl _ | apply Drawn0.step)⟩
          · rw [if_neg c6] at H
            have c6b0 : (a0 == 6) = false := beq_eq_false_iff_ne.mpr c6
            have c6b1 : (a0 != 6) = true := bne_iff_ne.mpr c6
            by_cases c7 : a0 = 7
            · rw [if_pos c7] at H
              have c7b0 : (a0 == 7) = true := beq_iff_eq.mpr c7
              have c7b1 : (a0 != 7) = false := bne_eq_false_iff_eq.mpr c7
              clear c7
              have H' := Aside0.mk H
              clear H
              go_wp2
              go_meet
              case rel => exact ⟨_, ((a0 == 7)), (by first | rfl | (simp; done) | (simp [*]; done)), H', ⟨by first | omega | exact Nat.le_refl _⟩, by repeat (first | exact Drawn0.refl _ | apply Drawn0.step)⟩
            · rw [if_neg c7] at H
              have c7b0 : (a0 == 7) = false := beq_eq_false_iff_ne.mpr c7
              have c7b1 : (a0 != 7) = true := bne_iff_ne.mpr c7
              by_cases c8 : a0 = 10
              · rw [if_pos c8] at H
                have c8b0 : (a0 == 10) = true := beq_iff_eq.mpr c8
                have c8b1 : (a0 != 10) = false := bne_eq_false_iff_eq.mpr c8
                clear c8
                have H' := Aside0.mk H
                clear H
                go_wp2
                go_meet
                case rel => exact ⟨_, ((a0 == 10)), (by first | rfl | (simp; done) | (simp [*]; done)), H', ⟨by first | omega | exact Nat.le_refl _⟩, by repeat (first | exact Drawn0.refl _ | apply Drawn0.step)⟩
              · rw [if_neg c8] at H
                have c8b0 : (a0 == 10) = false := beq_eq_false_iff_ne.mpr c8
                have c8b1 : (a0 != 10) = true := bne_iff_ne.mpr c8
                have H' := Aside0.mk H
                clear H
                go_wp2
                go_meet
                case rel => exact ⟨_, ((a0 == 15)), (by first | rfl | (simp; done) | (simp [*]; done)), H', ⟨by first | omega | exact Nat.le_refl _⟩, by repeat (first | exact Drawn0.refl _ | apply Drawn0.step)⟩
  case rest =>
    clear HC2
    try clear p2
    try clear c3
    try clear c3b0
    try clear c3b1
    try clear c4
    try clear c4b0
    try clear c4b1
    try clear c5
    try clear c5b0
    try clear c5b1
    try clear c6
    try clear c6b0
    try clear c6b1
    try clear c7
    try clear c7b0
    try clear c7b1
    try clear c8
    try clear c8b0
    try clear c8b1
    obtain ⟨kq, x4_1, rfl, HA, HJ1, ⟨mc1, rfl⟩⟩ := hcut
    cases kq with
    | zero => exact absurd HA.out (by simp [pack_operand.j0])
    | succ kj1 =>
      have H := HA.out
      clear HA
      simp only [pack_operand.j0] at H
      by_cases c9 : x4_1 = true
      · subst c9
        have H1 : (some 1) = some r := by rw [if_pos rfl] at H; exact H
        clear H
        have H := H1
        clear H1
        obtain rfl := Option.some.inj H
        go_wp2
        go_ret
        exact ⟨by first | rfl | (simp; done) | (simp [*]; done), by repeat (first | exact Drawn0.refl _ | apply Drawn0.step)⟩
      · replace c9 := Bool.eq_false_iff.mpr c9
        subst c9
        have H1 : (if a0 = 1 then (pack_operand.j1 kj1 a0 (a0 == 1)) else (pack_operand.j1 kj1 a0 (a0 == 2))) = some r := by rw [if_neg (show ¬ (false = true) by decide)] at H; exact H
        clear H
        have H := H1
        clear H1
        have HC10 := Aside0.mk H
        clear H
        go_upto_if 12 with (fail)
        go_cut [12] (fun v12 wc => ∃ (kq : Nat) (x12_9 : Bool), v12 = .bool x12_9 ∧ Aside0 (pack_operand.j1 kq a0 x12_9 = some r) ∧ Aside0 (kq ≤ kj1) ∧ Drawn0 w wc)
        case first =>
          have H := HC10.out
          clear HC10
          by_cases c11 : a0 = 1
          · rw [if_pos c11] at H
            have c11b0 : (a0 == 1) = true := beq_iff_eq.mpr c11
            have c11b1 : (a0 != 1) = false := bne_eq_false_iff_eq.mpr c11
            clear c11
            (first | rw [c11b0] | (simp only [i64_w, i32_w]; rw [c11b0]) | skip)
            have H' := Aside0.mk H
            clear H
            go_wp2
            go_meet
            case rel => exact ⟨_, ((a0 == 1)), (by first | rfl | (simp; done) | (simp [*]; done)), H', ⟨by have := HJ1.out; first | omega | exact Nat.le_refl _⟩, by repeat (first | exact Drawn0.refl _ | apply Drawn0.step)⟩
          · rw [if_neg c11] at H
            have c11b0 : (a0 == 1) = false := beq_eq_false_iff_ne.mpr c11
            have c11b1 : (a0 != 1) = true := bne_iff_ne.mpr c11
            (first | rw [c11b0] | (simp only [i64_w, i32_w]; rw [c11b0]) | skip)
            have H' := Aside0.mk H
            clear H
            go_wp2
            go_meet
            case rel => exact ⟨_, ((a0 == 2)), (by first | rfl | (simp; done) | (simp [*]; done)), H', ⟨by have := HJ1.out; first | omega | exact Nat.le_refl _⟩, by repeat (first | exact Drawn0.refl _ | apply Drawn0.step)⟩
        case rest =>
          clear HC10
          try clear c1
          try clear p2
          try clear c3
          try clear c3b0
          try clear c3b1
          try clear c4
          try clear c4b0
          try clear c4b1
          try clear c5
          try clear c5b0
          try clear c5b1
          try clear c6
          try clear c6b0
          try clear c6b1
          try clear c7
          try clear c7b0
          try clear c7b1
          try clear c8
          try clear c8b0
          try clear c8b1
          try clear c9
          try clear c11
          try clear c11b0
          try clear c11b1
          try clear p2
          obtain ⟨kq, x12_9, rfl, HA, HJ9, ⟨mc9, rfl⟩⟩ := hcut
          cases kq with
          | zero => exact absurd HA.out (by simp [pack_operand.j1])
          | succ kj9 =>
            have H := HA.out
            clear HA
            simp only [pack_operand.j1] at H
            by_cases c12 : x12_9 = true
            · subst c12
              have H1 : (some 2) = some r := by rw [if_pos rfl] at H; exact H
              clear H
              have H := H1
              clear H1
              obtain rfl := Option.some.inj H
              go_wp2
              go_ret
              exact ⟨by first | rfl | (simp; done) | (simp [*]; done), by repeat (first | exact Drawn0.refl _ | apply Drawn0.step)⟩
            · replace c12 := Bool.eq_false_iff.mpr c12
              subst c12
              have H1 : (if a0 = 12 then (some 3) else (if a0 = 14 then (some 3) else (some 0))) = some r := by rw [if_neg (show ¬ (false = true) by decide)] at H; exact H
              clear H
              have H := H1
              clear H1
              by_cases c13 : a0 = 12
              · rw [if_pos c13] at H
                have c13b0 : (a0 == 12) = true := beq_iff_eq.mpr c13
                have c13b1 : (a0 != 12) = false := bne_eq_false_iff_eq.mpr c13
                clear c13
                obtain rfl := Option.some.inj H
                go_wp2
                go_ret
                exact ⟨by first | rfl | (simp; done) | (simp [*]; done), by repeat (first | exact Drawn0.refl _ | apply Drawn0.step)⟩
              · rw [if_neg c13] at H
                have c13b0 : (a0 == 12) = false := beq_eq_false_iff_ne.mpr c13
                have c13b1 : (a0 != 12) = true := bne_iff_ne.mpr c13
                by_cases c14 : a0 = 14
                · rw [if_pos c14] at H
                  have c14b0 : (a0 == 14) = true := beq_iff_eq.mpr c14
                  have c14b1 : (a0 != 14) = false := bne_eq_false_iff_eq.mpr c14
                  clear c14
                  obtain rfl := Option.some.inj H
                  go_wp2
                  go_ret
                  exact ⟨by first | rfl | (simp; done) | (simp [*]; done), by repeat (first | exact Drawn0.refl _ | apply Drawn0.step)⟩
                · rw [if_neg c14] at H
                  have c14b0 : (a0 == 14) = false := beq_eq_false_iff_ne.mpr c14
                  have c14b1 : (a0 != 14) = true := bne_iff_ne.mpr c14
                  obtain rfl := Option.some.inj H
                  go_wp2
                  go_ret
                  exact ⟨by first | rfl | (simp; done) | (simp [*]; done), by repeat (first | exact Drawn0.refl _ | apply Drawn0.step)⟩
mutual
def dowelref20_Sum.l0 : Nat → List Int → Int → Int → Option (Int)
  | 0, _, _, _ => none
  | k + 1, x0, x3, x4 => if x4 < (x0.length : Int) then (if 0 ≤ x4 then (dowelref20_Sum.l1 k x0 (Go.bits .xor .u32 x3 ((rd x0 x4) % 4294967296)) x4 0) else (none)) else (some (Go.bits .xor .u32 4294967295 x3))
def dowelref20_Sum.l1 : Nat → List Int → Int → Int → Int → Option (Int)
  | 0, _, _, _, _ => none
  | k + 1, x0, x3, x4, x5 => if x5 < 8 then (if (Go.bits .and .u32 x3 1) = 1 then (dowelref20_Sum.l1 k x0 (Go.bits .xor .u32 (x3 / 2) 3988292384) x4 (wrap64 (x5 + 1))) else (dowelref20_Sum.l1 k x0 (x3 / 2) x4 (wrap64 (x5 + 1)))) else (dowelref20_Sum.l0 k x0 x3 (wrap64 (x4 + 1)))
end
def dowelref20_Sum.f (k : Nat) (l0 : List Int) : Option (Int) := dowelref20_Sum.l0 k l0 4294967295 0
set_option maxHeartbeats 8000000 in
set_option maxRecDepth 100000 in
theorem dowelref20_Sum.calls (k : Nat) (A0 : Option Addr) (c0 : Nat) (l0 : List Int) (r : Int) (w : World) (hr0 : Kd.C (Kd.int .u8) w A0 l0.length l0) (hc0 : l0.length ≤ c0) (h : dowelref20_Sum.f k l0 = some r) :
    Calls Try.prog 29 #[.slice A0 l0.length c0] w fun e w' => e = .returned (.int .u32 r) ∧ Drawn0 w w' := by
  have HR0 := Aside0.mk hr0
  have HC0 := Aside0.mk hc0
  clear hr0 hc0
  have H : (dowelref20_Sum.l0 k l0 4294967295 0) = some r := h
  clear h
  have H' := Aside0.mk H
  clear H
  go_enter Try.func29, Try.ntmps29
  go_wp2
  go_loopg [3, 4] k (fun kq v3 v4 w' => ∃ (x3_1 : Int) (x4_1 : Int), v3 = .int .u32 x3_1 ∧ v4 = .int .i64 x4_1 ∧ Aside0 (dowelref20_Sum.l0 kq l0 x3_1 x4_1 = some r) ∧ Aside0 (kq ≤ k) ∧ Drawn0 w w')
  case atStart => exact ⟨(4294967295), (0), (by first | rfl | (simp; done) | (simp [*]; done)), (by first | rfl | (simp; done) | (simp [*]; done)), H', ⟨Nat.le_refl _⟩, by repeat (first | exact Drawn0.refl _ | apply Drawn0.step)⟩
  case round =>
    clear H'
    obtain ⟨x3_1, x4_1, rfl, rfl, HA, HK1, ⟨m1, rfl⟩⟩ := hrel
    cases gk with
    | zero => exact absurd HA.out (by simp [dowelref20_Sum.l0])
    | succ k1 =>
      have H := HA.out
      clear HA
      simp only [dowelref20_Sum.l0] at H
      by_cases c2 : x4_1 < (l0.length : Int)
      · rw [if_pos c2] at H
        have c2b0 : decide (x4_1 < (l0.length : Int)) = true := decide_eq_true c2
        clear c2
        by_cases c3 : 0 ≤ x4_1
        · rw [if_pos c3] at H
          have c3b0 : decide (0 ≤ x4_1) = true := decide_eq_true c3
          clear c3
          have H' := Aside0.mk H
          clear H
          have p226 : 0 ≤ (x4_1 : Int) := of_decide_eq_true (by first | (with_reducible assumption) | assumption)
          have q226 : x4_1 < (l0.length : Int) := of_decide_eq_true (by first | (with_reducible assumption) | assumption)
          obtain ⟨ad226, e226, hx226_0⟩ := Kd.at_int HR0.out x4_1 p226 q226
          cases e226
          replace p226 := eq_true p226
          replace q226 := eq_true q226
          go_wp2
          go_loopg [3, 5] k1 (fun kq v3 v5 w' => ∃ (x3_2 : Int) (x5_2 : Int), v3 = .int .u32 x3_2 ∧ v5 = .int .i64 x5_2 ∧ Aside0 (dowelref20_Sum.l1 kq l0 x3_2 x4_1 x5_2 = some r) ∧ Aside0 (kq ≤ k1) ∧ Drawn0 w w')
          case atStart => exact ⟨(Go.bits .xor .u32 x3_1 ((rd l0 x4_1) % 4294967296)), (0), (by first | rfl | (simp; done) | (simp [*]; done)), (by first | rfl | (simp; done) | (simp [*]; done)), H', ⟨Nat.le_refl _⟩, by repeat (first | exact Drawn0.refl _ | apply Drawn0.step)⟩
          case round =>
            clear H'
            try clear c2
            try clear c2b0
            try clear p2
            try clear q2
            try clear hx2
            try clear c3
            try clear c3b0
            try clear hx226_0
            try clear p226
            try clear q226
            obtain ⟨x3_2, x5_2, rfl, rfl, HA, HK2, ⟨m2, rfl⟩⟩ := hrel
            cases gk with
            | zero => exact absurd HA.out (by simp [dowelref20_Sum.l1])
            | succ k2 =>
              have H := HA.out
              clear HA
              simp only [dowelref20_Sum.l1] at H
              by_cases c4 : x5_2 < 8
              · rw [if_pos c4] at H
                have c4b0 : decide (x5_2 < 8) = true := decide_eq_true c4
                clear c4
                by_cases c5 : (Go.bits .and .u32 x3_2 1) = 1
                · rw [if_pos c5] at H
                  have c5b0 : ((Go.bits .and .u32 x3_2 1) == 1) = true := beq_iff_eq.mpr c5
                  have c5b1 : ((Go.bits .and .u32 x3_2 1) != 1) = false := bne_eq_false_iff_eq.mpr c5
                  clear c5
                  have H' := Aside0.mk H
                  clear H
                  go_wp2
                  go_roundg k2
                  case measure => have := HK1.out; have := HK2.out; omega
                  case rel => exact ⟨(Go.bits .xor .u32 (x3_2 / 2) 3988292384), (wrap64 (x5_2 + 1)), (by first | rfl | (simp; done) | (simp [*]; done)), (by first | rfl | (simp; done) | (simp [*]; done)), H', ⟨by have := HK1.out; have := HK2.out; omega⟩, by repeat (first | exact Drawn0.refl _ | apply Drawn0.step)⟩
                · rw [if_neg c5] at H
                  have c5b0 : ((Go.bits .and .u32 x3_2 1) == 1) = false := beq_eq_false_iff_ne.mpr c5
                  have c5b1 : ((Go.bits .and .u32 x3_2 1) != 1) = true := bne_iff_ne.mpr c5
                  have H' := Aside0.mk H
                  clear H
                  go_wp2
                  go_roundg k2
                  case measure => have := HK1.out; have := HK2.out; omega
                  case rel => exact ⟨(x3_2 / 2), (wrap64 (x5_2 + 1)), (by first | rfl | (simp; done) | (simp [*]; done)), (by first | rfl | (simp; done) | (simp [*]; done)), H', ⟨by have := HK1.out; have := HK2.out; omega⟩, by repeat (first | exact Drawn0.refl _ | apply Drawn0.step)⟩
              · rw [if_neg c4] at H
                have c4b0 : decide (x5_2 < 8) = false := decide_eq_false c4
                clear c4
                have H' := Aside0.mk H
                clear H
                go_wp2
                go_roundg k2
                case measure => have := HK1.out; have := HK2.out; omega
                case rel => exact ⟨(x3_2), (wrap64 (x4_1 + 1)), (by first | rfl | (simp; done) | (simp [*]; done)), (by first | rfl | (simp; done) | (simp [*]; done)), H', ⟨by have := HK1.out; have := HK2.out; omega⟩, by repeat (first | exact Drawn0.refl _ | apply Drawn0.step)⟩
        · rw [if_neg c3] at H
          exact absurd H (by simp)
      · rw [if_neg c2] at H
        have c2b0 : decide (x4_1 < (l0.length : Int)) = false := decide_eq_false c2
        clear c2
        obtain rfl := Option.some.inj H
        go_wp2
        go_ret
        exact ⟨by first | rfl | (simp; done) | (simp [*]; done), by repeat (first | exact Drawn0.refl _ | apply Drawn0.step)⟩
end Go.Proofs.Ytebiogaacikphaa.PAll
end
section
namespace Go.Proofs.Ytebiogaacikphaa.Pack
open Go.RowKit Go.Proofs.YtebiogaacikphaaW.PrintWords Go.Proofs.Ytebiogaacikphaa.PAll
set_option linter.unusedVariables false
set_option linter.unusedSimpArgs false
/-- Which operand an instruction has: 1 a place, 2 a set, 3 a name, 0 none. -/
def kindOf (a : Int) : Int := if a = 3 ∨ a = 4 ∨ a = 5 ∨ a = 6 ∨ a = 7 ∨ a = 10 ∨ a = 15 then 1 else if a = 1 ∨ a = 2 then 2 else if a = 12 ∨ a = 14 then 3 else 0
theorem operand_ev (a : Int) : Ev (fun k => pack_operand.f k a) (kindOf a) := by
  unfold pack_operand.f
  have j1 : ∀ b : Bool, ¬ (a = 3 ∨ a = 4 ∨ a = 5 ∨ a = 6 ∨ a = 7 ∨ a = 10 ∨ a = 15) → (b = true ↔ (a = 1 ∨ a = 2)) → Ev (fun k => pack_operand.j1 k a b) (kindOf a) := by
    intro b h0 hb
    refine Ev.step (fun _ => by rw [pack_operand.j1]) ?_
    unfold kindOf
    rw [if_neg h0]
    refine Ev.ite (fun h => Ev.some_ (by rw [if_pos (hb.1 h)])) (fun h => ?_)
    rw [if_neg (fun h' => h (hb.2 h'))]
    refine Ev.ite (fun h => Ev.some_ (by rw [if_pos (.inl h)])) (fun h4 => ?_)
    exact Ev.ite (fun h => Ev.some_ (by rw [if_pos (.inr h)])) (fun h5 => Ev.some_ (by rw [if_neg (by omega)]))
  have j0 : ∀ b : Bool, (b = true ↔ (a = 3 ∨ a = 4 ∨ a = 5 ∨ a = 6 ∨ a = 7 ∨ a = 10 ∨ a = 15)) → Ev (fun k => pack_operand.j0 k a b) (kindOf a) := by
    intro b hb
    refine Ev.step (fun _ => by rw [pack_operand.j0]) ?_
    refine Ev.ite (fun h => Ev.some_ (by rw [kindOf, if_pos (hb.1 h)])) (fun h => ?_)
    have h0 : ¬ (a = 3 ∨ a = 4 ∨ a = 5 ∨ a = 6 ∨ a = 7 ∨ a = 10 ∨ a = 15) := fun h' => h (hb.2 h')
    exact Ev.ite (fun h1 => j1 _ h0 (by simp [h1])) (fun h1 => j1 _ h0 (by simp [h1]))
  refine Ev.ite (fun h => j0 _ (by simp [h])) (fun h3 => ?_)
  refine Ev.ite (fun h => j0 _ (by simp [h])) (fun h4 => ?_)
  refine Ev.ite (fun h => j0 _ (by simp [h])) (fun h5 => ?_)
  refine Ev.ite (fun h => j0 _ (by simp [h])) (fun h6 => ?_)
  refine Ev.ite (fun h => j0 _ (by simp [h])) (fun h7 => ?_)
  exact Ev.ite (fun h => j0 _ (by simp [h])) (fun h10 => j0 _ (by simp [h3, h4, h5, h6, h7, h10]))
theorem operand_lit (a v : Int) (hv : kindOf a = v) (w : World) : Calls Try.prog 99 #[.int .i64 a] w fun e w' => e = .returned (.int .i64 v) ∧ Below w.heap.size w w' := by
  subst hv
  obtain ⟨k, hk⟩ := operand_ev a
  exact (pack_operand.calls k a _ w (hk k (Nat.le_refl _))).mono fun e w' ⟨he, hd⟩ => ⟨he, hd.below⟩
/-- An instruction's cells. -/
def insCells (x : S78) : List Value := [.int .i64 x.f0, .int .i64 x.f1, .int .u64 x.f2.f0, .int .u64 x.f2.f1, .int .u64 x.f2.f2, .int .u64 x.f2.f3, .string x.f3]
/-- Where an operand of a place leads. -/
def toOf (i n : Nat) : Int := if n % 2 = 1 then (i : Int) - ((n + 1) / 2 : Nat) else (i : Int) + (n / 2 : Nat)
theorem cls_at {base : Nat} {W : World} {v : Value} {S : List Four} (h : W.ownsRow base 76 4 v S.length (S.flatMap clsCells)) {n : Nat} {x : Four} (hx : S[n]? = some x) : ∃ g cap, v = .slice (some ⟨g, 0, none⟩) S.length cap ∧ (∀ j u, (clsCells x)[j]? = some u → W.cell? ⟨g, n * 4 + j, none⟩ = some u) := by
  have hn : n < S.length := (List.getElem?_eq_some_iff.1 hx).1
  rcases h.2 with ⟨_, h0⟩ | ⟨g, cap, cur, rfl, _⟩
  · omega
  · refine ⟨g, cap, rfl, fun j u hu => ?_⟩
    have hj : j < 4 := by have := (List.getElem?_eq_some_iff.1 hu).1; simpa [clsCells] using this
    have key : ∀ (l : List Four) (m : Nat), l[m]? = some x → (l.flatMap clsCells)[m * 4 + j]? = some u := by
      intro l
      induction l with
      | nil => intro m h; simp at h
      | cons y l ih =>
        intro m h
        cases m with
        | zero =>
          have e : y = x := by simpa using h
          subst e
          rw [List.flatMap_cons, Nat.zero_mul, Nat.zero_add, List.getElem?_append_left (by simp [clsCells]; omega)]
          exact hu
        | succ m =>
          rw [List.flatMap_cons, List.getElem?_append_right (by simp [clsCells]; omega)]
          rw [show (m + 1) * 4 + j - (clsCells y).length = m * 4 + j by simp [clsCells]; omega]
          exact ih m (by simpa using h)
    have := h.cells (g := g) rfl (n * 4 + j) u (key S n hx)
    rwa [add_plain] at this
theorem str_at {base : Nat} {W : World} {v : Value} {T : List ByteArray} (h : W.ownsRow base 9 1 v T.length (T.map Value.string)) {n : Nat} {x : ByteArray} (hx : T[n]? = some x) : ∃ g cap, v = .slice (some ⟨g, 0, none⟩) T.length cap ∧ W.cell? ⟨g, n, none⟩ = some (.string x) := by
  have hn : n < T.length := (List.getElem?_eq_some_iff.1 hx).1
  rcases h.2 with ⟨_, h0⟩ | ⟨g, cap, cur, rfl, _⟩
  · omega
  · refine ⟨g, cap, rfl, ?_⟩
    have := h.cells (g := g) rfl n (.string x) (by rw [List.getElem?_map, hx]; rfl)
    rwa [add_plain] at this
end Go.Proofs.Ytebiogaacikphaa.Pack
end
section
namespace Go.Proofs.Ytebiogaacikphaa.Pack
open Go.RowKit Go.Proofs.YtebiogaacikphaaW.PrintWords Go.Proofs.Ytebiogaacikphaa.PAll
set_option linter.unusedVariables false
set_option linter.unusedSimpArgs false
set_option linter.unnecessarySimpa false
abbrev Ins := S78
def zIns : Ins := z78
/-- What kind, operand and the tables come to; and how many classes and names were seen. -/
def putL (op : Int) (i n size kc kn : Nat) (S : List Four) (T : List ByteArray) : Option (Ins × Nat × Nat) :=
  if kindOf op = 1 then (if 0 ≤ toOf i n ∧ toOf i n < size then some ({ zIns with f0 := op, f1 := toOf i n }, kc, kn) else none)
  else if kindOf op = 2 then (if n ≤ kc then (match S[n]? with | some y => some ({ zIns with f0 := op, f2 := ⟨y.1, y.2.1, y.2.2.1, y.2.2.2⟩ }, max kc (n + 1), kn) | none => none) else none)
  else if kindOf op = 3 then (if n ≤ kn then (match T[n]? with | some y => some ({ zIns with f0 := op, f3 := y }, kc, max kn (n + 1)) | none => none) else none)
  else (if n = 0 then some ({ zIns with f0 := op }, kc, kn) else none)
/-- The operand's number behind the first byte. -/
def numL (e : Nat) (x : Int) (r : List Int) : Except (Int × Int) (Nat × List Int) :=
  if x / 16 = 15 then (match cntL e (e - r.length) 0 0 r with | .error f => .error f | .ok (c, r') => .ok (15 + c.toNat, r')) else .ok ((x / 16).toNat, r)
def insL (e size : Nat) (S : List Four) (T : List ByteArray) : Nat → Nat → Nat → Nat → List Ins → List Int → Except (Int × Int) (List Ins × Nat × Nat × List Int)
  | 0, _, kc, kn, acc, l => .ok (acc, kc, kn, l)
  | d + 1, i, kc, kn, acc, [] => .error (e, 200)
  | d + 1, i, kc, kn, acc, x :: r => match numL e x r with
    | .error f => .error f
    | .ok (n, r') => match putL (x % 16) i n size kc kn S T with
      | none => .error ((e - (r.length + 1) : Nat), 204)
      | some (y, kc', kn') => insL e size S T d (i + 1) kc' kn' (acc ++ [y]) r'
end Go.Proofs.Ytebiogaacikphaa.Pack
end
section
namespace Go.Proofs.Ytebiogaacikphaa.PAll
open Go.RowKit Go.Proofs.YtebiogaacikphaaW.PrintWords Go.Proofs.YtebiogaacikphaaW.PrintLast Go.Proofs.YtebiogaacikphaaW.PrintMore
set_option linter.unusedVariables false
set_option linter.unusedSimpArgs false
/-- Of short ASCII texts alone: is one of the second's bytes in the first? -/
def strings_ContainsAny.f (a0 a1 : ByteArray) : Option Bool :=
  if a0.size < 4294967281 ∧ a1.size < 4294967281 ∧ (∀ b ∈ a0.data.toList, b.toNat < 128) ∧ (∀ b ∈ a1.data.toList, b.toNat < 128) then some (Lib.containsAny a0.data.toList a1.data.toList) else none
theorem strings_ContainsAny.calls (a0 a1 : ByteArray) (r : Bool) (w : World) (h : strings_ContainsAny.f a0 a1 = some r) :
    Calls Try.prog 85 #[.string a0, .string a1] w fun e w' => e = .returned (.bool r) ∧ Below w.heap.size w w' := by
  unfold strings_ContainsAny.f at h
  split at h
  case isFalse => cases h
  rename_i hc
  obtain rfl := Option.some.inj h
  exact Try.strings_ContainsAny_laid a0 a1 w hc.1 hc.2.1 (fun j b hb => hc.2.2.1 b (List.mem_of_getElem? hb)) (fun j b hb => hc.2.2.2 b (List.mem_of_getElem? hb))
end Go.Proofs.Ytebiogaacikphaa.PAll
end
section
namespace Go.Proofs.Ytebiogaacikphaa.Contains
open Go.RowKit Go.Proofs.YtebiogaacikphaaW.PrintWords Go.Proofs.Ytebiogaacikphaa.PAll Go.Proofs.Ytebiogaacikphaa.Names
set_option linter.unusedVariables false
/-- A byte that may stand in a name. -/
def nameByte (b : UInt8) : Bool := inName b || b == 58 || b == 126
theorem run_all (p : UInt8 → Bool) : ∀ l : List UInt8, ∀ b ∈ l.take (run p l), p b = true
  | [], b, h => by simp at h
  | c :: r, b, h => by
    rw [run] at h
    split at h
    · rename_i hc
      rw [List.take_succ_cons] at h
      rcases List.mem_cons.1 h with rfl | h
      · exact hc
      · exact run_all p r b h
    · simp at h
theorem ownLen_all : ∀ l : List UInt8, ∀ b ∈ l.take (ownLen l), inName b = true
  | [], b, h => by simp at h
  | c :: r, b, h => by
    rw [ownLen] at h
    split at h
    · rename_i hc
      rw [List.take_succ_cons] at h
      rcases List.mem_cons.1 h with rfl | h
      · rw [inName, hc, Bool.true_or]
      · exact run_all _ r b h
    · simp at h
theorem digit_in {b : UInt8} (h : digit b = true) : nameByte b = true := by rw [nameByte, inName, h, Bool.or_true, Bool.true_or, Bool.true_or]
theorem more_all (l : List UInt8) : ∀ b ∈ l.take (more l), nameByte b = true := by
  intro b h
  unfold more at h
  split at h
  · rename_i r
    split at h
    · simp at h
    · rw [List.take_succ_cons, List.take_succ_cons] at h
      rcases List.mem_cons.1 h with rfl | h
      · rfl
      rcases List.mem_cons.1 h with rfl | h
      · rfl
      rw [nameByte, ownLen_all r b h]
      rfl
  · simp at h
theorem tilde_all (l : List UInt8) : ∀ b ∈ l.take (tilde l), nameByte b = true := by
  intro b h
  unfold tilde at h
  split at h
  · rename_i r
    split at h
    · simp at h
    · rw [List.take_succ_cons] at h
      rcases List.mem_cons.1 h with rfl | h
      · rfl
      exact digit_in (run_all digit r b h)
  · simp at h
theorem named_all (l : List UInt8) : ∀ b ∈ l.take (namedLen l), nameByte b = true := by
  intro b h
  unfold namedLen at h
  split at h
  · simp at h
  rw [List.take_add, List.take_add, List.mem_append, List.mem_append] at h
  rcases h with (h | h) | h
  · rw [nameByte, ownLen_all _ b h]
    rfl
  · exact more_all _ b h
  · exact tilde_all _ b h
theorem isName_all {l : List UInt8} (h : isName l = true) : l.length ≤ 64 ∧ ∀ b ∈ l, nameByte b = true := by
  unfold isName at h
  simp only [Bool.and_eq_true, decide_eq_true_eq] at h
  refine ⟨h.1.2, fun b hb => named_all l b ?_⟩
  rw [h.2, List.take_of_length_le (Nat.le_refl _)]
  exact hb
theorem nameByte_ascii {b : UInt8} (h : nameByte b = true) : b.toNat < 128 := by
  have h1 : b = 58 → b.toNat < 128 := by rintro rfl; decide
  have h2 : b = 126 → b.toNat < 128 := by rintro rfl; decide
  unfold nameByte inName letter digit letterI digitI at h
  simp only [Bool.or_eq_true, Bool.and_eq_true, decide_eq_true_eq, beq_iff_eq] at h
  rcases h with (((h | h) | h) | h) | h
  · rcases h with h | h <;> omega
  · omega
  · omega
  · exact h1 h
  · exact h2 h
theorem indexAny_own : ∀ l : List UInt8, decide (0 ≤ Lib.indexAny l [58, 126]) = !isOwn l
  | [] => rfl
  | c :: r => by
    have ih := indexAny_own r
    have hge := Lib.indexAny_ge [58, 126] r
    rw [Lib.indexAny, isOwn, List.all_cons]
    rw [isOwn] at ih
    by_cases h1 : c = 58
    · subst h1; simp
    by_cases h2 : c = 126
    · subst h2; simp
    have e : ([58, 126] : List UInt8).contains c = false := by simp [h1, h2]
    rw [e]
    simp only [Bool.false_eq_true, if_false, bne, beq_eq_false_iff_ne.2 h1, beq_eq_false_iff_ne.2 h2, Bool.not_false, Bool.true_and, Bool.and_self]
    simp only [bne] at ih
    rw [← ih]
    by_cases h3 : Lib.indexAny r [58, 126] = -1
    · simp [h3]
    · have h3' : (Lib.indexAny r [58, 126] == -1) = false := by simpa using h3
      rw [h3', if_neg (by simp), decide_eq_true (by omega), decide_eq_true (by omega)]
theorem containsAny_some (s : ByteArray) (h : isName s.data.toList = true) : strings_ContainsAny.f s (⟨#[58, 126]⟩ : ByteArray) = some (!isOwn s.data.toList) := by
  unfold strings_ContainsAny.f
  have ha := isName_all h
  rw [if_pos ⟨by rw [size_list]; omega, by decide, fun b hb => nameByte_ascii (ha.2 b hb), by decide⟩]
  rw [Lib.containsAny]
  exact congrArg some (indexAny_own _)
end Go.Proofs.Ytebiogaacikphaa.Contains
end
