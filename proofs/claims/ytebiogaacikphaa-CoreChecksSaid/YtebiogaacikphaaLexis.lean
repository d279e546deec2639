/- lexis.Name answers what a name is (Names.lean). Texts are at most 2^47 bytes. -/
import Derived.Test.YtebiogaacikphaaNames
import Derived.Test.YtebiogaacikphaaPAllx15
import Derived.Test.YtebiogaacikphaaPAllx16
namespace Go.Proofs.Ytebiogaacikphaa.Names
open Go.RowKit Go.Proofs.YtebiogaacikphaaW.PrintWords Go.Proofs.Ytebiogaacikphaa.PAll
set_option linter.unusedVariables false

theorem w64n (a b : Nat) (h : a + b ≤ 140737488351232) : wrap64 ((a : Int) + (b : Int)) = ((a + b : Nat) : Int) := by
  rw [w64] <;> omega
theorem lletter_some (a : Int) : lexis_letter.f a = some (letterI a) := by
  unfold lexis_letter.f letterI
  by_cases h1 : 97 ≤ a <;> by_cases h2 : a ≤ 122 <;> by_cases h3 : 65 ≤ a <;> by_cases h4 : a ≤ 90 <;> simp [h1, h2, h3, h4]
theorem ldigit_some (a : Int) : lexis_digit.f a = some (digitI a) := by
  unfold lexis_digit.f digitI
  by_cases h1 : 48 ≤ a <;> simp [h1]
theorem extract_list (s : ByteArray) (a : Nat) : (s.extract a s.size).data.toList = s.data.toList.drop a := by
  rw [ByteArray.data_extract, Array.toList_extract, size_list, List.extract_eq_take_drop]
  exact List.take_of_length_le (by rw [List.length_drop]; exact Nat.le_refl _)
theorem extract_front (s : ByteArray) (b : Nat) : (s.extract 0 b).data.toList = s.data.toList.take b := by
  rw [ByteArray.data_extract, Array.toList_extract]
  simp [List.extract]

/-- The loop of lexis.own, j bytes behind place i. -/
theorem lown_loop (s : ByteArray) (hs : s.data.toList.length ≤ 140737488351232) (i : Nat) (hi : i ≤ s.data.toList.length) : ∀ (d j : Nat), i + j + d = s.data.toList.length →
    Ev (fun k => lexis_own.l0 k s (i : Int) (j : Int)) (if j = 0 then (ownLen (s.data.toList.drop (i + j)) : Int) else ((j + run inName (s.data.toList.drop (i + j)) : Nat) : Int)) := by
  intro d
  induction d with
  | zero =>
    intro j hj
    refine Ev.step (fun _ => by rw [lexis_own.l0]) ?_
    have hw0 : wrap64 ((i : Int) + (j : Int)) = ((i + j : Nat) : Int) := by rw [w64] <;> omega
    rw [hw0]
    refine Ev.neg (by rw [size_list]; omega) ?_
    exact Ev.some_ (by rw [List.drop_of_length_le (by omega)]; simp [run, ownLen])
  | succ d ih =>
    intro j hj
    have hlt : i + j < s.data.toList.length := by omega
    refine Ev.step (fun _ => by rw [lexis_own.l0]) ?_
    have hw0 : wrap64 ((i : Int) + (j : Int)) = ((i + j : Nat) : Int) := by rw [w64] <;> omega
    have hw : wrap64 ((j : Int) + 1) = ((j + 1 : Nat) : Int) := by rw [w64] <;> omega
    rw [hw0, hw]
    refine Ev.pos (by rw [size_list]; omega) ?_
    refine Ev.pos (by omega) ?_
    refine Ev.bind (Ev.const (lletter_some _)) ?_
    have hn := ih (j + 1) (by omega)
    rw [if_neg (by omega), show i + (j + 1) = i + j + 1 by omega] at hn
    rw [bt_nat s (i + j) hlt, drop_at hlt]
    generalize s.data.toList[i + j] = c
    have hin : inName c = (letterI c.toNat || digitI c.toNat) := rfl
    have hc : letter c = letterI c.toNat := rfl
    refine Ev.ite (fun h => ?_) (fun h => ?_)
    · refine hn.to ?_
      rw [ownLen, run, hin, hc, h]
      simp
      split <;> omega
    · refine Ev.ite (fun h0 => ?_) (fun h0 => ?_)
      · refine Ev.bind (Ev.const (ldigit_some _)) ?_
        refine Ev.ite (fun h' => ?_) (fun h' => ?_)
        · exact hn.to (by rw [if_neg (by omega), run, hin, h', if_pos (by simp)]; omega)
        · exact Ev.some_ (by rw [if_neg (by omega), run, hin, if_neg (by simp [h, h'])]; rfl)
      · exact Ev.some_ (by rw [if_pos (by omega), ownLen, hc, if_neg h]; omega)
theorem lown_ev (s : ByteArray) (hs : s.data.toList.length ≤ 140737488351232) (i : Nat) (hi : i ≤ s.data.toList.length) : Ev (fun k => lexis_own.f k s (i : Int)) (ownLen (s.data.toList.drop i) : Int) := by
  have := lown_loop s hs i hi (s.data.toList.length - i) 0 (by omega)
  rw [if_pos rfl] at this
  exact this

theorem ldigits_ev (s : ByteArray) (hs : s.data.toList.length ≤ 140737488351232) (r : List UInt8) (c0 : UInt8) (hr : s.data.toList = c0 :: r) (v : Int) (hv : ∀ e : Int, e = ((1 + run digit r : Nat) : Int) → Ev (fun k => if e = 1 then some 0 else if e > 6 then some 0 else if 1 < (s.size : Int) then (if bt s 1 = 48 then some 0 else some e) else none) v) : ∀ (d i : Nat), i + d = s.data.toList.length → 1 ≤ i → i + run digit (s.data.toList.drop i) = 1 + run digit r →
    Ev (fun k => lexis_numbered.l0 k s (i : Int)) v := by
  intro d
  induction d with
  | zero =>
    intro i hi h1 he
    refine Ev.step (fun _ => by rw [lexis_numbered.l0]) ?_
    refine Ev.neg (by rw [size_list]; omega) ?_
    rw [List.drop_of_length_le (by omega)] at he
    exact hv _ (by simp [run] at he; omega)
  | succ d ih =>
    intro i hi h1 he
    have hlt : i < s.data.toList.length := by omega
    refine Ev.step (fun _ => by rw [lexis_numbered.l0]) ?_
    refine Ev.pos (by rw [size_list]; omega) ?_
    refine Ev.pos (by omega) ?_
    refine Ev.bind (Ev.const (ldigit_some _)) ?_
    have hw : wrap64 ((i : Int) + 1) = ((i + 1 : Nat) : Int) := by rw [w64] <;> omega
    have hn := ih (i + 1) (by omega) (by omega)
    rw [hw, bt_nat s i hlt]
    rw [drop_at hlt] at he
    generalize s.data.toList[i] = c at *
    have hin : digit c = digitI c.toNat := rfl
    refine Ev.ite (fun h => ?_) (fun h => ?_)
    · refine hn ?_
      rw [run, hin, h, if_pos rfl] at he
      omega
    · refine hv _ ?_
      rw [run, hin, if_neg h] at he
      omega
theorem lnumbered_ev (s : ByteArray) (hs : s.data.toList.length ≤ 140737488351232) : Ev (fun k => lexis_numbered.f k s) (tilde s.data.toList : Int) := by
  unfold lexis_numbered.f
  rw [ByteArray.toList_eq]
  refine Ev.ite (fun h => ?_) (fun h => ?_)
  · refine Ev.step (fun _ => by rw [lexis_numbered.j0]) ?_
    exact Ev.pos rfl (Ev.some_ (by rw [h]; rfl))
  · have h0 : 0 < s.data.toList.length := by
      cases hl : s.data.toList with
      | nil => exact absurd hl h
      | cons a b => simp
    refine Ev.pos (by rw [size_list]; omega) ?_
    refine Ev.step (fun _ => by rw [lexis_numbered.j0]) ?_
    have hc : ∃ c r, s.data.toList = c :: r := by
      cases hl : s.data.toList with
      | nil => exact absurd hl h
      | cons a b => exact ⟨a, b, rfl⟩
    obtain ⟨c, r, hr⟩ := hc
    have hb0 : bt s 0 = (c.toNat : Int) := by
      have := bt_nat s 0 h0
      rw [show ((0 : Nat) : Int) = 0 from rfl] at this
      rw [this]
      simp [hr]
    rw [hb0]
    have e126 : ((c.toNat : Int) != 126) = (c != 126) := by
      rw [bne, bne, beq126]
    rw [e126]
    refine Ev.ite (fun h1 => ?_) (fun h1 => ?_)
    · have h1' : c ≠ 126 := by simpa using h1
      refine Ev.some_ ?_
      rw [hr]
      have : tilde (c :: r) = 0 := by
        unfold tilde
        split
        · rename_i heq
          injection heq with h2 _
          exact absurd h2 h1'
        · rfl
      rw [this]
      rfl
    · have h1' : c = 126 := by simpa using h1
      subst h1'
      have hlen : s.data.toList.length = r.length + 1 := by rw [hr, List.length_cons]
      refine ldigits_ev s hs r 126 hr _ (fun e he => ?_) (s.data.toList.length - 1) 1 (by omega) (by omega) (by rw [hr]; rfl)
      rw [hr, tilde_126]
      refine Ev.ite (fun h2 => Ev.some_ (by rw [if_pos (.inl (by omega))]; rfl)) (fun h2 => ?_)
      refine Ev.ite (fun h3 => Ev.some_ (by rw [if_pos (.inr (.inl (by omega)))]; rfl)) (fun h3 => ?_)
      have hne : run digit r ≠ 0 := by omega
      have hl1 : 1 < s.data.toList.length := by
        cases r with
        | nil => exact absurd rfl hne
        | cons a b => rw [hlen]; simp
      refine Ev.pos (by rw [size_list]; omega) ?_
      have hb1 := bt_nat s 1 hl1
      rw [show ((1 : Nat) : Int) = 1 from rfl] at hb1
      rw [hb1]
      have hh : r.head? = some s.data.toList[1] := by
        cases r with
        | nil => exact absurd rfl hne
        | cons a b => simp [hr]
      rw [hh]
      generalize s.data.toList[1] = q
      refine Ev.ite (fun h4 => Ev.some_ (by rw [if_pos (.inr (.inr (by rw [(@byte_eq q 48 (by omega)).1 h4]; rfl)))]; rfl)) (fun h4 => ?_)
      have h4' : ¬ q = 48 := fun h => h4 ((@byte_eq q 48 (by omega)).2 h)
      exact Ev.some_ (by rw [if_neg (by rintro (h | h | h); exact hne h; omega; exact h4' (Option.some.inj h))]; omega)

theorem hasPrefix_some (a0 a1 : ByteArray) : strings_HasPrefix.f a0 a1 = some (a1.data.toList.isPrefixOf a0.data.toList) := by
  unfold strings_HasPrefix.f stringslite_HasPrefix.f
  have key : a1.data.toList.isPrefixOf a0.data.toList = (decide (a1.size ≤ a0.size) && (a0.data.toList.take a1.size == a1.data.toList)) := by
    rw [Bool.eq_iff_iff, List.isPrefixOf_iff_prefix]
    simp only [Bool.and_eq_true, decide_eq_true_eq, beq_iff_eq]
    rw [size_list, size_list]
    constructor
    · intro h
      exact ⟨h.length_le, (List.prefix_iff_eq_take.1 h).symm⟩
    · rintro ⟨_, h⟩
      rw [← h]
      exact List.take_prefix _ _
  rw [key]
  by_cases h : a1.size ≤ a0.size
  · rw [if_pos (by omega), if_pos (by omega), if_pos (by omega), Option.bind_some, Int.toNat_natCast, ByteArray.toList_eq, ByteArray.toList_eq, extract_front, decide_eq_true h, Bool.true_and]
  · rw [if_neg (by omega), Option.bind_some, decide_eq_false h, Bool.false_and]

theorem more_of (r : List UInt8) : ([58, 58] : List UInt8).isPrefixOf r = true → ∃ r', r = 58 :: 58 :: r' := by
  intro h
  obtain ⟨t, rfl⟩ := List.isPrefixOf_iff_prefix.1 h
  exact ⟨t, rfl⟩
theorem more_not (r : List UInt8) (h : ¬ ([58, 58] : List UInt8).isPrefixOf r = true) : more r = 0 := by
  unfold more
  split
  · exact absurd (by simp [List.isPrefixOf]) h
  · rfl

theorem lnamed_ev (s : ByteArray) (hs : s.data.toList.length ≤ 140737488351232) (i : Nat) (hi : i ≤ s.data.toList.length) : Ev (fun k => lexis_named.f k s (i : Int)) (namedLen (s.data.toList.drop i) : Int) := by
  unfold lexis_named.f
  refine Ev.bind (lown_ev s hs i hi) ?_
  have hle := ownLen_le (s.data.toList.drop i)
  rw [List.length_drop] at hle
  refine Ev.ite (fun h => Ev.some_ (by rw [namedLen, if_pos (by omega)]; rfl)) (fun h => ?_)
  have h0 : ownLen (s.data.toList.drop i) ≠ 0 := by omega
  have hnl : namedLen (s.data.toList.drop i) = (ownLen (s.data.toList.drop i) + more (s.data.toList.drop (i + ownLen (s.data.toList.drop i)))) + tilde (s.data.toList.drop (i + (ownLen (s.data.toList.drop i) + more (s.data.toList.drop (i + ownLen (s.data.toList.drop i)))))) := by
    rw [namedLen, if_neg h0]
    simp only [List.drop_drop]
  rw [hnl]
  clear hnl h
  generalize ownLen (s.data.toList.drop i) = n at *
  have hw : wrap64 ((i : Int) + (n : Int)) = ((i + n : Nat) : Int) := by rw [w64] <;> omega
  rw [hw]
  refine Ev.pos (by omega) ?_
  refine Ev.pos (by rw [size_list]; omega) ?_
  rw [Int.toNat_natCast]
  have num : ∀ q : Nat, q ≤ s.data.toList.length → Ev (fun k => lexis_numbered.f k (s.extract q s.size)) (tilde (s.data.toList.drop q) : Int) := by
    intro q hq
    have := lnumbered_ev (s.extract q s.size) (by rw [extract_list, List.length_drop]; omega)
    rwa [extract_list] at this
  have tl : ∀ q : Nat, tilde (s.data.toList.drop q) ≤ 140737488351232 := fun q => by
    have := tilde_le (s.data.toList.drop q)
    rw [List.length_drop] at this
    omega
  have flat : more (s.data.toList.drop (i + n)) = 0 → Ev (fun k => (lexis_numbered.f k (s.extract (i + n) s.size)).bind fun t => some (wrap64 ((n : Int) + t))) (((n + more (s.data.toList.drop (i + n))) + tilde (s.data.toList.drop (i + (n + more (s.data.toList.drop (i + n))))) : Nat) : Int) := by
    intro hm
    rw [hm, Nat.add_zero]
    refine Ev.bind (num (i + n) (by omega)) (Ev.some_ ?_)
    have := tl (i + n)
    rw [w64] <;> omega
  refine Ev.bind (Ev.const (hasPrefix_some _ _)) ?_
  rw [extract_list]
  refine Ev.ite (fun h1 => ?_) (fun h1 => flat (more_not _ h1))
  obtain ⟨r, hr⟩ := more_of _ h1
  have hl : i + n + 2 ≤ s.data.toList.length := by
    have := congrArg List.length hr
    simp only [List.length_drop, List.length_cons] at this
    omega
  have hw2 : wrap64 (((i + n : Nat) : Int) + 2) = ((i + n + 2 : Nat) : Int) := by rw [w64] <;> omega
  rw [hw2]
  have hr2 : s.data.toList.drop (i + n + 2) = r := by rw [← List.drop_drop, hr]; rfl
  have ho := lown_ev s hs (i + n + 2) hl
  rw [hr2] at ho
  have hle2 := ownLen_le r
  have hrl : r.length = s.data.toList.length - (i + n + 2) := by rw [← hr2, List.length_drop]
  have hm : more (s.data.toList.drop (i + n)) = if ownLen r = 0 then 0 else ownLen r + 2 := by rw [hr, more]
  refine Ev.bind ho ?_
  refine Ev.ite (fun h2 => ?_) (fun h2 => flat (by rw [hm, if_pos (by omega)]))
  rw [hm, if_neg (by omega)]
  generalize ownLen r = m at *
  have e0 : wrap64 (2 + (m : Int)) = ((m + 2 : Nat) : Int) := by rw [w64] <;> omega
  have hbnd : i + (n + (m + 2)) ≤ s.data.toList.length := by clear hm ho; omega
  have e1 : wrap64 ((n : Int) + ((m + 2 : Nat) : Int)) = ((n + (m + 2) : Nat) : Int) := w64n _ _ (by clear hm ho; omega)
  have e2 : wrap64 ((i : Int) + ((n + (m + 2) : Nat) : Int)) = ((i + (n + (m + 2)) : Nat) : Int) := w64n _ _ (by clear hm ho; omega)
  rw [e0, e1, e2]
  clear hm ho hr hr2 hw2 hw e0 e1 e2 hle hrl hle2 h2 flat h1
  refine Ev.pos (Int.natCast_nonneg _) ?_
  refine Ev.pos (by rw [size_list]; exact Int.ofNat_le.2 hbnd) ?_
  rw [Int.toNat_natCast]
  refine Ev.bind (num (i + (n + (m + 2))) hbnd) (Ev.some_ ?_)
  have ht := tilde_le (s.data.toList.drop (i + (n + (m + 2))))
  rw [List.length_drop] at ht
  exact w64n _ _ (by omega)

theorem lexName_ev (s : ByteArray) (hs : s.size ≤ 140737488351232) : Ev (fun k => lexis_Name.f k s) (isName s.data.toList) := by
  rw [size_list] at hs
  unfold lexis_Name.f isName
  rw [ByteArray.toList_eq, size_list]
  refine Ev.ite (fun h => ?_) (fun h => ?_)
  · exact Ev.some_ (by simp [h])
  · refine Ev.ite (fun h1 => ?_) (fun h1 => ?_)
    · refine Ev.bind (lnamed_ev s hs 0 (Nat.zero_le _)) ?_
      refine Ev.some_ ?_
      rw [List.drop_zero, Bool.eq_iff_iff, beq_iff_eq]
      simp only [Bool.and_eq_true, decide_eq_true_eq]
      constructor
      · intro h2
        exact ⟨⟨h, by omega⟩, by omega⟩
      · intro h2
        omega
    · refine Ev.some_ ?_
      rw [decide_eq_false (show ¬ s.data.toList.length ≤ 64 by omega), Bool.and_false, Bool.false_and]
end Go.Proofs.Ytebiogaacikphaa.Names
