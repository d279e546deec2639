/- What a name is (chapter 4), as a plain function on lists of bytes, and that the reference's function (dowelref04.Name) and dowelbase.Own answer so. Texts are at most 2^47 bytes. -/
import Derived.Test.YtebiogaacikphaaEv
import Derived.Test.YtebiogaacikphaaPAllx7
import Derived.Test.YtebiogaacikphaaPAllx8
import Derived.Test.YtebiogaacikphaaPAllx9
namespace Go.Proofs.Ytebiogaacikphaa.Names
open Go.RowKit Go.Proofs.YtebiogaacikphaaW.PrintWords Go.Proofs.Ytebiogaacikphaa.PAll
set_option linter.unusedVariables false

def letterI (a : Int) : Bool := (decide (97 ≤ a) && decide (a ≤ 122)) || (decide (65 ≤ a) && decide (a ≤ 90)) || a == 95
def digitI (a : Int) : Bool := decide (48 ≤ a) && decide (a ≤ 57)
def letter (c : UInt8) : Bool := letterI c.toNat
def digit (c : UInt8) : Bool := digitI c.toNat
/-- How many bytes at the front meet p. -/
def run (p : UInt8 → Bool) : List UInt8 → Nat
  | [] => 0
  | c :: r => if p c then run p r + 1 else 0
def inName (c : UInt8) : Bool := letter c || digit c
def ownLen : List UInt8 → Nat
  | [] => 0
  | c :: r => if letter c then run inName r + 1 else 0
/-- '::' and an own name. -/
def more (r : List UInt8) : Nat := match r with
  | 58 :: 58 :: r' => if ownLen r' = 0 then 0 else ownLen r' + 2
  | _ => 0
/-- '~' and up to five digits, the first of which isn't 0. -/
def tilde (r : List UInt8) : Nat := match r with
  | 126 :: r' => if run digit r' = 0 ∨ 5 < run digit r' ∨ r'.head? = some 48 then 0 else run digit r' + 1
  | _ => 0
def namedLen (l : List UInt8) : Nat :=
  if ownLen l = 0 then 0 else (ownLen l + more (l.drop (ownLen l))) + tilde (l.drop (ownLen l + more (l.drop (ownLen l))))
def isName (l : List UInt8) : Bool := decide (l ≠ []) && decide (l.length ≤ 64) && decide (namedLen l = l.length)
def isOwn (l : List UInt8) : Bool := l.all fun c => c != 58 && c != 126

theorem run_le (p : UInt8 → Bool) : ∀ l : List UInt8, run p l ≤ l.length
  | [] => Nat.le_refl _
  | c :: r => by
    have := run_le p r
    unfold run
    split <;> simp <;> omega
theorem ownLen_le : ∀ l : List UInt8, ownLen l ≤ l.length
  | [] => Nat.le_refl _
  | c :: r => by
    have := run_le inName r
    rw [ownLen, List.length_cons]
    split <;> omega

theorem letter_some (a : Int) : dowelref04_letter.f a = some (letterI a) := by
  unfold dowelref04_letter.f letterI
  by_cases h1 : 97 ≤ a <;> by_cases h2 : a ≤ 122 <;> by_cases h3 : 65 ≤ a <;> by_cases h4 : a ≤ 90 <;> simp [h1, h2, h3, h4]
theorem digit_some (a : Int) : dowelref04_digit.f a = some (digitI a) := by
  unfold dowelref04_digit.f digitI
  by_cases h1 : 48 ≤ a <;> simp [h1]

theorem drop_at {l : List UInt8} {i : Nat} (h : i < l.length) : l.drop i = l[i] :: l.drop (i + 1) := List.drop_eq_getElem_cons h

/-- The loop of dowelref04.own from a place on. -/
theorem refown_loop (s : ByteArray) (hs : s.data.toList.length ≤ 140737488351232) : ∀ (d i : Nat), i + d = s.data.toList.length →
    Ev (fun k => dowelref04_own.l0 k s (i : Int)) (((i + run inName (s.data.toList.drop i) : Nat) : Nat) : Int) := by
  intro d
  induction d with
  | zero =>
    intro i hi
    refine Ev.step (fun _ => by rw [dowelref04_own.l0]) ?_
    refine Ev.neg (by rw [size_list]; omega) ?_
    exact Ev.some_ (by rw [List.drop_of_length_le (by omega)]; simp [run])
  | succ d ih =>
    intro i hi
    have hlt : i < s.data.toList.length := by omega
    refine Ev.step (fun _ => by rw [dowelref04_own.l0]) ?_
    refine Ev.pos (by rw [size_list]; omega) ?_
    refine Ev.pos (by omega) ?_
    refine Ev.bind (Ev.const (letter_some _)) ?_
    have hw : wrap64 ((i : Int) + 1) = ((i + 1 : Nat) : Int) := by rw [w64] <;> omega
    rw [bt_nat s i hlt, hw, drop_at hlt]
    generalize s.data.toList[i] = c
    have hin : inName c = (letterI c.toNat || digitI c.toNat) := rfl
    refine Ev.ite (fun h => ?_) (fun h => ?_)
    · exact (ih (i + 1) (by omega)).to (by rw [run, hin, h, if_pos (by simp)]; omega)
    · refine Ev.bind (Ev.const (digit_some _)) ?_
      refine Ev.ite (fun h' => ?_) (fun h' => ?_)
      · exact (ih (i + 1) (by omega)).to (by rw [run, hin, h', if_pos (by simp)]; omega)
      · exact Ev.some_ (by rw [run, hin, if_neg (by simp [h, h'])]; rfl)

theorem refown_ev (s : ByteArray) (hs : s.data.toList.length ≤ 140737488351232) (i : Nat) (hi : i ≤ s.data.toList.length) :
    Ev (fun k => dowelref04_own.f k s (i : Int)) ((i + ownLen (s.data.toList.drop i) : Nat) : Int) := by
  unfold dowelref04_own.f
  rcases Nat.lt_or_ge i s.data.toList.length with h | h
  · refine Ev.neg (by rw [size_list]; omega) ?_
    refine Ev.pos (by omega) ?_
    refine Ev.pos (by rw [size_list]; omega) ?_
    refine Ev.bind (Ev.const (letter_some _)) ?_
    have hloop := refown_loop s hs (s.data.toList.length - i) i (by omega)
    rw [bt_nat s i h]
    rw [drop_at h] at hloop ⊢
    generalize s.data.toList[i] = c at hloop ⊢
    have hc : letterI c.toNat = letter c := rfl
    rw [hc]
    refine Ev.step (fun _ => by rw [dowelref04_own.j0]) ?_
    refine Ev.ite (fun hl => ?_) (fun hl => ?_)
    · have hl' : letter c = false := by simpa using hl
      exact Ev.some_ (by rw [ownLen, hl']; simp)
    · have hl' : letter c = true := by simpa using hl
      refine hloop.to ?_
      rw [ownLen, run, if_pos hl', if_pos (by simp [inName, hl'])]
  · refine Ev.pos (by rw [size_list]; omega) ?_
    refine Ev.step (fun _ => by rw [dowelref04_own.j0]) ?_
    exact Ev.pos rfl (Ev.some_ (by rw [List.drop_of_length_le (by omega)]; simp [ownLen]))

theorem refdigits_ev (s : ByteArray) (hs : s.data.toList.length ≤ 140737488351232) : ∀ (d i : Nat), i + d = s.data.toList.length →
    Ev (fun k => dowelref04_digits.l0 k s (i : Int)) ((i + run digit (s.data.toList.drop i) : Nat) : Int) := by
  intro d
  induction d with
  | zero =>
    intro i hi
    refine Ev.step (fun _ => by rw [dowelref04_digits.l0]) ?_
    refine Ev.neg (by rw [size_list]; omega) ?_
    exact Ev.some_ (by rw [List.drop_of_length_le (by omega)]; simp [run])
  | succ d ih =>
    intro i hi
    have hlt : i < s.data.toList.length := by omega
    refine Ev.step (fun _ => by rw [dowelref04_digits.l0]) ?_
    refine Ev.pos (by rw [size_list]; omega) ?_
    refine Ev.pos (by omega) ?_
    refine Ev.bind (Ev.const (digit_some _)) ?_
    have hw : wrap64 ((i : Int) + 1) = ((i + 1 : Nat) : Int) := by rw [w64] <;> omega
    rw [bt_nat s i hlt, hw, drop_at hlt]
    generalize s.data.toList[i] = c
    have hin : digit c = digitI c.toNat := rfl
    refine Ev.ite (fun h => ?_) (fun h => ?_)
    · exact (ih (i + 1) (by omega)).to (by rw [run, hin, h, if_pos (by simp)]; omega)
    · exact Ev.some_ (by rw [run, hin, if_neg (by simp [h])]; rfl)

theorem tilde_le (r : List UInt8) : tilde r ≤ r.length := by
  unfold tilde
  split
  · rename_i r'
    have := run_le digit r'
    split <;> simp <;> omega
  · exact Nat.zero_le _
theorem more_le (r : List UInt8) : more r ≤ r.length := by
  unfold more
  split
  · rename_i r'
    have := ownLen_le r'
    split <;> simp <;> omega
  · exact Nat.zero_le _
theorem namedLen_le (l : List UInt8) : namedLen l ≤ l.length := by
  unfold namedLen
  have h1 := ownLen_le l
  have h2 := more_le (l.drop (ownLen l))
  have h3 := tilde_le (l.drop (ownLen l + more (l.drop (ownLen l))))
  simp only [List.length_drop] at h2 h3
  split <;> omega

theorem byte_eq {c : UInt8} {n : Nat} (hn : n < 256) : ((c.toNat : Int) = (n : Int)) ↔ c = UInt8.ofNat n := by
  constructor
  · intro h
    have h' : c.toNat = n := by omega
    rw [← h']
    exact (UInt8.ofNat_toNat).symm
  · rintro rfl
    rw [UInt8.toNat_ofNat_of_lt' (by simpa using hn)]
theorem byte_beq {c : UInt8} {n : Nat} (hn : n < 256) : ((c.toNat : Int) == (n : Int)) = (c == UInt8.ofNat n) := by
  rw [Bool.eq_iff_iff, beq_iff_eq, beq_iff_eq, byte_eq hn]

theorem beq58 (c : UInt8) : ((c.toNat : Int) == 58) = (c == 58) := @byte_beq c 58 (by omega)
theorem beq126 (c : UInt8) : ((c.toNat : Int) == 126) = (c == 126) := @byte_beq c 126 (by omega)
theorem tilde_126 (r' : List UInt8) : tilde (126 :: r') = if run digit r' = 0 ∨ 5 < run digit r' ∨ r'.head? = some 48 then 0 else run digit r' + 1 := rfl

theorem refj1_ev (s : ByteArray) (hs : s.data.toList.length ≤ 140737488351232) (i : Nat) (hi : i ≤ s.data.toList.length) :
    Ev (fun k => dowelref04_named.j1 k s (i : Int)) ((i + tilde (s.data.toList.drop i) : Nat) : Int) := by
  refine Ev.step (fun _ => by rw [dowelref04_named.j1]) ?_
  rcases Nat.lt_or_ge i s.data.toList.length with h | h
  · refine Ev.pos (by rw [size_list]; omega) ?_
    refine Ev.pos (by omega) ?_
    refine Ev.step (fun _ => by rw [dowelref04_named.j2]) ?_
    have hd := refdigits_ev s hs (s.data.toList.length - (i + 1)) (i + 1) (by omega)
    have hw : wrap64 ((i : Int) + 1) = ((i + 1 : Nat) : Int) := by rw [w64] <;> omega
    have hw6 : wrap64 ((i : Int) + 6) = ((i + 6 : Nat) : Int) := by rw [w64] <;> omega
    rw [bt_nat s i h, drop_at h, hw, hw6]
    generalize s.data.toList[i] = c
    rw [beq126]
    refine Ev.ite (fun hc => ?_) (fun hc => ?_)
    · have hc' : c = 126 := by simpa using hc
      subst hc'
      refine Ev.bind (Ev.congr (fun k => by rw [dowelref04_digits.f]) hd) ?_
      rw [tilde_126]
      refine Ev.ite (fun h1 => ?_) (fun h1 => ?_)
      · have h1' : run digit (s.data.toList.drop (i + 1)) ≠ 0 := by omega
        have hlt : i + 1 < s.data.toList.length := by
          rcases Nat.lt_or_ge (i + 1) s.data.toList.length with h' | h'
          · exact h'
          · rw [List.drop_of_length_le h'] at h1'
            exact absurd rfl h1'
        refine Ev.ite (fun h2 => ?_) (fun h2 => ?_)
        · refine Ev.pos (by omega) ?_
          refine Ev.pos (by rw [size_list]; omega) ?_
          rw [bt_nat s (i + 1) hlt]
          have hh : (s.data.toList.drop (i + 1)).head? = some s.data.toList[i + 1] := by rw [drop_at hlt]; rfl
          rw [hh]
          generalize s.data.toList[i + 1] = e
          refine Ev.ite (fun h3 => ?_) (fun h3 => ?_)
          · have h3' : e = 48 := (@byte_eq e 48 (by omega)).1 h3
            exact Ev.some_ (by rw [if_pos (.inr (.inr (by rw [h3'])))]; omega)
          · have h3' : ¬ e = 48 := fun h => h3 ((@byte_eq e 48 (by omega)).2 h)
            exact Ev.some_ (by rw [if_neg (by rintro (h | h | h); exact h1' h; omega; exact h3' (Option.some.inj h))]; omega)
        · exact Ev.some_ (by rw [if_pos (.inr (.inl (by omega)))]; omega)
      · exact Ev.some_ (by rw [if_pos (.inl (by omega))]; omega)
    · have hc' : ¬ c = 126 := by simpa using hc
      refine Ev.some_ ?_
      have : tilde (c :: s.data.toList.drop (i + 1)) = 0 := by
        unfold tilde
        split
        · rename_i heq
          injection heq with h1 _
          exact absurd h1 hc'
        · rfl
      rw [this]
      omega
  · refine Ev.neg (by rw [size_list]; omega) ?_
    refine Ev.step (fun _ => by rw [dowelref04_named.j2]) ?_
    exact Ev.neg (by simp) (Ev.some_ (by rw [List.drop_of_length_le h]; simp [tilde]))

theorem refj0_ev (s : ByteArray) (hs : s.data.toList.length ≤ 140737488351232) (i : Nat) (hi : i ≤ s.data.toList.length) (b : Bool) (hb : b = true → ∃ r, s.data.toList.drop i = 58 :: 58 :: r) (hb' : b = false → more (s.data.toList.drop i) = 0) :
    Ev (fun k => dowelref04_named.j0 k s (i : Int) b) (((i + more (s.data.toList.drop i)) + tilde (s.data.toList.drop (i + more (s.data.toList.drop i))) : Nat) : Int) := by
  refine Ev.step (fun _ => by rw [dowelref04_named.j0]) ?_
  refine Ev.ite (fun h => ?_) (fun h => ?_)
  · obtain ⟨r, hr⟩ := hb h
    have hl : i + 2 ≤ s.data.toList.length := by
      have := congrArg List.length hr
      simp only [List.length_drop, List.length_cons] at this
      omega
    have hw : wrap64 ((i : Int) + 2) = ((i + 2 : Nat) : Int) := by rw [w64] <;> omega
    rw [hw]
    have hr2 : s.data.toList.drop (i + 2) = r := by rw [← List.drop_drop, hr]; rfl
    have ho := refown_ev s hs (i + 2) hl
    have hle := ownLen_le r
    have hrl : r.length = s.data.toList.length - (i + 2) := by rw [← hr2, List.length_drop]
    rw [hr2] at ho
    refine Ev.bind ho ?_
    have hm : more (s.data.toList.drop i) = if ownLen r = 0 then 0 else ownLen r + 2 := by rw [hr, more]
    refine Ev.ite (fun h1 => ?_) (fun h1 => ?_)
    · rw [hm, if_neg (by omega)]
      have := refj1_ev s hs (i + 2 + ownLen r) (by omega)
      rw [show i + (ownLen r + 2) = i + 2 + ownLen r by omega]
      exact this
    · rw [hm, if_pos (by omega)]
      exact refj1_ev s hs i hi
  · have hb'' := hb' (by simpa using h)
    rw [hb'']
    exact refj1_ev s hs i hi

theorem refnamed_ev (s : ByteArray) (hs : s.data.toList.length ≤ 140737488351232) (i : Nat) (hi : i ≤ s.data.toList.length) :
    Ev (fun k => dowelref04_named.f k s (i : Int)) ((i + namedLen (s.data.toList.drop i) : Nat) : Int) := by
  unfold dowelref04_named.f
  refine Ev.bind (refown_ev s hs i hi) ?_
  have hle := ownLen_le (s.data.toList.drop i)
  rw [List.length_drop] at hle
  have key : ∀ b, (b = true → ∃ r, s.data.toList.drop (i + ownLen (s.data.toList.drop i)) = 58 :: 58 :: r) → (b = false → more (s.data.toList.drop (i + ownLen (s.data.toList.drop i))) = 0) → ownLen (s.data.toList.drop i) ≠ 0 →
      Ev (fun k => dowelref04_named.j0 k s ((i + ownLen (s.data.toList.drop i) : Nat) : Int) b) ((i + namedLen (s.data.toList.drop i) : Nat) : Int) := by
    intro b h1 h2 h0
    refine (refj0_ev s hs (i + ownLen (s.data.toList.drop i)) (by omega) b h1 h2).to ?_
    rw [namedLen, if_neg h0]
    simp only [List.drop_drop, Nat.add_assoc]
  refine Ev.ite (fun h => ?_) (fun h => ?_)
  · exact Ev.some_ (by rw [namedLen, if_pos (by omega)]; omega)
  · have h0 : ownLen (s.data.toList.drop i) ≠ 0 := by omega
    generalize ownLen (s.data.toList.drop i) = n at *
    have hw : wrap64 (((i + n : Nat) : Int) + 1) = ((i + n + 1 : Nat) : Int) := by rw [w64] <;> omega
    rw [hw]
    refine Ev.ite (fun h1 => ?_) (fun h1 => ?_)
    · have hlt : i + n + 1 < s.data.toList.length := by rw [size_list] at h1; omega
      refine Ev.pos (by omega) ?_
      refine Ev.pos (by rw [size_list]; omega) ?_
      have hd : s.data.toList.drop (i + n) = s.data.toList[i + n] :: s.data.toList[i + n + 1] :: s.data.toList.drop (i + n + 2) := by
        rw [drop_at (show i + n < s.data.toList.length by omega), drop_at hlt]
      rw [bt_nat s (i + n) (by omega), bt_nat s (i + n + 1) hlt]
      rw [hd] at key
      generalize s.data.toList[i + n] = c at *
      generalize s.data.toList[i + n + 1] = e at *
      refine Ev.ite (fun h2 => ?_) (fun h2 => ?_)
      · have hc : c = 58 := (@byte_eq c 58 (by omega)).1 h2
        refine Ev.pos (by omega) ?_
        rw [beq58]
        refine key _ (fun h3 => ?_) (fun h3 => ?_) h0
        · have he : e = 58 := by simpa using h3
          exact ⟨_, by rw [hc, he]⟩
        · have he : e ≠ 58 := by simpa using h3
          unfold more
          split
          · rename_i heq
            injection heq with _ h5
            injection h5 with h6 _
            exact absurd h6 he
          · rfl
      · have hc : c ≠ 58 := fun h => h2 ((@byte_eq c 58 (by omega)).2 h)
        refine key _ (fun h3 => by cases h3) (fun _ => ?_) h0
        unfold more
        split
        · rename_i heq
          injection heq with h5 _
          exact absurd h5 hc
        · rfl
    · refine key _ (fun h3 => by cases h3) (fun _ => ?_) h0
      have hlen : (s.data.toList.drop (i + n)).length ≤ 1 := by rw [List.length_drop]; rw [size_list] at h1; omega
      unfold more
      split
      · rename_i heq
        rw [heq] at hlen
        simp at hlen
      · rfl

theorem refName_ev (s : ByteArray) (hs : s.size ≤ 140737488351232) : Ev (fun k => dowelref04_Name.f k s) (isName s.data.toList) := by
  rw [size_list] at hs
  unfold dowelref04_Name.f isName
  rw [ByteArray.toList_eq, size_list]
  refine Ev.ite (fun h => ?_) (fun h => ?_)
  · exact Ev.some_ (by simp [h])
  · refine Ev.ite (fun h1 => ?_) (fun h1 => ?_)
    · refine Ev.bind (refnamed_ev s hs 0 (Nat.zero_le _)) ?_
      refine Ev.some_ ?_
      rw [List.drop_zero, Nat.zero_add, Bool.eq_iff_iff, beq_iff_eq]
      simp only [Bool.and_eq_true, decide_eq_true_eq]
      constructor
      · intro h2
        exact ⟨⟨h, by omega⟩, by omega⟩
      · intro h2
        omega
    · refine Ev.some_ ?_
      rw [decide_eq_false (show ¬ s.data.toList.length ≤ 64 by omega), Bool.and_false, Bool.false_and]

theorem own_loop (s : ByteArray) (hs : s.data.toList.length ≤ 140737488351232) : ∀ (d i : Nat), i + d = s.data.toList.length → Ev (fun k => dowelbase_Own.l0 k s (i : Int)) (isOwn (s.data.toList.drop i)) := by
  intro d
  induction d with
  | zero =>
    intro i hi
    refine Ev.step (fun _ => by rw [dowelbase_Own.l0]) ?_
    refine Ev.neg (by rw [size_list]; omega) ?_
    exact Ev.some_ (by rw [List.drop_of_length_le (by omega)]; simp [isOwn])
  | succ d ih =>
    intro i hi
    have hlt : i < s.data.toList.length := by omega
    refine Ev.step (fun _ => by rw [dowelbase_Own.l0]) ?_
    refine Ev.pos (by rw [size_list]; omega) ?_
    refine Ev.pos (by omega) ?_
    have hw : wrap64 ((i : Int) + 1) = ((i + 1 : Nat) : Int) := by rw [w64] <;> omega
    rw [bt_nat s i hlt, hw, drop_at hlt]
    generalize s.data.toList[i] = c
    refine Ev.ite (fun h => ?_) (fun h => ?_)
    · have hc : c = 58 := (@byte_eq c 58 (by omega)).1 h
      exact Ev.some_ (by simp [isOwn, hc])
    · have hc : c ≠ 58 := fun h' => h ((@byte_eq c 58 (by omega)).2 h')
      refine Ev.ite (fun h2 => ?_) (fun h2 => ?_)
      · have hc2 : c = 126 := (@byte_eq c 126 (by omega)).1 h2
        exact Ev.some_ (by simp [isOwn, hc2])
      · have hc2 : c ≠ 126 := fun h' => h2 ((@byte_eq c 126 (by omega)).2 h')
        refine (ih (i + 1) (by omega)).to ?_
        simp [isOwn, hc, hc2]
theorem own_ev (s : ByteArray) (hs : s.size ≤ 140737488351232) : Ev (fun k => dowelbase_Own.f k s) (isOwn s.data.toList) := by
  rw [size_list] at hs
  have := own_loop s hs s.data.toList.length 0 (by omega)
  rwa [List.drop_zero] at this
end Go.Proofs.Ytebiogaacikphaa.Names
