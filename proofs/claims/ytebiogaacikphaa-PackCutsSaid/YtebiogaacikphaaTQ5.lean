/- Parts of the proof of packBack and packOne and packCuts and packSpoilt and packSmall: Names, PAllx15. No condition beyond each lemma's own. -/
import Derived.Test.YtebiogaacikphaaTQ3
import Derived.Test.YtebiogaacikphaaTQ4
section
namespace Go.Proofs.Ytebiogaacikphaa.Names
open Go.RowKit Go.Proofs.YtebiogaacikphaaW.PrintWords Go.Proofs.Ytebiogaacikphaa.PAll
set_option linter.unusedVariables false
def letterI (a : Int) : Bool := (decide (97 ≤ a) && decide (a ≤ 122)) || (decide (65 ≤ a) && decide (a ≤ 90)) || a == 95
def digitI (a : Int) : Bool := decide (48 ≤ a) && decide (a ≤ 57)
def letter (c : UInt8) : Bool := letterI c.toNat
def digit (c : UInt8) : Bool := digitI c.toNat
/-- How many bytes at the front meet p. -/
def run (p : UInt8 → Bool) : List UInt8 → Nat
  | [] => 0
  | c :: r => if p c then run p r + 1 else 0
def inName (c : UInt8) : Bool := letter c || digit c
def ownLen : List UInt8 → Nat
  | [] => 0
  | c :: r => if letter c then run inName r + 1 else 0
/-- '::' and an own name. -/
def more (r : List UInt8) : Nat := match r with
  | 58 :: 58 :: r' => if ownLen r' = 0 then 0 else ownLen r' + 2
  | _ => 0
/-- '~' and up to five digits, the first of which isn't 0. -/
def tilde (r : List UInt8) : Nat := match r with
  | 126 :: r' => if run digit r' = 0 ∨ 5 < run digit r' ∨ r'.head? = some 48 then 0 else run digit r' + 1
  | _ => 0
def namedLen (l : List UInt8) : Nat :=
  if ownLen l = 0 then 0 else (ownLen l + more (l.drop (ownLen l))) + tilde (l.drop (ownLen l + more (l.drop (ownLen l))))
def isName (l : List UInt8) : Bool := decide (l ≠ []) && decide (l.length ≤ 64) && decide (namedLen l = l.length)
def isOwn (l : List UInt8) : Bool := l.all fun c => c != 58 && c != 126
theorem run_le (p : UInt8 → Bool) : ∀ l : List UInt8, run p l ≤ l.length
  | [] => Nat.le_refl _
  | c :: r => by
    have := run_le p r
    unfold run
    split <;> simp <;> omega
theorem ownLen_le : ∀ l : List UInt8, ownLen l ≤ l.length
  | [] => Nat.le_refl _
  | c :: r => by
    have := run_le inName r
    rw [ownLen, List.length_cons]
    split <;> omega
theorem letter_some (a : Int) : dowelref04_letter.f a = some (letterI a) := by
  unfold dowelref04_letter.f letterI
  by_cases h1 : 97 ≤ a <;> by_cases h2 : a ≤ 122 <;> by_cases h3 : 65 ≤ a <;> by_cases h4 : a ≤ 90 <;> simp [h1, h2, h3, h4]
theorem digit_some (a : Int) : dowelref04_digit.f a = some (digitI a) := by
  unfold dowelref04_digit.f digitI
  by_cases h1 : 48 ≤ a <;> simp [h1]
theorem drop_at {l : List UInt8} {i : Nat} (h : i < l.length) : l.drop i = l[i] :: l.drop (i + 1) := List.drop_eq_getElem_cons h
/-- The loop of dowelref04.own from a place on. -/
theorem refown_loop (s : ByteArray) (hs : s.data.toList.length ≤ 140737488351232) : ∀ (d i : Nat), i + d = s.data.toList.length →
    Ev (fun k => dowelref04_own.l0 k s (i : Int)) (((i + run inName (s.data.toList.drop i) : Nat) : Nat) : Int) := by
  intro d
  induction d with
  | zero =>
    intro i hi
    refine Ev.step (fun _ => by rw [dowelref04_own.l0]) ?_
    refine Ev.neg (by rw [size_list]; omega) ?_
    exact Ev.some_ (by rw [List.drop_of_length_le (by omega)]; simp [run])
  | succ d ih =>
    intro i hi
    have hlt : i < s.data.toList.length := by omega
    refine Ev.step (fun _ => by rw [dowelref04_own.l0]) ?_
    refine Ev.pos (by rw [size_list]; omega) ?_
    refine Ev.pos (by omega) ?_
    refine Ev.bind (Ev.const (letter_some _)) ?_
    have hw : wrap64 ((i : Int) + 1) = ((i + 1 : Nat) : Int) := by rw [w64] <;> omega
    rw [bt_nat s i hlt, hw, drop_at hlt]
    generalize s.data.toList[i] = c
    have hin : inName c = (letterI c.toNat || digitI c.toNat) := rfl
    refine Ev.ite (fun h => ?_) (fun h => ?_)
    · exact (ih (i + 1) (by omega)).to (by rw [run, hin, h, if_pos (by simp)]; omega)
    · refine Ev.bind (Ev.const (digit_some _)) ?_
      refine Ev.ite (fun h' => ?_) (fun h' => ?_)
      · exact (ih (i + 1) (by omega)).to (by rw [run, hin, h', if_pos (by simp)]; omega)
      · exact Ev.some_ (by rw [run, hin, if_neg (by simp [h, h'])]; rfl)
theorem refown_ev (s : ByteArray) (hs : s.data.toList.length ≤ 140737488351232) (i : Nat) (hi : i ≤ s.data.toList.length) :
    Ev (fun k => dowelref04_own.f k s (i : Int)) ((i + ownLen (s.data.toList.drop i) : Nat) : Int) := by
  unfold dowelref04_own.f
  rcases Nat.lt_or_ge i s.data.toList.length with h | h
  · refine Ev.neg (by rw [size_list]; omega) ?_
    refine Ev.pos (by omega) ?_
    refine Ev.pos (by rw [size_list]; omega) ?_
    refine Ev.bind (Ev.const (letter_some _)) ?_
    have hloop := refown_loop s hs (s.data.toList.length - i) i (by omega)
    rw [bt_nat s i h]
    rw [drop_at h] at hloop ⊢
    generalize s.data.toList[i] = c at hloop ⊢
    have hc : letterI c.toNat = letter c := rfl
    rw [hc]
    refine Ev.step (fun _ => by rw [dowelref04_own.j0]) ?_
    refine Ev.ite (fun hl => ?_) (fun hl => ?_)
    · have hl' : letter c = false := by simpa using hl
      exact Ev.some_ (by rw [ownLen, hl']; simp)
    · have hl' : letter c = true := by simpa using hl
      refine hloop.to ?_
      rw [ownLen, run, if_pos hl', if_pos (by simp [inName, hl'])]
  · refine Ev.pos (by rw [size_list]; omega) ?_
    refine Ev.step (fun _ => by rw [dowelref04_own.j0]) ?_
    exact Ev.pos rfl (Ev.some_ (by rw [List.drop_of_length_le (by omega)]; simp [ownLen]))
theorem refdigits_ev (s : ByteArray) (hs : s.data.toList.length ≤ 140737488351232) : ∀ (d i : Nat), i + d = s.data.toList.length →
    Ev (fun k => dowelref04_digits.l0 k s (i : Int)) ((i + run digit (s.data.toList.drop i) : Nat) : Int) := by
  intro d
  induction d with
  | zero =>
    intro i hi
    refine Ev.step (fun _ => by rw [dowelref04_digits.l0]) ?_
    refine Ev.neg (by rw [size_list]; omega) ?_
    exact Ev.some_ (by rw [List.drop_of_length_le (by omega)]; simp [run])
  | succ d ih =>
    intro i hi
    have hlt : i < s.data.toList.length := by omega
    refine Ev.step (fun _ => by rw [dowelref04_digits.l0]) ?_
    refine Ev.pos (by rw [size_list]; omega) ?_
    refine Ev.pos (by omega) ?_
    refine Ev.bind (Ev.const (digit_some _)) ?_
    have hw : wrap64 ((i : Int) + 1) = ((i + 1 : Nat) : Int) := by rw [w64] <;> omega
    rw [bt_nat s i hlt, hw, drop_at hlt]
    generalize s.data.toList[i] = c
    have hin : digit c = digitI c.toNat := rfl
    refine Ev.ite (fun h => ?_) (fun h => ?_)
    · exact (ih (i + 1) (by omega)).to (by rw [run, hin, h, if_pos (by simp)]; omega)
    · exact Ev.some_ (by rw [run, hin, if_neg (by simp [h])]; rfl)
theorem tilde_le (r : List UInt8) : tilde r ≤ r.length := by
  unfold tilde
  split
  · rename_i r'
    have := run_le digit r'
    split <;> simp <;> omega
  · exact Nat.zero_le _
theorem byte_eq {c : UInt8} {n : Nat} (hn : n < 256) : ((c.toNat : Int) = (n : Int)) ↔ c = UInt8.ofNat n := by
  constructor
  · intro h
    have h' : c.toNat = n := by omega
    rw [← h']
    exact (UInt8.ofNat_toNat).symm
  · rintro rfl
    rw [UInt8.toNat_ofNat_of_lt' (by simpa using hn)]
theorem byte_beq {c : UInt8} {n : Nat} (hn : n < 256) : ((c.toNat : Int) == (n : Int)) = (c == UInt8.ofNat n) := by
  rw [Bool.eq_iff_iff, beq_iff_eq, beq_iff_eq, byte_eq hn]
theorem beq58 (c : UInt8) : ((c.toNat : Int) == 58) = (c == 58) := @byte_beq c 58 (by omega)
theorem beq126 (c : UInt8) : ((c.toNat : Int) == 126) = (c == 126) := @byte_beq c 126 (by omega)
theorem tilde_126 (r' : List UInt8) : tilde (126 :: r') = if run digit r' = 0 ∨ 5 < run digit r' ∨ r'.head? = some 48 then 0 else run digit r' + 1 := rfl
theorem refj1_ev (s : ByteArray) (hs : s.data.toList.length ≤ 140737488351232) (i : Nat) (hi : i ≤ s.data.toList.length) :
    Ev (fun k => dowelref04_named.j1 k s (i : Int)) ((i + tilde (s.data.toList.drop i) : Nat) : Int) := by
  refine Ev.step (fun _ => by rw [dowelref04_named.j1]) ?_
  rcases Nat.lt_or_ge i s.data.toList.length with h | h
  · refine Ev.pos (by rw [size_list]; omega) ?_
    refine Ev.pos (by omega) ?_
    refine Ev.step (fun _ => by rw [dowelref04_named.j2]) ?_
    have hd := refdigits_ev s hs (s.data.toList.length - (i + 1)) (i + 1) (by omega)
    have hw : wrap64 ((i : Int) + 1) = ((i + 1 : Nat) : Int) := by rw [w64] <;> omega
    have hw6 : wrap64 ((i : Int) + 6) = ((i + 6 : Nat) : Int) := by rw [w64] <;> omega
    rw [bt_nat s i h, drop_at h, hw, hw6]
    generalize s.data.toList[i] = c
    rw [beq126]
    refine Ev.ite (fun hc => ?_) (fun hc => ?_)
    · have hc' : c = 126 := by simpa using hc
      subst hc'
      refine Ev.bind (Ev.congr (fun k => by rw [dowelref04_digits.f]) hd) ?_
      rw [tilde_126]
      refine Ev.ite (fun h1 => ?_) (fun h1 => ?_)
      · have h1' : run digit (s.data.toList.drop (i + 1)) ≠ 0 := by omega
        have hlt : i + 1 < s.data.toList.length := by
          rcases Nat.lt_or_ge (i + 1) s.data.toList.length with h' | h'
          · exact h'
          · rw [List.drop_of_length_le h'] at h1'
            exact absurd rfl h1'
        refine Ev.ite (fun h2 => ?_) (fun h2 => ?_)
        · refine Ev.pos (by omega) ?_
          refine Ev.pos (by rw [size_list]; omega) ?_
          rw [bt_nat s (i + 1) hlt]
          have hh : (s.data.toList.drop (i + 1)).head? = some s.data.toList[i + 1] := by rw [drop_at hlt]; rfl
          rw [hh]
          generalize s.data.toList[i + 1] = e
          refine Ev.ite (fun h3 => ?_) (fun h3 => ?_)
          · have h3' : e = 48 := (@byte_eq e 48 (by omega)).1 h3
            exact Ev.some_ (by rw [if_pos (.inr (.inr (by rw [h3'])))]; omega)
          · have h3' : ¬ e = 48 := fun h => h3 ((@byte_eq e 48 (by omega)).2 h)
            exact Ev.some_ (by rw [if_neg (by rintro (h | h | h); exact h1' h; omega; exact h3' (Option.some.inj h))]; omega)
        · exact Ev.some_ (by rw [if_pos (.inr (.inl (by omega)))]; omega)
      · exact Ev.some_ (by rw [if_pos (.inl (by omega))]; omega)
    · have hc' : ¬ c = 126 := by simpa using hc
      refine Ev.some_ ?_
      have : tilde (c :: s.data.toList.drop (i + 1)) = 0 := by
        unfold tilde
        split
        · rename_i heq
          injection heq with h1 _
          exact absurd h1 hc'
        · rfl
      rw [this]
      omega
  · refine Ev.neg (by rw [size_list]; omega) ?_
    refine Ev.step (fun _ => by rw [dowelref04_named.j2]) ?_
    exact Ev.neg (by simp) (Ev.some_ (by rw [List.drop_of_length_le h]; simp [tilde]))
theorem refj0_ev (s : ByteArray) (hs : s.data.toList.length ≤ 140737488351232) (i : Nat) (hi : i ≤ s.data.toList.length) (b : Bool) (hb : b = true → ∃ r, s.data.toList.drop i = 58 :: 58 :: r) (hb' : b = false → more (s.data.toList.drop i) = 0) :
    Ev (fun k => dowelref04_named.j0 k s (i : Int) b) (((i + more (s.data.toList.drop i)) + tilde (s.data.toList.drop (i + more (s.data.toList.drop i))) : Nat) : Int) := by
  refine Ev.step (fun _ => by rw [dowelref04_named.j0]) ?_
  refine Ev.ite (fun h => ?_) (fun h => ?_)
  · obtain ⟨r, hr⟩ := hb h
    have hl : i + 2 ≤ s.data.toList.length := by
      have := congrArg List.length hr
      simp only [List.length_drop, List.length_cons] at this
      omega
    have hw : wrap64 ((i : Int) + 2) = ((i + 2 : Nat) : Int) := by rw [w64] <;> omega
    rw [hw]
    have hr2 : s.data.toList.drop (i + 2) = r := by rw [← List.drop_drop, hr]; rfl
    have ho := refown_ev s hs (i + 2) hl
    have hle := ownLen_le r
    have hrl : r.length = s.data.toList.length - (i + 2) := by rw [← hr2, List.length_drop]
    rw [hr2] at ho
    refine Ev.bind ho ?_
    have hm : more (s.data.toList.drop i) = if ownLen r = 0 then 0 else ownLen r + 2 := by rw [hr, more]
    refine Ev.ite (fun h1 => ?_) (fun h1 => ?_)
    · rw [hm, if_neg (by omega)]
      have := refj1_ev s hs (i + 2 + ownLen r) (by omega)
      rw [show i + (ownLen r + 2) = i + 2 + ownLen r by omega]
      exact this
    · rw [hm, if_pos (by omega)]
      exact refj1_ev s hs i hi
  · have hb'' := hb' (by simpa using h)
    rw [hb'']
    exact refj1_ev s hs i hi
theorem refnamed_ev (s : ByteArray) (hs : s.data.toList.length ≤ 140737488351232) (i : Nat) (hi : i ≤ s.data.toList.length) :
    Ev (fun k => dowelref04_named.f k s (i : Int)) ((i + namedLen (s.data.toList.drop i) : Nat) : Int) := by
  unfold dowelref04_named.f
  refine Ev.bind (refown_ev s hs i hi) ?_
  have hle := ownLen_le (s.data.toList.drop i)
  rw [List.length_drop] at hle
  have key : ∀ b, (b = true → ∃ r, s.data.toList.drop (i + ownLen (s.data.toList.drop i)) = 58 :: 58 :: r) → (b = false → more (s.data.toList.drop (i + ownLen (s.data.toList.drop i))) = 0) → ownLen (s.data.toList.drop i) ≠ 0 →
      Ev (fun k => dowelref04_named.j0 k s ((i + ownLen (s.data.toList.drop i) : Nat) : Int) b) ((i + namedLen (s.data.toList.drop i) : Nat) : Int) := by
    intro b h1 h2 h0
    refine (refj0_ev s hs (i + ownLen (s.data.toList.drop i)) (by omega) b h1 h2).to ?_
    rw [namedLen, if_neg h0]
    simp only [List.drop_drop, Nat.add_assoc]
  refine Ev.ite (fun h => ?_) (fun h => ?_)
  · exact Ev.some_ (by rw [namedLen, if_pos (by omega)]; omega)
  · have h0 : ownLen (s.data.toList.drop i) ≠ 0 := by omega
    generalize ownLen (s.data.toList.drop i) = n at *
    have hw : wrap64 (((i + n : Nat) : Int) + 1) = ((i + n + 1 : Nat) : Int) := by rw [w64] <;> omega
    rw [hw]
    refine Ev.ite (fun h1 => ?_) (fun h1 => ?_)
    · have hlt : i + n + 1 < s.data.toList.length := by rw [size_list] at h1; omega
      refine Ev.pos (by omega) ?_
      refine Ev.pos (by rw [size_list]; omega) ?_
      have hd : s.data.toList.drop (i + n) = s.data.toList[i + n] :: s.data.toList[i + n + 1] :: s.data.toList.drop (i + n + 2) := by
        rw [drop_at (show i + n < s.data.toList.length by omega), drop_at hlt]
      rw [bt_nat s (i + n) (by omega), bt_nat s (i + n + 1) hlt]
      rw [hd] at key
      generalize s.data.toList[i + n] = c at *
      generalize s.data.toList[i + n + 1] = e at *
      refine Ev.ite (fun h2 => ?_) (fun h2 => ?_)
      · have hc : c = 58 := (@byte_eq c 58 (by omega)).1 h2
        refine Ev.pos (by omega) ?_
        rw [beq58]
        refine key _ (fun h3 => ?_) (fun h3 => ?_) h0
        · have he : e = 58 := by simpa using h3
          exact ⟨_, by rw [hc, he]⟩
        · have he : e ≠ 58 := by simpa using h3
          unfold more
          split
          · rename_i heq
            injection heq with _ h5
            injection h5 with h6 _
            exact absurd h6 he
          · rfl
      · have hc : c ≠ 58 := fun h => h2 ((@byte_eq c 58 (by omega)).2 h)
        refine key _ (fun h3 => by cases h3) (fun _ => ?_) h0
        unfold more
        split
        · rename_i heq
          injection heq with h5 _
          exact absurd h5 hc
        · rfl
    · refine key _ (fun h3 => by cases h3) (fun _ => ?_) h0
      have hlen : (s.data.toList.drop (i + n)).length ≤ 1 := by rw [List.length_drop]; rw [size_list] at h1; omega
      unfold more
      split
      · rename_i heq
        rw [heq] at hlen
        simp at hlen
      · rfl
theorem own_loop (s : ByteArray) (hs : s.data.toList.length ≤ 140737488351232) : ∀ (d i : Nat), i + d = s.data.toList.length → Ev (fun k => dowelbase_Own.l0 k s (i : Int)) (isOwn (s.data.toList.drop i)) := by
  intro d
  induction d with
  | zero =>
    intro i hi
    refine Ev.step (fun _ => by rw [dowelbase_Own.l0]) ?_
    refine Ev.neg (by rw [size_list]; omega) ?_
    exact Ev.some_ (by rw [List.drop_of_length_le (by omega)]; simp [isOwn])
  | succ d ih =>
    intro i hi
    have hlt : i < s.data.toList.length := by omega
    refine Ev.step (fun _ => by rw [dowelbase_Own.l0]) ?_
    refine Ev.pos (by rw [size_list]; omega) ?_
    refine Ev.pos (by omega) ?_
    have hw : wrap64 ((i : Int) + 1) = ((i + 1 : Nat) : Int) := by rw [w64] <;> omega
    rw [bt_nat s i hlt, hw, drop_at hlt]
    generalize s.data.toList[i] = c
    refine Ev.ite (fun h => ?_) (fun h => ?_)
    · have hc : c = 58 := (@byte_eq c 58 (by omega)).1 h
      exact Ev.some_ (by simp [isOwn, hc])
    · have hc : c ≠ 58 := fun h' => h ((@byte_eq c 58 (by omega)).2 h')
      refine Ev.ite (fun h2 => ?_) (fun h2 => ?_)
      · have hc2 : c = 126 := (@byte_eq c 126 (by omega)).1 h2
        exact Ev.some_ (by simp [isOwn, hc2])
      · have hc2 : c ≠ 126 := fun h' => h2 ((@byte_eq c 126 (by omega)).2 h')
        refine (ih (i + 1) (by omega)).to ?_
        simp [isOwn, hc, hc2]
theorem own_ev (s : ByteArray) (hs : s.size ≤ 140737488351232) : Ev (fun k => dowelbase_Own.f k s) (isOwn s.data.toList) := by
  rw [size_list] at hs
  have := own_loop s hs s.data.toList.length 0 (by omega)
  rwa [List.drop_zero] at this
end Go.Proofs.Ytebiogaacikphaa.Names
end
section
namespace Go.Proofs.Ytebiogaacikphaa.PAll
open Go.RowKit Go.Proofs.YtebiogaacikphaaW.PrintWords Go.Proofs.YtebiogaacikphaaW.PrintLast Go.Proofs.YtebiogaacikphaaW.PrintMore
set_option linter.unusedVariables false
set_option linter.unusedSimpArgs false
def core_Size.l0 : Nat → Int → List (S30) → Int → Int → Option (Int)
  | 0, _, _, _, _ => none
  | k + 1, x3, x7, x8, x9 => if x9 < x8 then (if 0 ≤ x9 then (if x9 < (x7.length : Int) then (core_Size.l0 k (wrap64 (x3 + (((rd_T30 x7 x9).f1).length : Int))) x7 x8 (wrap64 (x9 + 1))) else (none)) else (none)) else (some x3)
theorem core_Size.mono_l : ∀ k, (∀ y0 y1 y2 y3, LeO (core_Size.l0 k y0 y1 y2 y3) (core_Size.l0 (k + 1) y0 y1 y2 y3))
  | 0 => fun _ _ _ _ r h => by simp [core_Size.l0] at h
  | k + 1 => by
    have ih0 := core_Size.mono_l k
    · intro y0 y1 y2 y3
      unfold core_Size.l0
      repeat' first
      | (with_reducible exact ih0 _ _ _ _)
      | (with_reducible exact LeO.refl _)
      | (with_reducible exact LeO.none _)
      | (with_reducible refine LeO.ite ?_ ?_)
      | (with_reducible refine LeO.bind ?_ (fun _ => ?_))
      | exact ih0 _ _ _ _
      | exact LeO.none _
      | refine LeO.ite ?_ ?_
      | refine LeO.bind ?_ (fun _ => ?_)
def lexis_letter.f (a0 : Int) : Option (Bool) := if a0 ≥ 97 then (if a0 ≤ 122 then (some true) else (if a0 ≥ 65 then (if a0 ≤ 90 then (some true) else (some (a0 == 95))) else (some (a0 == 95)))) else (if a0 ≥ 65 then (if a0 ≤ 90 then (some true) else (some (a0 == 95))) else (some (a0 == 95)))
set_option maxHeartbeats 8000000 in
set_option maxRecDepth 100000 in
theorem lexis_letter.calls (a0 : Int) (r : Bool) (w : World) (h : lexis_letter.f a0 = some r) :
    Calls Try.prog 114 #[.int .u8 a0] w fun e w' => e = .returned (.bool r) ∧ Drawn0 w w' := by
  have H : (if a0 ≥ 97 then (if a0 ≤ 122 then (some true) else (if a0 ≥ 65 then (if a0 ≤ 90 then (some true) else (some (a0 == 95))) else (some (a0 == 95)))) else (if a0 ≥ 65 then (if a0 ≤ 90 then (some true) else (some (a0 == 95))) else (some (a0 == 95)))) = some r := h
  clear h
  by_cases c2 : a0 ≥ 97
  · rw [if_pos c2] at H
    have c2b0 : decide (97 ≤ a0) = true := decide_eq_true c2
    clear c2
    by_cases c3 : a0 ≤ 122
    · rw [if_pos c3] at H
      have c3b0 : decide (a0 ≤ 122) = true := decide_eq_true c3
      clear c3
      obtain rfl := Option.some.inj H
      go_enter Try.func114, Try.ntmps114
      go_wp2
      go_ret
      exact ⟨by first | rfl | (simp; done) | (simp [*]; done), by repeat (first | exact Drawn0.refl _ | apply Drawn0.step)⟩
    · rw [if_neg c3] at H
      have c3b0 : decide (a0 ≤ 122) = false := decide_eq_false c3
      clear c3
      by_cases c4 : a0 ≥ 65
      · rw [if_pos c4] at H
        have c4b0 : decide (65 ≤ a0) = true := decide_eq_true c4
        clear c4
        by_cases c5 : a0 ≤ 90
        · rw [if_pos c5] at H
          have c5b0 : decide (a0 ≤ 90) = true := decide_eq_true c5
          clear c5
          obtain rfl := Option.some.inj H
          go_enter Try.func114, Try.ntmps114
          go_wp2
          go_ret
          exact ⟨by first | rfl | (simp; done) | (simp [*]; done), by repeat (first | exact Drawn0.refl _ | apply Drawn0.step)⟩
        · rw [if_neg c5] at H
          have c5b0 : decide (a0 ≤ 90) = false := decide_eq_false c5
          clear c5
          obtain rfl := Option.some.inj H
          go_enter Try.func114, Try.ntmps114
          go_wp2
          go_ret
          exact ⟨by first | rfl | (simp; done) | (simp [*]; done), by repeat (first | exact Drawn0.refl _ | apply Drawn0.step)⟩
      · rw [if_neg c4] at H
        have c4b0 : decide (65 ≤ a0) = false := decide_eq_false c4
        clear c4
        obtain rfl := Option.some.inj H
        go_enter Try.func114, Try.ntmps114
        go_wp2
        go_ret
        exact ⟨by first | rfl | (simp; done) | (simp [*]; done), by repeat (first | exact Drawn0.refl _ | apply Drawn0.step)⟩
  · rw [if_neg c2] at H
    have c2b0 : decide (97 ≤ a0) = false := decide_eq_false c2
    clear c2
    by_cases c6 : a0 ≥ 65
    · rw [if_pos c6] at H
      have c6b0 : decide (65 ≤ a0) = true := decide_eq_true c6
      clear c6
      by_cases c7 : a0 ≤ 90
      · rw [if_pos c7] at H
        have c7b0 : decide (a0 ≤ 90) = true := decide_eq_true c7
        clear c7
        obtain rfl := Option.some.inj H
        go_enter Try.func114, Try.ntmps114
        go_wp2
        go_ret
        exact ⟨by first | rfl | (simp; done) | (simp [*]; done), by repeat (first | exact Drawn0.refl _ | apply Drawn0.step)⟩
      · rw [if_neg c7] at H
        have c7b0 : decide (a0 ≤ 90) = false := decide_eq_false c7
        clear c7
        obtain rfl := Option.some.inj H
        go_enter Try.func114, Try.ntmps114
        go_wp2
        go_ret
        exact ⟨by first | rfl | (simp; done) | (simp [*]; done), by repeat (first | exact Drawn0.refl _ | apply Drawn0.step)⟩
    · rw [if_neg c6] at H
      have c6b0 : decide (65 ≤ a0) = false := decide_eq_false c6
      clear c6
      obtain rfl := Option.some.inj H
      go_enter Try.func114, Try.ntmps114
      go_wp2
      go_ret
      exact ⟨by first | rfl | (simp; done) | (simp [*]; done), by repeat (first | exact Drawn0.refl _ | apply Drawn0.step)⟩
def lexis_digit.f (a0 : Int) : Option (Bool) := if a0 ≥ 48 then (some (decide (a0 ≤ 57))) else (some false)
set_option maxHeartbeats 8000000 in
set_option maxRecDepth 100000 in
theorem lexis_digit.calls (a0 : Int) (r : Bool) (w : World) (h : lexis_digit.f a0 = some r) :
    Calls Try.prog 115 #[.int .u8 a0] w fun e w' => e = .returned (.bool r) ∧ Drawn0 w w' := by
  have H : (if a0 ≥ 48 then (some (decide (a0 ≤ 57))) else (some false)) = some r := h
  clear h
  by_cases c2 : a0 ≥ 48
  · rw [if_pos c2] at H
    have c2b0 : decide (48 ≤ a0) = true := decide_eq_true c2
    clear c2
    obtain rfl := Option.some.inj H
    go_enter Try.func115, Try.ntmps115
    go_wp2
    go_ret
    exact ⟨by first | rfl | (simp; done) | (simp [*]; done), by repeat (first | exact Drawn0.refl _ | apply Drawn0.step)⟩
  · rw [if_neg c2] at H
    have c2b0 : decide (48 ≤ a0) = false := decide_eq_false c2
    clear c2
    obtain rfl := Option.some.inj H
    go_enter Try.func115, Try.ntmps115
    go_wp2
    go_ret
    exact ⟨by first | rfl | (simp; done) | (simp [*]; done), by repeat (first | exact Drawn0.refl _ | apply Drawn0.step)⟩
def lexis_own.l0 : Nat → ByteArray → Int → Int → Option (Int)
  | 0, _, _, _ => none
  | k + 1, x0, x1, x5 => if (wrap64 (x1 + x5)) < (x0.size : Int) then (if 0 ≤ (wrap64 (x1 + x5)) then ((lexis_letter.f (bt x0 (wrap64 (x1 + x5)))).bind fun t161 => (if t161 = true then (lexis_own.l0 k x0 x1 (wrap64 (x5 + 1))) else (if x5 > 0 then ((lexis_digit.f (bt x0 (wrap64 (x1 + x5)))).bind fun t162 => (if t162 = true then (lexis_own.l0 k x0 x1 (wrap64 (x5 + 1))) else (some x5))) else (some x5)))) else (none)) else (some x5)
def lexis_own.f (k : Nat) (a0 : ByteArray) (a1 : Int) : Option (Int) := lexis_own.l0 k a0 a1 0
theorem lexis_own.mono_l : ∀ k, (∀ y0 y1 y2, LeO (lexis_own.l0 k y0 y1 y2) (lexis_own.l0 (k + 1) y0 y1 y2))
  | 0 => fun _ _ _ r h => by simp [lexis_own.l0] at h
  | k + 1 => by
    have ih0 := lexis_own.mono_l k
    · intro y0 y1 y2
      unfold lexis_own.l0
      repeat' first
      | (with_reducible exact ih0 _ _ _)
      | (with_reducible exact LeO.refl _)
      | (with_reducible exact LeO.none _)
      | (with_reducible refine LeO.ite ?_ ?_)
      | (with_reducible refine LeO.bind ?_ (fun _ => ?_))
      | exact ih0 _ _ _
      | exact LeO.none _
      | refine LeO.ite ?_ ?_
      | refine LeO.bind ?_ (fun _ => ?_)
theorem lexis_own.mono : ∀ a0 a1 k, LeO (lexis_own.f k a0 a1) (lexis_own.f (k + 1) a0 a1) := by
  intro a0 a1 k
  have ih0 := lexis_own.mono_l k
  unfold lexis_own.f
  repeat' first
      | (with_reducible exact ih0 _ _ _)
      | (with_reducible exact LeO.refl _)
      | (with_reducible exact LeO.none _)
      | (with_reducible refine LeO.ite ?_ ?_)
      | (with_reducible refine LeO.bind ?_ (fun _ => ?_))
      | exact ih0 _ _ _
      | exact LeO.none _
      | refine LeO.ite ?_ ?_
      | refine LeO.bind ?_ (fun _ => ?_)
set_option maxHeartbeats 8000000 in
set_option maxRecDepth 100000 in
theorem lexis_own.calls (k : Nat) (a0 : ByteArray) (a1 : Int) (r : Int) (w : World) (h : lexis_own.f k a0 a1 = some r) :
    Calls Try.prog 105 #[.string a0, .int .i64 a1] w fun e w' => e = .returned (.int .i64 r) ∧ Drawn0 w w' := by
  have H : (lexis_own.l0 k a0 a1 0) = some r := h
  clear h
  have H' := Aside0.mk H
  clear H
  go_enter Try.func105, Try.ntmps105
  go_wp2
  go_loopg [5] k (fun kq v5 w' => ∃ (x5_1 : Int), v5 = .int .i64 x5_1 ∧ Aside0 (lexis_own.l0 kq a0 a1 x5_1 = some r) ∧ Aside0 (kq ≤ k) ∧ Drawn0 w w')
  case atStart => exact ⟨(0), (by first | rfl | (simp; done) | (simp [*]; done)), H', ⟨Nat.le_refl _⟩, by repeat (first | exact Drawn0.refl _ | apply Drawn0.step)⟩
  case round =>
    clear H'
    try clear c1
    try clear p2
    obtain ⟨x5_1, rfl, HA, HK1, ⟨m1, rfl⟩⟩ := hrel
    cases gk with
    | zero => exact absurd HA.out (by simp [lexis_own.l0])
    | succ k1 =>
      have H := HA.out
      clear HA
      simp only [lexis_own.l0] at H
      by_cases c3 : (wrap64 (a1 + x5_1)) < (a0.size : Int)
      · rw [if_pos c3] at H
        have c3b0 : decide ((wrap64 (a1 + x5_1)) < (a0.size : Int)) = true := decide_eq_true c3
        clear c3
        obtain ⟨ji4, hji4⟩ : ∃ j_ : Int, (wrap64 (a1 + x5_1)) = j_ := ⟨_, rfl⟩
        replace H : (if 0 ≤ (ji4) then ((lexis_letter.f (bt a0 (ji4))).bind fun t161 => (if t161 = true then (lexis_own.l0 k1 a0 a1 (wrap64 (x5_1 + 1))) else (if x5_1 > 0 then ((lexis_digit.f (bt a0 (ji4))).bind fun t162 => (if t162 = true then (lexis_own.l0 k1 a0 a1 (wrap64 (x5_1 + 1))) else (some x5_1))) else (some x5_1)))) else (none)) = some r := by first | (rw [hji4] at H; exact H) | (simp only [hji4] at H ⊢; exact H)
        (try rw [hji4] at c3b0)
        have hji4w : (IntKind.i64.wrap (a1 + x5_1)) = ji4 := (i64_w _).trans hji4
        by_cases c5 : 0 ≤ (ji4)
        · rw [if_pos c5] at H
          have c5b0 : decide (0 ≤ (ji4)) = true := decide_eq_true c5
          clear c5
          replace H := Option.bind_eq_some_iff.mp H
          obtain ⟨t161, A70, H⟩ := H
          replace H : (if t161 = true then (lexis_own.l0 k1 a0 a1 (wrap64 (x5_1 + 1))) else (if x5_1 > 0 then ((lexis_digit.f (bt a0 (ji4))).bind fun t162 => (if t162 = true then (lexis_own.l0 k1 a0 a1 (wrap64 (x5_1 + 1))) else (some x5_1))) else (some x5_1))) = some r := H
          have A7 := Aside0.mk A70
          clear A70
          by_cases c8 : t161 = true
          · subst c8
            have H1 : (lexis_own.l0 k1 a0 a1 (wrap64 (x5_1 + 1))) = some r := by rw [if_pos rfl] at H; exact H
            clear H
            have H := H1
            clear H1
            have H' := Aside0.mk H
            clear H
            have p6 : 0 ≤ ((ji4) : Int) := of_decide_eq_true (by first | (with_reducible assumption) | assumption)
            have q6 : (ji4) < (a0.size : Int) := of_decide_eq_true (by first | (with_reducible assumption) | assumption)
            have hx6 := bt_at a0 (ji4)
            replace p6 := eq_true p6
            replace q6 := eq_true q6
            go_wp2_with (first | (go_at_call 114; (with_reducible refine (lexis_letter.calls (bt a0 (ji4)) true _ A7.out).mono ?_); rintro e w' ⟨rfl, ⟨nd, rfl⟩⟩))
            go_roundg k1
            case measure => have := HK1.out; omega
            case rel => exact ⟨(wrap64 (x5_1 + 1)), (by first | rfl | (simp; done) | (simp [*]; done)), H', ⟨by have := HK1.out; omega⟩, by repeat (first | exact Drawn0.refl _ | apply Drawn0.step)⟩
          · replace c8 := Bool.eq_false_iff.mpr c8
            subst c8
            have H1 : (if x5_1 > 0 then ((lexis_digit.f (bt a0 (ji4))).bind fun t162 => (if t162 = true then (lexis_own.l0 k1 a0 a1 (wrap64 (x5_1 + 1))) else (some x5_1))) else (some x5_1)) = some r := by rw [if_neg (show ¬ (false = true) by decide)] at H; exact H
            clear H
            have H := H1
            clear H1
            by_cases c9 : x5_1 > 0
            · rw [if_pos c9] at H
              have c9b0 : decide (0 < x5_1) = true := decide_eq_true c9
              clear c9
              replace H := Option.bind_eq_some_iff.mp H
              obtain ⟨t162, A110, H⟩ := H
              replace H : (if t162 = true then (lexis_own.l0 k1 a0 a1 (wrap64 (x5_1 + 1))) else (some x5_1)) = some r := H
              have A11 := Aside0.mk A110
              clear A110
              by_cases c12 : t162 = true
              · subst c12
                have H1 : (lexis_own.l0 k1 a0 a1 (wrap64 (x5_1 + 1))) = some r := by rw [if_pos rfl] at H; exact H
                clear H
                have H := H1
                clear H1
                have H' := Aside0.mk H
                clear H
                have p6 : 0 ≤ ((ji4) : Int) := of_decide_eq_true (by first | (with_reducible assumption) | assumption)
                have q6 : (ji4) < (a0.size : Int) := of_decide_eq_true (by first | (with_reducible assumption) | assumption)
                have hx6 := bt_at a0 (ji4)
                replace p6 := eq_true p6
                replace q6 := eq_true q6
                go_wp2_with (first | (go_at_call 114; (with_reducible refine (lexis_letter.calls (bt a0 (ji4)) false _ A7.out).mono ?_); rintro e w' ⟨rfl, ⟨nd, rfl⟩⟩; have p10 : 0 ≤ ((ji4) : Int) := of_decide_eq_true (by first | (with_reducible assumption) | assumption); have q10 : (ji4) < (a0.size : Int) := of_decide_eq_true (by first | (with_reducible assumption) | assumption); have hx10 := bt_at a0 (ji4); replace p10 := eq_true p10; replace q10 := eq_true q10) | (go_at_call 115; (with_reducible refine (lexis_digit.calls (bt a0 (ji4)) true _ A11.out).mono ?_); rintro e w' ⟨rfl, ⟨nd, rfl⟩⟩))
                go_roundg k1
                case measure => have := HK1.out; omega
                case rel => exact ⟨(wrap64 (x5_1 + 1)), (by first | rfl | (simp; done) | (simp [*]; done)), H', ⟨by have := HK1.out; omega⟩, by repeat (first | exact Drawn0.refl _ | apply Drawn0.step)⟩
              · replace c12 := Bool.eq_false_iff.mpr c12
                subst c12
                have H1 : (some x5_1) = some r := by rw [if_neg (show ¬ (false = true) by decide)] at H; exact H
                clear H
                have H := H1
                clear H1
                obtain rfl := Option.some.inj H
                have p6 : 0 ≤ ((ji4) : Int) := of_decide_eq_true (by first | (with_reducible assumption) | assumption)
                have q6 : (ji4) < (a0.size : Int) := of_decide_eq_true (by first | (with_reducible assumption) | assumption)
                have hx6 := bt_at a0 (ji4)
                replace p6 := eq_true p6
                replace q6 := eq_true q6
                go_wp2_with (first | (go_at_call 114; (with_reducible refine (lexis_letter.calls (bt a0 (ji4)) false _ A7.out).mono ?_); rintro e w' ⟨rfl, ⟨nd, rfl⟩⟩; have p10 : 0 ≤ ((ji4) : Int) := of_decide_eq_true (by first | (with_reducible assumption) | assumption); have q10 : (ji4) < (a0.size : Int) := of_decide_eq_true (by first | (with_reducible assumption) | assumption); have hx10 := bt_at a0 (ji4); replace p10 := eq_true p10; replace q10 := eq_true q10) | (go_at_call 115; (with_reducible refine (lexis_digit.calls (bt a0 (ji4)) false _ A11.out).mono ?_); rintro e w' ⟨rfl, ⟨nd, rfl⟩⟩))
                go_ret
                exact ⟨by first | rfl | (simp; done) | (simp only [← hji4] <;> (first | rfl | simp)) | (simp [*]; done), by repeat (first | exact Drawn0.refl _ | apply Drawn0.step)⟩
            · rw [if_neg c9] at H
              have c9b0 : decide (0 < x5_1) = false := decide_eq_false c9
              clear c9
              obtain rfl := Option.some.inj H
              have p6 : 0 ≤ ((ji4) : Int) := of_decide_eq_true (by first | (with_reducible assumption) | assumption)
              have q6 : (ji4) < (a0.size : Int) := of_decide_eq_true (by first | (with_reducible assumption) | assumption)
              have hx6 := bt_at a0 (ji4)
              replace p6 := eq_true p6
              replace q6 := eq_true q6
              go_wp2_with (first | (go_at_call 114; (with_reducible refine (lexis_letter.calls (bt a0 (ji4)) false _ A7.out).mono ?_); rintro e w' ⟨rfl, ⟨nd, rfl⟩⟩))
              go_ret
              exact ⟨by first | rfl | (simp; done) | (simp only [← hji4] <;> (first | rfl | simp)) | (simp [*]; done), by repeat (first | exact Drawn0.refl _ | apply Drawn0.step)⟩
        · rw [if_neg c5] at H
          exact absurd H (by simp)
      · rw [if_neg c3] at H
        have c3b0 : decide ((wrap64 (a1 + x5_1)) < (a0.size : Int)) = false := decide_eq_false c3
        clear c3
        obtain rfl := Option.some.inj H
        go_wp2
        go_ret
        exact ⟨by first | rfl | (simp; done) | (simp [*]; done), by repeat (first | exact Drawn0.refl _ | apply Drawn0.step)⟩
def stringslite_HasPrefix.f (a0 : ByteArray) (a1 : ByteArray) : Option (Bool) := if (a0.size : Int) ≥ (a1.size : Int) then (if 0 ≤ (a1.size : Int) then (if (a1.size : Int) ≤ (a0.size : Int) then (some ((a0.extract 0 ((a1.size : Int) : Int).toNat).toList == a1.toList)) else (none)) else (none)) else (some false)
set_option maxHeartbeats 8000000 in
set_option maxRecDepth 100000 in
theorem stringslite_HasPrefix.calls (a0 : ByteArray) (a1 : ByteArray) (r : Bool) (w : World) (h : stringslite_HasPrefix.f a0 a1 = some r) :
    Calls Try.prog 116 #[.string a0, .string a1] w fun e w' => e = .returned (.bool r) ∧ Drawn0 w w' := by
  have H : (if (a0.size : Int) ≥ (a1.size : Int) then (if 0 ≤ (a1.size : Int) then (if (a1.size : Int) ≤ (a0.size : Int) then (some ((a0.extract 0 ((a1.size : Int) : Int).toNat).toList == a1.toList)) else (none)) else (none)) else (some false)) = some r := h
  clear h
  by_cases c3 : (a0.size : Int) ≥ (a1.size : Int)
  · rw [if_pos c3] at H
    have c3b0 : decide ((a1.size : Int) ≤ (a0.size : Int)) = true := decide_eq_true c3
    have c3b1 : decide (a1.size ≤ a0.size) = true := decide_eq_true (Int.ofNat_le.mp c3)
    clear c3
    by_cases c4 : 0 ≤ (a1.size : Int)
    · rw [if_pos c4] at H
      have c4b0 := eq_true c4
      have c4b1 : decide (0 ≤ (a1.size : Int)) = true := decide_eq_true c4
      clear c4
      by_cases c5 : (a1.size : Int) ≤ (a0.size : Int)
      · rw [if_pos c5] at H
        have c5b0 := eq_true c5
        have c5b1 : decide ((a1.size : Int) ≤ (a0.size : Int)) = true := decide_eq_true c5
        clear c5
        obtain rfl := Option.some.inj H
        go_enter Try.func116, Try.ntmps116
        go_wp2
        go_ret
        exact ⟨by first | rfl | (simp; done) | (simp [*]; done), by repeat (first | exact Drawn0.refl _ | apply Drawn0.step)⟩
      · rw [if_neg c5] at H
        exact absurd H (by simp)
    · rw [if_neg c4] at H
      exact absurd H (by simp)
  · rw [if_neg c3] at H
    have c3b0 : decide ((a1.size : Int) ≤ (a0.size : Int)) = false := decide_eq_false c3
    have c3b1 : decide (a1.size ≤ a0.size) = false := decide_eq_false (fun h => c3 (Int.ofNat_le.mpr h))
    clear c3
    obtain rfl := Option.some.inj H
    go_enter Try.func116, Try.ntmps116
    go_wp2
    go_ret
    exact ⟨by first | rfl | (simp; done) | (simp [*]; done), by repeat (first | exact Drawn0.refl _ | apply Drawn0.step)⟩
def strings_HasPrefix.f (a0 : ByteArray) (a1 : ByteArray) : Option (Bool) := (stringslite_HasPrefix.f a0 a1).bind fun t163 => (some t163)
set_option maxHeartbeats 8000000 in
set_option maxRecDepth 100000 in
theorem strings_HasPrefix.calls (a0 : ByteArray) (a1 : ByteArray) (r : Bool) (w : World) (h : strings_HasPrefix.f a0 a1 = some r) :
    Calls Try.prog 106 #[.string a0, .string a1] w fun e w' => e = .returned (.bool r) ∧ Drawn0 w w' := by
  have H : ((stringslite_HasPrefix.f a0 a1).bind fun t163 => (some t163)) = some r := h
  clear h
  replace H := Option.bind_eq_some_iff.mp H
  obtain ⟨t163, A30, H⟩ := H
  replace H : (some t163) = some r := H
  have A3 := Aside0.mk A30
  clear A30
  obtain rfl := Option.some.inj H
  go_enter Try.func106, Try.ntmps106
  go_wp2_with (first | ((with_reducible refine gate_callee (f := 116) rfl ?_); refine goesL_ (some 7) rfl rfl Try.func116 (by kernel_rfl) rfl #[.string a0, .string a1] rfl (by (try simp only [List.map_toArray, List.map_cons, List.map_nil]); first | done | rfl | (simp only [List.length_drop, List.length_take]; rfl)) ?_; (with_reducible refine (stringslite_HasPrefix.calls a0 a1 t163 _ A3.out).mono ?_); rintro e w' ⟨rfl, ⟨nd, rfl⟩⟩; refine ⟨_, rfl, ?_⟩))
  go_ret
  exact ⟨by first | rfl | (simp; done) | (simp [*]; done), by repeat (first | exact Drawn0.refl _ | apply Drawn0.step)⟩
end Go.Proofs.Ytebiogaacikphaa.PAll
end
