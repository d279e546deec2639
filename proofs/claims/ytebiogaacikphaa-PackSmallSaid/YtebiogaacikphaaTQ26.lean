/- Parts of the proof of packBack and packOne and packCuts and packSpoilt and packSmall: OneErr. No condition beyond each lemma's own. -/
import Derived.Test.YtebiogaacikphaaTQ22
import Derived.Test.YtebiogaacikphaaTQ25
section
namespace Go.Proofs.Ytebiogaacikphaa.Pack
open Go.RowKit Go.Proofs.YtebiogaacikphaaW.PrintWords Go.Proofs.Ytebiogaacikphaa.PAll Go.Proofs.Ytebiogaacikphaa.Names
set_option linter.unusedVariables false
/-- A fault within. -/
def ErrIn (e : Nat) (f : Int × Int) : Prop := 0 ≤ f.1 ∧ f.1 ≤ e ∧ (f.2 = 200 ∨ f.2 = 201 ∨ f.2 = 204)
theorem errIn_short (e : Nat) : ErrIn e ((e : Int), 200) := ⟨by omega, Int.le_refl _, .inl rfl⟩
theorem errIn_form {e n : Nat} (h : n ≤ e) : ErrIn e ((n : Int), 204) := ⟨by omega, by show (n : Int) ≤ e; omega, .inr (.inr rfl)⟩
theorem cnt_err {e fr : Nat} (h : fr ≤ e) : ∀ (l : List Int) (k : Nat) (a : Int) (f : Int × Int), cntL e fr k a l = .error f → ErrIn e f
  | [], _, _, f, hc => by rw [cntL] at hc; injection hc with hc; subst hc; exact errIn_short e
  | x :: l, k, a, f, hc => by
    rw [cntL] at hc
    generalize (if k < 5 then a + x % 128 * 128 ^ k else a) = N at hc
    by_cases c : 128 ≤ x
    · rw [if_pos c] at hc
      exact cnt_err h l _ _ f hc
    · rw [if_neg c] at hc
      by_cases c2 : 4 < k ∨ (x = 0 ∧ 0 < k) ∨ 2147483647 < N
      · rw [if_pos c2] at hc
        injection hc with hc
        subst hc
        exact errIn_form h
      · rw [if_neg c2] at hc
        cases hc
theorem many_err {e fr : Nat} (h : fr ≤ e) {l : List Int} {f : Int × Int} (hm : manyL e fr l = .error f) : ErrIn e f := by
  unfold manyL at hm
  split at hm
  · rename_i f' hc
    injection hm with hm
    subst hm
    exact cnt_err h l _ _ _ hc
  · split at hm
    · injection hm with hm
      subst hm
      exact errIn_form h
    · cases hm
theorem classes_err (e : Nat) : ∀ (n : Nat) (acc : List Four) (l : List Int) (f : Int × Int), classesL e n acc l = .error f → ErrIn e f
  | 0, acc, l, f, h => by rw [classesL] at h; cases h
  | n + 1, acc, l, f, h => by
    rw [classesL] at h
    split at h
    · injection h with h
      subst h
      exact errIn_short e
    · split at h
      · injection h with h
        subst h
        exact errIn_form (Nat.sub_le _ _)
      · exact classes_err e n _ _ f h
theorem names_err (e : Nat) : ∀ (n : Nat) (acc : List ByteArray) (l : List Int) (f : Int × Int), namesL e n acc l = .error f → ErrIn e f
  | 0, acc, l, f, h => by rw [namesL] at h; cases h
  | n + 1, acc, l, f, h => by
    rw [namesL] at h
    split at h
    · rename_i f' hc
      injection h with h
      subst h
      exact cnt_err (Nat.sub_le _ _) l _ _ _ hc
    · split at h
      · injection h with h
        subst h
        exact errIn_form (Nat.sub_le _ _)
      · split at h
        · injection h with h
          subst h
          exact errIn_short e
        · split at h
          · injection h with h
            subst h
            exact errIn_form (Nat.sub_le _ _)
          · exact names_err e n _ _ f h
theorem num_err {e : Nat} {x : Int} {r : List Int} {f : Int × Int} (h : numL e x r = .error f) : ErrIn e f := by
  unfold numL at h
  split at h
  · split at h
    · rename_i f' hc
      injection h with h
      subst h
      exact cnt_err (Nat.sub_le _ _) r _ _ _ hc
    · cases h
  · cases h
theorem ins_err (e size : Nat) (S : List Four) (T : List ByteArray) : ∀ (d i kc kn : Nat) (acc : List Ins) (l : List Int) (f : Int × Int), insL e size S T d i kc kn acc l = .error f → ErrIn e f
  | 0, i, kc, kn, acc, l, f, h => by rw [insL] at h; cases h
  | d + 1, i, kc, kn, acc, [], f, h => by rw [insL] at h; injection h with h; subst h; exact errIn_short e
  | d + 1, i, kc, kn, acc, x :: l, f, h => by
    rw [insL] at h
    split at h
    · rename_i f' hn
      injection h with h
      subst h
      exact num_err hn
    · split at h
      · injection h with h
        subst h
        exact errIn_form (Nat.sub_le _ _)
      · exact ins_err e size S T d _ _ _ _ _ f h
theorem tableC_err {e : Nat} {l : List Int} {f : Int × Int} (h : tableC e l = .error f) : ErrIn e f := by
  unfold tableC at h
  cases hm : manyL e (e - l.length) l with
  | error g =>
    rw [hm] at h
    change Except.error g = _ at h
    injection h with h
    subst h
    exact many_err (Nat.sub_le _ _) hm
  | ok p =>
    rw [hm] at h
    exact classes_err e _ _ _ f h
theorem tableN_err {e : Nat} {l : List Int} {f : Int × Int} (h : tableN e l = .error f) : ErrIn e f := by
  unfold tableN at h
  cases hm : manyL e (e - l.length) l with
  | error g =>
    rw [hm] at h
    change Except.error g = _ at h
    injection h with h
    subst h
    exact many_err (Nat.sub_le _ _) hm
  | ok p =>
    rw [hm] at h
    exact names_err e _ _ _ f h
theorem program_err {e : Nat} {S : List Four} {T : List ByteArray} {l : List Int} {f : Int × Int} (h : programL e S T l = .error f) : ErrIn e f := by
  unfold programL at h
  split at h
  · rename_i f' hm
    injection h with h
    subst h
    exact many_err (Nat.sub_le _ _) hm
  · split at h
    · injection h with h
      subst h
      exact errIn_form (Nat.sub_le _ _)
    · exact ins_err e _ S T _ _ _ _ _ _ f h
theorem inside_err {e : Nat} {l : List Int} {f : Int × Int} (h : insideL e l = .error f) : ErrIn e f := by
  unfold insideL at h
  split at h
  · rename_i f' hC
    injection h with h
    subst h
    exact tableC_err hC
  · split at h
    · rename_i f' hN
      injection h with h
      subst h
      exact tableN_err hN
    · split at h
      · rename_i f' hP
        injection h with h
        subst h
        exact program_err hP
      · split at h
        · injection h with h
          subst h
          exact errIn_form (Nat.sub_le _ _)
        · split at h
          · injection h with h
            subst h
            exact errIn_form (Nat.sub_le _ _)
          · split at h
            · injection h with h
              subst h
              exact ⟨by show (0 : Int) ≤ ((e - _ : Nat) : Int); omega, by show ((e - _ : Nat) : Int) ≤ e; omega, .inr (.inl rfl)⟩
            · cases h
theorem forge_length (b : List Int) : (forge b).length = b.length + 9 := by
  rw [forge, List.length_append, List.length_append, leN_length, show magicL.length = 5 from rfl]; omega
/-- A frame that was made right is right, or too long. -/
theorem framed_forge (b : List Int) : framedL (forge b) = (0, 0) ∨ framedL (forge b) = (0, 1) := by
  have hlen := forge_length b
  unfold framedL
  by_cases c : 4194304 < (forge b).length
  · rw [if_pos c]
    exact .inr rfl
  · rw [if_neg c]
    have hm : missL 0 magicL (forge b) = none := by rw [forge, List.append_assoc]; exact miss_magic _
    have hpre : (magicL ++ b).length = (forge b).length - 4 := by rw [hlen, List.length_append, show magicL.length = 5 from rfl]; omega
    rw [hm]
    dsimp only
    rw [if_neg (by omega), ← hpre, if_pos]
    · exact .inl rfl
    · rw [forge, List.take_left, List.drop_left]
/-- What may be told of it. -/
theorem forge_err {b : List Int} {f : Int × Int} (h : decodeL (forge b) = .error f) : f.2 ≠ 0 ∧ 0 ≤ f.1 ∧ f.1 < (forge b).length ∧ f.2 ≠ 202 ∧ f.2 ≠ 203 := by
  have hlen := forge_length b
  unfold decodeL at h
  rcases framed_forge b with e | e
  · rw [e, if_neg (by simp)] at h
    obtain ⟨h1, h2, h3⟩ := inside_err h
    exact ⟨by omega, h1, by omega, by omega, by omega⟩
  · rw [e, if_pos (by decide)] at h
    injection h with h
    subst h
    exact ⟨by decide, by decide, by show (0 : Int) < _; omega, by decide, by decide⟩
/-- The names of a right program are short. -/
theorem right_small {p : List Ins} {n : Nat} (h : ∀ x ∈ p, rightB x n = true) : ∀ x ∈ p, x.f3.size ≤ 140737488351232 := by
  intro x hx
  obtain ⟨h1, h2⟩ := rightB_ok (h x hx)
  rcases kind4 x.f0 with k | k | k | k
  · rw [h1.k0 k]; show zIns.f3.size ≤ _; decide
  · rw [(h1.k1 k).1]; show zIns.f3.size ≤ _; decide
  · rw [h1.k2 k]; show zIns.f3.size ≤ _; decide
  · have := (okName_size (h2 k)).2
    omega
end Go.Proofs.Ytebiogaacikphaa.Pack
end
