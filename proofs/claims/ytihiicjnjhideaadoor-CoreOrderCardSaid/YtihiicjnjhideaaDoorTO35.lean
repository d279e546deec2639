/- Parts of the proof of coreOrder: CoreRight. No condition beyond each lemma's own. -/
import Derived.Test.YtihiicjnjhideaaDoorTO5
import Derived.Test.YtihiicjnjhideaaDoorTO6
import Derived.Test.YtihiicjnjhideaaDoorTO8
import Derived.Test.YtihiicjnjhideaaDoorTO32
import Derived.Test.YtihiicjnjhideaaDoorTO33
import Derived.Test.YtihiicjnjhideaaDoorTO34
section
namespace Go.Proofs.YtihiicjnjhideaaDoor.Names
open Go.RowKit Go.Proofs.YtihiicjnjhideaaDoorW.PrintWords Go.Proofs.YtihiicjnjhideaaDoor.PAll
set_option linter.unusedVariables false
/-- A byte that may stand in a name. -/
def nameByte (b : UInt8) : Bool := inName b || b == 58 || b == 126
theorem run_all (p : UInt8 → Bool) : ∀ l : List UInt8, ∀ b ∈ l.take (run p l), p b = true
 | [], b, h => by simp at h
 | c :: r, b, h => by
  rw [run] at h
  split at h
  ·rename_i hc
   rw [List.take_succ_cons] at h
   rcases List.mem_cons.1 h with rfl | h
   ·exact hc
   ·exact run_all p r b h
  ·simp at h
theorem ownLen_all : ∀ l : List UInt8, ∀ b ∈ l.take (ownLen l), inName b = true
 | [], b, h => by simp at h
 | c :: r, b, h => by
  rw [ownLen] at h
  split at h
  ·rename_i hc
   rw [List.take_succ_cons] at h
   rcases List.mem_cons.1 h with rfl | h
   ·rw [inName, hc, Bool.true_or]
   ·exact run_all _ r b h
  ·simp at h
theorem digit_in {b : UInt8} (h : digit b = true) : nameByte b = true := by rw [nameByte, inName, h, Bool.or_true, Bool.true_or, Bool.true_or]
theorem more_all (l : List UInt8) : ∀ b ∈ l.take (more l), nameByte b = true := by
 intro b h
 unfold more at h
 split at h
 ·rename_i r
  split at h
  ·simp at h
  ·rw [List.take_succ_cons, List.take_succ_cons] at h
   rcases List.mem_cons.1 h with rfl | h
   ·rfl
   rcases List.mem_cons.1 h with rfl | h
   ·rfl
   rw [nameByte, ownLen_all r b h]
   rfl
 ·simp at h
theorem tilde_all (l : List UInt8) : ∀ b ∈ l.take (tilde l), nameByte b = true := by
 intro b h
 unfold tilde at h
 split at h
 ·rename_i r
  split at h
  ·simp at h
  ·rw [List.take_succ_cons] at h
   rcases List.mem_cons.1 h with rfl | h
   ·rfl
   exact digit_in (run_all digit r b h)
 ·simp at h
theorem named_all (l : List UInt8) : ∀ b ∈ l.take (namedLen l), nameByte b = true := by
 intro b h
 unfold namedLen at h
 split at h
 ·simp at h
 rw [List.take_add, List.take_add, List.mem_append, List.mem_append] at h
 rcases h with (h | h) | h
 ·rw [nameByte, ownLen_all _ b h]
  rfl
 ·exact more_all _ b h
 ·exact tilde_all _ b h
theorem isName_all {l : List UInt8} (h : isName l = true) : l.length ≤ 64 ∧ ∀ b ∈ l, nameByte b = true := by
 unfold isName at h
 simp only [Bool.and_eq_true, decide_eq_true_eq] at h
 refine ⟨h.1.2, fun b hb => named_all l b ?_⟩
 rw [h.2, List.take_of_length_le (Nat.le_refl _)]
 exact hb
end Go.Proofs.YtihiicjnjhideaaDoor.Names
namespace Go.Proofs.YtihiicjnjhideaaDoor.Core
open Go.RowKit Go.Proofs.YtihiicjnjhideaaDoorW.PrintWords Go.Proofs.YtihiicjnjhideaaDoor.PAll Go.Proofs.YtihiicjnjhideaaDoor.Names
set_option linter.unusedVariables false
theorem cleanB_2 (n : Node) (r : Int) (h : n.f0 = 2) : cleanB n r = (zeroC n.f1 && (decide (0 ≤ n.f2) && decide (n.f2 < r)) && n.f3.data.toList == []) := by
 unfold cleanB ruleB nameB
 rw [h]
 simp
theorem cleanB_38 (n : Node) (r : Int) (h : n.f0 = 3 ∨ n.f0 = 8) : cleanB n r = (zeroC n.f1 && n.f2 == 0 && (isName n.f3.data.toList && isOwn n.f3.data.toList)) := by
 unfold cleanB ruleB nameB
 rcases h with h | h <;> rw [h] <;> simp
theorem t1 : ∀ e f : Bool, (!true || (!e || !f)) = !(e && f) := by decide
theorem t2 : ∀ a b c d f : Bool, (!true || ((!a || (!b || (!c || !d))) || !f)) = !((a && b && c && d) && (true && true) && f) := by decide
theorem nb {x : Bool} (h : (!x) = true) : x = false := by simpa using h
end Go.Proofs.YtihiicjnjhideaaDoor.Core
end
