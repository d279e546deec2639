-- Written by a program of this session's, out of the translation. Not trusted: Lean checks it.
import Derived.Test.YtebiogaacikphaaPAllx0
namespace Go.Proofs.Ytebiogaacikphaa.PAll
open Go.RowKit Go.Proofs.YtebiogaacikphaaW.PrintWords Go.Proofs.YtebiogaacikphaaW.PrintLast Go.Proofs.YtebiogaacikphaaW.PrintMore
attribute [local go_sem] max2_int min2_int max_two min_two max_three min_three max_four min_four   -- for this text's walks alone
set_option linter.unusedVariables false
set_option linter.unusedSimpArgs false

/-! ### strings_ContainsAny: function 85 -/
/-- Of short ASCII texts alone: is one of the second's bytes in the first? -/
def strings_ContainsAny.f (a0 a1 : ByteArray) : Option Bool :=
  if a0.size < 4294967281 ∧ a1.size < 4294967281 ∧ (∀ b ∈ a0.data.toList, b.toNat < 128) ∧ (∀ b ∈ a1.data.toList, b.toNat < 128) then some (Lib.containsAny a0.data.toList a1.data.toList) else none
theorem strings_ContainsAny.calls (a0 a1 : ByteArray) (r : Bool) (w : World) (h : strings_ContainsAny.f a0 a1 = some r) :
    Calls Try.prog 85 #[.string a0, .string a1] w fun e w' => e = .returned (.bool r) ∧ Below w.heap.size w w' := by
  unfold strings_ContainsAny.f at h
  split at h
  case isFalse => cases h
  rename_i hc
  obtain rfl := Option.some.inj h
  exact Try.strings_ContainsAny_laid a0 a1 w hc.1 hc.2.1 (fun j b hb => hc.2.2.1 b (List.mem_of_getElem? hb)) (fun j b hb => hc.2.2.2 b (List.mem_of_getElem? hb))

end Go.Proofs.Ytebiogaacikphaa.PAll
