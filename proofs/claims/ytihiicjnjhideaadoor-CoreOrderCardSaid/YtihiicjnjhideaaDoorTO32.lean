/- Parts of the proof of coreOrder: CoreRef, PAllx14. No condition beyond each lemma's own. -/
import Derived.Test.YtihiicjnjhideaaDoorTO5
section
namespace Go.Proofs.YtihiicjnjhideaaDoor.Core
open Go.RowKit Go.Proofs.YtihiicjnjhideaaDoorW.PrintWords Go.Proofs.YtihiicjnjhideaaDoor.PAll Go.Proofs.YtihiicjnjhideaaDoor.Names
set_option linter.unusedVariables false
abbrev Node := S55
abbrev Rule := S44
abbrev Class := S49
abbrev zRule : Rule := z44
/-- p holds at d places from i on. -/
def allFrom (p : Nat → Bool) : Nat → Nat → Bool
 | 0, _ => true
 | d + 1, i => p i && allFrom p d (i + 1)
theorem allFrom_iff (p : Nat → Bool) : ∀ d i, allFrom p d i = true ↔ ∀ j, i ≤ j → j < i + d → p j = true
 | 0, i => by simp [allFrom]; intro j h1 h2; omega
 | d + 1, i => by
  rw [allFrom, Bool.and_eq_true, allFrom_iff p d (i + 1)]
  constructor
  ·rintro ⟨h0, h⟩ j h1 h2
   rcases Nat.lt_or_ge i j with h3 | h3
   ·exact h j (by omega) (by omega)
   ·rw [show j = i by omega]; exact h0
  ·intro h
   exact ⟨h i (by omega) (by omega), fun j h1 h2 => h j (by omega) (by omega)⟩
/-- How many parts a kind has; -1: there is no such kind. -/
def ct (a : Int) : Int := if a = 0 ∨ a = 1 ∨ a = 2 ∨ a = 3 then 0 else if a = 6 ∨ a = 7 ∨ a = 8 then 1 else if a = 4 ∨ a = 5 then 2 else -1
def zeroC (c : Class) : Bool := c.f0 == 0 && c.f1 == 0 && c.f2 == 0 && c.f3 == 0
def ruleB (n : Node) (r : Int) : Bool := if n.f0 = 2 then decide (0 ≤ n.f2) && decide (n.f2 < r) else n.f2 == 0
def nameB (n : Node) : Bool := if n.f0 = 3 ∨ n.f0 = 8 then isName n.f3.data.toList && isOwn n.f3.data.toList else n.f3.data.toList == []
def cleanB (n : Node) (r : Int) : Bool := (n.f0 == 1 || zeroC n.f1) && ruleB n r && nameB n
def bodyB (r : Int) : List Node → Int → Bool
 | [], d => d == 1
 | n :: l, d => if ct n.f0 < 0 ∨ d < ct n.f0 ∨ cleanB n r = false then false else bodyB r l (d - ct n.f0 + 1)
/-- What a body that came in meets. -/
def FitN (n : Node) : Prop := n.f3.size ≤ 140737488351232
def sizeL : List Rule → Int
 | [] => 0
 | r :: l => r.f1.length + sizeL l
/-- What a core grammar that came in meets. -/
structure Fit (l : List Rule) : Prop where
 len : l.length ≤ 140737488351232
 body : ∀ r ∈ l, r.f0.size ≤ 140737488351232 ∧ r.f1.length ≤ 140737488351232 ∧ ∀ n ∈ r.f1, FitN n
def nm (l : List Rule) (i : Nat) : List UInt8 := (l.getD i zRule).f0.data.toList
def okAt (l : List Rule) (i : Nat) : Bool := isName (nm l i) && bodyB l.length (l.getD i zRule).f1 0 && allFrom (fun k => nm l k != nm l i) i 0
def boundsB (l : List Rule) (st : Int) : Bool := decide (1 ≤ l.length) && decide (l.length ≤ 256) && decide (0 ≤ st) && decide (st < l.length) && decide (sizeL l ≤ 16384)
def checkB (l : List Rule) (st : Int) : Bool := boundsB l st && allFrom (okAt l) l.length 0
end Go.Proofs.YtihiicjnjhideaaDoor.Core
end
section
namespace Go.Proofs.YtihiicjnjhideaaDoor.PAll
open Go.RowKit Go.Proofs.YtihiicjnjhideaaDoorW.PrintWords Go.Proofs.YtihiicjnjhideaaDoorW.PrintLast Go.Proofs.YtihiicjnjhideaaDoorW.PrintMore
attribute [local go_sem] max2_int max_two
set_option linter.unusedVariables false
set_option linter.unusedSimpArgs false
/-- Of short ASCII texts alone: is one of the second's bytes in the first? -/
def strings_ContainsAny.f (a0 a1 : ByteArray) : Option Bool :=
 if a0.size < 4294967281 ∧ a1.size < 4294967281 ∧ (∀ b ∈ a0.data.toList, b.toNat < 128) ∧ (∀ b ∈ a1.data.toList, b.toNat < 128) then some (Lib.containsAny a0.data.toList a1.data.toList) else none
theorem strings_ContainsAny.calls (a0 a1 : ByteArray) (r : Bool) (w : World) (h : strings_ContainsAny.f a0 a1 = some r) :
  Calls Tryd.prog 33 #[.string a0, .string a1] w fun e w' => e = .returned (.bool r) ∧ Below w.heap.size w w' := by
 unfold strings_ContainsAny.f at h
 split at h
 case isFalse => cases h
 rename_i hc
 obtain rfl := Option.some.inj h
 exact Tryd.strings_ContainsAny_laid a0 a1 w hc.1 hc.2.1 (fun j b hb => hc.2.2.1 b (List.mem_of_getElem? hb)) (fun j b hb => hc.2.2.2 b (List.mem_of_getElem? hb))
end Go.Proofs.YtihiicjnjhideaaDoor.PAll
end
