/- How a core grammar that a row reads is told by the printed kinds. No condition beyond each lemma's own. -/
import Derived.Test.YtebiogaacikphaaCoreRef
import Derived.Test.YtebiogaacikphaaOpen
import Derived.KernelRfl
namespace Go.Proofs.Ytebiogaacikphaa.Core
open Go.RowKit Go.ChangeShapes Go.WideShapes Go.Proofs.YtebiogaacikphaaW.PrintWords Go.Proofs.Ytebiogaacikphaa.PAll Go.Proofs.Ytebiogaacikphaa.Names
set_option linter.unusedVariables false
set_option maxRecDepth 100000
theorem oClass : Opens Try.prog 76 k76 (fun b => (Lit.int .u64 b.f0).wf = true ∧ (Lit.int .u64 b.f1).wf = true ∧ (Lit.int .u64 b.f2).wf = true ∧ (Lit.int .u64 b.f3).wf = true) :=
  Opens.four Try.underlying76 Try.underlying74 (by kernel_rfl) (by kernel_rfl) (fun x : Class => (x.f0, x.f1, x.f2, x.f3)) (fun a => ⟨a.1, a.2.1, a.2.2.1, a.2.2.2⟩) (fun a => rfl)
theorem oNode : Opens Try.prog 90 k90 (fun b => (Lit.int .i64 b.f0).wf = true ∧ ((Lit.int .u64 b.f1.f0).wf = true ∧ (Lit.int .u64 b.f1.f1).wf = true ∧ (Lit.int .u64 b.f1.f2).wf = true ∧ (Lit.int .u64 b.f1.f3).wf = true) ∧ (Lit.int .i64 b.f2).wf = true ∧ b.f3.size ≤ 140737488351232) :=
  Opens.struct Try.underlying90 (by kernel_rfl) (fun x : Node => (x.f0, x.f1, x.f2, x.f3)) (fun a => ⟨a.1, a.2.1, a.2.2.1, a.2.2.2⟩) (fun a => rfl)
    (OpensF.cons rfl (by kernel_rfl) (Opens.int Try.underlying3) (OpensF.cons rfl (by kernel_rfl) oClass (OpensF.cons rfl (by kernel_rfl) (Opens.int Try.underlying3) (OpensF.one rfl (by kernel_rfl) (Opens.string Try.underlying9)))))
/-- A node of what came in. -/
def NodeOk (b : Node) : Prop := (Lit.int .i64 b.f0).wf = true ∧ ((Lit.int .u64 b.f1.f0).wf = true ∧ (Lit.int .u64 b.f1.f1).wf = true ∧ (Lit.int .u64 b.f1.f2).wf = true ∧ (Lit.int .u64 b.f1.f3).wf = true) ∧ (Lit.int .i64 b.f2).wf = true ∧ b.f3.size ≤ 140737488351232
theorem oBody : Opens Try.prog 25 (Kd.slice 90 k90) (fun xs => xs.length * 64 ≤ 140737488351232 ∧ xs.length ≤ 9223372036854775807 ∧ ∀ x ∈ xs, NodeOk x) :=
  Opens.slice Try.underlying25 oNode (by kernel_rfl) (by kernel_rfl)
def RuleOk (r : Rule) : Prop := r.f0.size ≤ 140737488351232 ∧ r.f1.length * 64 ≤ 140737488351232 ∧ r.f1.length ≤ 9223372036854775807 ∧ ∀ x ∈ r.f1, NodeOk x
theorem oRule : Opens Try.prog 30 k30 RuleOk :=
  Opens.struct Try.underlying30 (by kernel_rfl) (fun x : Rule => (x.f0, x.f1)) (fun a => ⟨a.1, a.2⟩) (fun a => rfl)
    (OpensF.cons rfl (by kernel_rfl) (Opens.string Try.underlying9) (OpensF.one rfl (by kernel_rfl) oBody))
theorem oRules : Opens Try.prog 22 (Kd.slice 30 k30) (fun xs => xs.length * 40 ≤ 140737488351232 ∧ xs.length ≤ 9223372036854775807 ∧ ∀ x ∈ xs, RuleOk x) :=
  Opens.slice Try.underlying22 oRule (by kernel_rfl) (by kernel_rfl)
theorem oCore : Opens Try.prog 24 (Kd.iso (Kd.pair (Kd.slice 30 k30) (Kd.int .i64)) (fun x : List Rule × Int => (x.1, x.2))) (fun x => (x.1.length * 40 ≤ 140737488351232 ∧ x.1.length ≤ 9223372036854775807 ∧ ∀ r ∈ x.1, RuleOk r) ∧ (Lit.int .i64 x.2).wf = true) :=
  Opens.struct Try.underlying24 (by kernel_rfl) (fun x : List Rule × Int => (x.1, x.2)) (fun a => a) (fun a => rfl)
    (OpensF.cons rfl (by kernel_rfl) oRules (OpensF.one rfl (by kernel_rfl) (Opens.int Try.underlying3)))
theorem fit_of {l : List Rule} (h : l.length * 40 ≤ 140737488351232 ∧ l.length ≤ 9223372036854775807 ∧ ∀ r ∈ l, RuleOk r) : Fit l :=
  ⟨by omega, fun r hr => ⟨(h.2.2 r hr).1, by have := (h.2.2 r hr).2.1; omega, fun n hn => ((h.2.2 r hr).2.2.2 n hn).2.2.2⟩⟩

/-- An argument that is a core grammar. -/
theorem open_core {H : Type} {enc : TypeId × Value → H} {W : World} {base : Nat} {r : Reach} {b0 : Nat} {sp : Nat → Bool} {held : Bool} {v : Value} {d : DataW H} {p : List MemPlace}
    (hval : Value.okWide Try.prog W r b0 24 v) (h : DataW.Trod enc Try.prog W base sp held 24 v d p) (hw : ∀ n ∈ d.weights Try.prog 24, n ≤ reachBytes) :
    ∃ (A : Option Addr) (c : Nat) (l : List Rule) (st : Int), v = .agg #[.slice A l.length c, .int .i64 st] ∧ Kd.C k30 W A l.length l ∧ l.length ≤ c ∧ (Lit.int .i64 st).wf = true ∧ (l.length * 40 ≤ 140737488351232 ∧ l.length ≤ 9223372036854775807 ∧ ∀ r ∈ l, RuleOk r) := by
  simp only [Value.okWide, Try.underlying24] at hval
  obtain ⟨cs, rfl, _, _⟩ := hval
  obtain ⟨fuel, hf⟩ := h
  obtain ⟨x, ⟨c0, c1, he, ⟨A, c, rfl, hl, hC⟩, rfl⟩, ho, hs⟩ := oCore.out hf hw
  refine ⟨A, c, x.1, x.2, ?_, hC, hl, hs, ho⟩
  obtain ⟨cs⟩ := cs
  simp [Value.cells] at he
  rw [he]
theorem open_body {H : Type} {enc : TypeId × Value → H} {W : World} {base : Nat} {r : Reach} {b0 : Nat} {sp : Nat → Bool} {held : Bool} {v : Value} {d : DataW H} {p : List MemPlace}
    (hval : Value.okWide Try.prog W r b0 25 v) (h : DataW.Trod enc Try.prog W base sp held 25 v d p) (hw : ∀ n ∈ d.weights Try.prog 25, n ≤ reachBytes) :
    ∃ (A : Option Addr) (c : Nat) (l : List Node), v = .slice A l.length c ∧ Kd.C k90 W A l.length l ∧ l.length ≤ c ∧ (l.length * 64 ≤ 140737488351232 ∧ l.length ≤ 9223372036854775807 ∧ ∀ x ∈ l, NodeOk x) := by
  obtain ⟨a, len, cap, rfl⟩ := okWide_slice Try.underlying25 hval
  obtain ⟨fuel, hf⟩ := h
  obtain ⟨l, ⟨A, c, he, hl, hC⟩, ho⟩ := oBody.out hf hw
  simp [Value.cells] at he
  obtain ⟨rfl, rfl, rfl⟩ := he
  exact ⟨_, _, l, rfl, hC, hl, ho⟩
end Go.Proofs.Ytebiogaacikphaa.Core
