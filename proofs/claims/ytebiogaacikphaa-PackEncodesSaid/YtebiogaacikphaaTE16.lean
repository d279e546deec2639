/- Parts of the proof of packEncodes: InssOpen. No condition beyond each lemma's own. -/
import Derived.KernelRfl
import Derived.Test.YtebiogaacikphaaTE1
import Derived.Test.YtebiogaacikphaaTE3
import Derived.Test.YtebiogaacikphaaTE14
import Derived.Test.YtebiogaacikphaaTE15
section
namespace Go.Proofs.Ytebiogaacikphaa.Pack
open Go.RowKit Go.ChangeShapes Go.WideShapes Go.Proofs.YtebiogaacikphaaW.PrintWords Go.Proofs.Ytebiogaacikphaa.PAll
set_option linter.unusedVariables false
set_option maxRecDepth 100000
theorem oClassP : Opens Try.prog 76 k76 (fun b => (Lit.int .u64 b.f0).wf = true ∧ (Lit.int .u64 b.f1).wf = true ∧ (Lit.int .u64 b.f2).wf = true ∧ (Lit.int .u64 b.f3).wf = true) :=
  Opens.four Try.underlying76 Try.underlying74 (by kernel_rfl) (by kernel_rfl) (fun x : S76 => (x.f0, x.f1, x.f2, x.f3)) (fun a => ⟨a.1, a.2.1, a.2.2.1, a.2.2.2⟩) (fun a => rfl)
theorem oIns : Opens Try.prog 78 k78 (fun b => (Lit.int .i64 b.f0).wf = true ∧ (Lit.int .i64 b.f1).wf = true ∧ ((Lit.int .u64 b.f2.f0).wf = true ∧ (Lit.int .u64 b.f2.f1).wf = true ∧ (Lit.int .u64 b.f2.f2).wf = true ∧ (Lit.int .u64 b.f2.f3).wf = true) ∧ b.f3.size ≤ 140737488351232) :=
  Opens.struct Try.underlying78 (by kernel_rfl) (fun x : Ins => (x.f0, x.f1, x.f2, x.f3)) (fun a => ⟨a.1, a.2.1, a.2.2.1, a.2.2.2⟩) (fun a => rfl)
    (OpensF.cons rfl (by kernel_rfl) (Opens.int Try.underlying3) (OpensF.cons rfl (by kernel_rfl) (Opens.int Try.underlying3) (OpensF.cons rfl (by kernel_rfl) oClassP (OpensF.one rfl (by kernel_rfl) (Opens.string Try.underlying9)))))
theorem u64_of_wf {x : Int} (h : (Lit.int .u64 x).wf = true) : 0 ≤ x ∧ x < 18446744073709551616 := by
  have h' : IntKind.u64.min ≤ x ∧ x ≤ IntKind.u64.max := by simpa [Lit.wf] using h
  have h1 : IntKind.u64.min = 0 := by decide
  have h2 : IntKind.u64.max = 18446744073709551615 := by decide
  omega
def InssOk (l : List Ins) : Prop := l.length * 64 ≤ 140737488351232 ∧ ∀ x ∈ l, FourOk (clsI x) ∧ x.f3.size ≤ 140737488351232
theorem oProgram : Opens Try.prog 40 (Kd.slice 78 k78) (fun xs => xs.length * 64 ≤ 140737488351232 ∧ xs.length ≤ 9223372036854775807 ∧ ∀ x ∈ xs, ((Lit.int .i64 x.f0).wf = true ∧ (Lit.int .i64 x.f1).wf = true ∧ ((Lit.int .u64 x.f2.f0).wf = true ∧ (Lit.int .u64 x.f2.f1).wf = true ∧ (Lit.int .u64 x.f2.f2).wf = true ∧ (Lit.int .u64 x.f2.f3).wf = true) ∧ x.f3.size ≤ 140737488351232)) :=
  Opens.slice Try.underlying40 oIns (by kernel_rfl) (by kernel_rfl)
/-- An argument that is a program. -/
theorem open_inss {H : Type} {enc : TypeId × Value → H} {W : World} {base : Nat} {r : Reach} {b0 : Nat} {sp : Nat → Bool} {held : Bool} {v : Value} {d : DataW H} {p : List MemPlace}
    (hval : Value.okWide Try.prog W r b0 40 v) (h : DataW.Trod enc Try.prog W base sp held 40 v d p) (hw : ∀ n ∈ d.weights Try.prog 40, n ≤ reachBytes) :
    ∃ (A : Option Addr) (c : Nat) (l : List Ins), v = .slice A l.length c ∧ Kd.C k78 W A l.length l ∧ l.length ≤ c ∧ InssOk l := by
  obtain ⟨a, len, cap, rfl⟩ := okWide_slice Try.underlying40 hval
  obtain ⟨fuel, hf⟩ := h
  obtain ⟨l, ⟨A, c, he, hl, hC⟩, ho⟩ := oProgram.out hf hw
  simp [Value.cells] at he
  obtain ⟨rfl, rfl, rfl⟩ := he
  exact ⟨_, _, l, rfl, hC, hl, ho.1, fun x hx => ⟨⟨u64_of_wf (ho.2.2 x hx).2.2.1.1, u64_of_wf (ho.2.2 x hx).2.2.1.2.1, u64_of_wf (ho.2.2 x hx).2.2.1.2.2.1, u64_of_wf (ho.2.2 x hx).2.2.1.2.2.2⟩, (ho.2.2 x hx).2.2.2⟩⟩
/-- Instructions at the front of a block. -/
theorem ins_row {W : World} {g : Nat} {t : TypeId} {l r : List Ins} (h : RowAt W g t ((l ++ r).flatMap insCells)) (hl : l.length ≤ 9223372036854775807) : Kd.C k78 W (some ⟨g, 0, none⟩) l.length l := by
  refine ⟨rfl, hl, fun _ => ⟨_, rfl, fun j p hj => ⟨insCells p, rfl, k78_mk W p, fun i u hi => ?_⟩⟩⟩
  have hl2 : (l ++ r)[j]? = some p := by rw [List.getElem?_append_left (List.getElem?_eq_some_iff.1 hj).1]; exact hj
  have e : (⟨g, 0, none⟩ : Addr).add (j * (k78).sz + i) = ⟨g, j * 7 + i, none⟩ := by rw [Go.Proofs.YtebiogaacikphaaW.PrintWords.add_plain]; rfl
  rw [e, h.cell]
  exact flat_get _ j p hl2 i u hi
theorem bytes_get {W : World} {base : Nat} {v : Value} {b : List Int} (h : W.ownsRow base 5 1 v b.length (nums .u8 b)) : ∃ A c, v = .slice A b.length c ∧ b.length ≤ c ∧ Kd.C (Kd.int .u8) W A b.length b :=
  Kd.R_reads (Kd.R_of_own (h1 := fun _ => rfl) (ok := fun _ => True) h (fun k hk => trivial))
end Go.Proofs.Ytebiogaacikphaa.Pack
end
