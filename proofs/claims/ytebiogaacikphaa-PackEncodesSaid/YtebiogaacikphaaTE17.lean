/- Parts of the proof of packEncodes: Forge. No condition beyond each lemma's own. -/
import Derived.IntWalk
import Derived.Outline
import Derived.WalkKit
import Derived.Test.YtebiogaacikphaaTE3
import Derived.Test.YtebiogaacikphaaTE6
import Derived.Test.YtebiogaacikphaaTE11
section
namespace Go.Proofs.Ytebiogaacikphaa.Pack
open Go.RowKit Go.Proofs.YtebiogaacikphaaW.PrintWords Go.Proofs.Ytebiogaacikphaa.PAll
set_option linter.unusedVariables false
set_option linter.unusedSimpArgs false
theorem bytes_reads {W : World} {base : Nat} {v : Value} {l : List Int} (h : W.ownsRow base 5 1 v l.length (nums .u8 l)) (hl : l.length ≤ 9223372036854775807) : ∃ A c, v = .slice A l.length c ∧ l.length ≤ c ∧ Kd.C (Kd.int .u8) W A l.length l := by
  rcases h.2 with ⟨hv, h0⟩ | ⟨g, cap, cur, hv, h1, h2, h3, h4, h5, h6⟩
  · exact ⟨none, 0, by rw [hv, h0], by omega, ⟨rfl, hl, fun hp => absurd hp (by omega)⟩⟩
  · refine ⟨some ⟨g, 0, none⟩, cap, hv, h3, ?_⟩
    refine Kd.C_of_reads (d := (0 : Int)) (enc := Value.int .u8) (h1 := fun _ => rfl) ⟨rfl, hl, fun _ => ⟨_, rfl, fun j hj => ?_⟩⟩
    have := h.cells (g := g) (by rw [hv]; rfl) j (.int .u8 l[j]) (by rw [nums, List.getElem?_map, List.getElem?_eq_getElem hj]; rfl)
    rw [this, List.getD_eq_getElem?_getD, List.getElem?_eq_getElem hj]
    rfl
theorem own_C {w : World} {base : Nat} {A : Option Addr} {c : Nat} {l : List Int} (h : w.ownsRow base 5 1 (.slice A l.length c) l.length (nums .u8 l)) (hl : l.length ≤ 9223372036854775807) : l.length ≤ c ∧ Kd.C (Kd.int .u8) w A l.length l := by
  obtain ⟨A1, c1, h1, h2, h3⟩ := bytes_reads h hl
  obtain ⟨rfl, rfl⟩ : A = A1 ∧ c = c1 := by cases h1; exact ⟨rfl, rfl⟩
  exact ⟨h2, h3⟩
theorem bytes_ReadsInt {w : World} {A : Option Addr} {l : List Int} (h : Kd.C (Kd.int .u8) w A l.length l) : ReadsInt w .u8 A l.length l := Kd.reads_of_C (enc := Value.int .u8) (d := (0 : Int)) (h1 := fun _ => rfl) h
theorem lit4_reads (w : World) (a b c d : Int) : ReadsInt (w.alloc (.cells #[.int .u8 a, .int .u8 b, .int .u8 c, .int .u8 d] 5)) .u8 (some ⟨w.heap.size, 0, none⟩) 4 [a, b, c, d] :=
  bytes_ReadsInt (l := [a, b, c, d]) (own_C (l := [a, b, c, d]) (World.ownsRow_lit (base := w.heap.size) (e := 5) (size := 1) w #[.int .u8 a, .int .u8 b, .int .u8 c, .int .u8 d] 4 (Nat.le_refl _) (by decide) rfl) (by simp)).2
theorem nums_leN (s : Int) (hs : 0 ≤ s ∧ s < 4294967296) : [s % 256, s / 256 % 256, s / 65536 % 256, s / 16777216 % 256] = leN 4 s := by
  simp only [leN, List.cons.injEq, and_true, true_and]
  omega
end Go.Proofs.Ytebiogaacikphaa.Pack
end
