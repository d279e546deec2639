/- Parts of the proof of coreOrder: BuildMay. No condition beyond each lemma's own. -/
import Derived.Test.YtihiicjnjhideaaDoorTO6
import Derived.Test.YtihiicjnjhideaaDoorTO9
import Derived.Test.YtihiicjnjhideaaDoorTO10
section
namespace Go.Proofs.YtihiicjnjhideaaDoor.Build
open Go.RowKit Go.Proofs.YtihiicjnjhideaaDoorW.PrintWords Go.Proofs.YtihiicjnjhideaaDoor.PAll Go.Proofs.YtihiicjnjhideaaDoor.Core Go.Proofs.YtihiicjnjhideaaDoor.Names
set_option linter.unusedVariables false
set_option linter.unusedSimpArgs false
/-- It answers, and its yes says P. -/
def EvP (g : Nat → Option Bool) (P : Prop) : Prop := ∃ v, Ev g v ∧ (v = true → P)
theorem EvP.ite {c : Prop} [Decidable c] {g f : Nat → Option Bool} {P : Prop} (h : c → EvP g P) (k : ¬ c → EvP f P) : EvP (fun n => if c then g n else f n) P := by
 by_cases hc : c
 ·obtain ⟨v, h1, h2⟩ := h hc; exact ⟨v, Ev.pos hc h1, h2⟩
 ·obtain ⟨v, h1, h2⟩ := k hc; exact ⟨v, Ev.neg hc h1, h2⟩
theorem EvP.no {P : Prop} : EvP (fun _ => some false) P := ⟨false, Ev.some_ rfl, fun h => by cases h⟩
theorem EvP.yes {b : Bool} {P : Prop} (h : P) : EvP (fun _ => some b) P := ⟨b, Ev.some_ rfl, fun _ => h⟩
theorem EvP.step {g f : Nat → Option Bool} {P : Prop} (h : ∀ n, g (n + 1) = f n) (k : EvP f P) : EvP g P := by
 obtain ⟨v, h1, h2⟩ := k; exact ⟨v, Ev.step h h1, h2⟩
theorem EvP.bind {g : Nat → Option Bool} {t : Bool} {f : Nat → Bool → Option Bool} {P : Prop} (h : Ev g t) (k : EvP (fun n => f n t) P) : EvP (fun n => (g n).bind (f n)) P := by
 obtain ⟨v, h1, h2⟩ := k; exact ⟨v, Ev.bind h h1, h2⟩
/-- A node that may be. -/
structure May (x : EN) : Prop where
 lo : 0 ≤ x.f0
 hi : x.f0 ≤ 14
 none_ : x.f0 = 0 ∨ x.f0 = 1 ∨ x.f0 = 2 ∨ x.f0 = 3 ∨ x.f0 = 5 → x.f1 = 0
 refs : x.f0 = 4 → 0 ≤ x.f1 ∧ x.f1 ≤ 8 ∧ isName x.f2.data.toList = true
 many : x.f0 = 6 ∨ x.f0 = 7 → 2 ≤ x.f1
 one : x.f0 = 8 ∨ x.f0 = 9 ∨ x.f0 = 10 ∨ x.f0 = 11 ∨ x.f0 = 12 ∨ x.f0 = 13 ∨ x.f0 = 14 → x.f1 = 1
 own : x.f0 = 5 ∨ x.f0 = 14 → okName x.f2 = true
 cnt : x.f0 = 11 → 0 ≤ x.f5 ∧ x.f5 ≤ 255 ∧ (x.f6 = -1 ∨ (x.f5 ≤ x.f6 ∧ x.f6 ≤ 255))
section
variable (x : EN) (hs : x.f2.size ≤ 140737488351232)
include hs in
theorem may2 (h0 : ¬ (x.f0 = 0 ∨ x.f0 = 1 ∨ x.f0 = 2 ∨ x.f0 = 3 ∨ x.f0 = 4 ∨ x.f0 = 5 ∨ x.f0 = 6 ∨ x.f0 = 7)) (b : Bool) (hb : b = true → x.f0 = 8 ∨ x.f0 = 9 ∨ x.f0 = 10 ∨ x.f0 = 12 ∨ x.f0 = 13) :
  EvP (fun k => script_may.j2 k x.f0 b x.f0 x.f1 x.f2 x.f3 x.f4.f0 x.f4.f1 x.f4.f2 x.f4.f3 x.f5 x.f6 0 0 x.f2 x.f3 x.f4.f0 x.f4.f1 x.f4.f2 x.f4.f3 x.f5 x.f6) (May x) := by
 refine EvP.step (fun _ => by rw [script_may.j2]) ?_
 refine EvP.ite (fun h1 => ?_) (fun h1 => ?_)
 ·have h2 := hb h1
  refine EvP.ite (fun h3 => ?_) (fun _ => EvP.no)
  exact EvP.yes ⟨by omega, by omega, fun h => by omega, fun h => by omega, fun h => by omega, fun h => h3, fun h => by omega, fun h => by omega⟩
 ·refine EvP.ite (fun h2 => ?_) (fun h2 => ?_)
  ·refine EvP.ite (fun h3 => ?_) (fun _ => EvP.no)
   refine EvP.ite (fun h4 => ?_) (fun _ => EvP.no)
   refine EvP.ite (fun h5 => ?_) (fun _ => EvP.no)
   refine EvP.ite (fun h6 => ?_) (fun h6 => ?_)
   ·exact EvP.yes ⟨by omega, by omega, fun h => by omega, fun h => by omega, fun h => by omega, fun h => h3, fun h => by omega, fun h => by omega⟩
   ·refine EvP.ite (fun h7 => ?_) (fun _ => EvP.no)
    refine EvP.ite (fun h8 => ?_) (fun _ => EvP.no)
    exact EvP.yes ⟨by omega, by omega, fun h => by omega, fun h => by omega, fun h => by omega, fun h => h3, fun h => by omega, fun h => by omega⟩
  ·refine EvP.ite (fun h3 => ?_) (fun _ => EvP.no)
   refine EvP.ite (fun h4 => ?_) (fun _ => EvP.no)
   refine EvP.bind (sown_ev x.f2 hs) ?_
   refine EvP.ite (fun h5 => ?_) (fun _ => EvP.no)
   exact EvP.yes ⟨by omega, by omega, fun h => by omega, fun h => by omega, fun h => by omega, fun h => h4, fun h => h5, fun h => by omega⟩
include hs in
theorem may1 (h0 : ¬ (x.f0 = 0 ∨ x.f0 = 1 ∨ x.f0 = 2 ∨ x.f0 = 3 ∨ x.f0 = 4 ∨ x.f0 = 5)) (b : Bool) (hb : b = true → x.f0 = 6 ∨ x.f0 = 7) (hb2 : b = false → ¬ (x.f0 = 6 ∨ x.f0 = 7)) :
  EvP (fun k => script_may.j1 k x.f0 b x.f0 x.f1 x.f2 x.f3 x.f4.f0 x.f4.f1 x.f4.f2 x.f4.f3 x.f5 x.f6 0 0 x.f2 x.f3 x.f4.f0 x.f4.f1 x.f4.f2 x.f4.f3 x.f5 x.f6) (May x) := by
 refine EvP.step (fun _ => by rw [script_may.j1]) ?_
 refine EvP.ite (fun h1 => ?_) (fun h1 => ?_)
 ·have h2 := hb h1
  refine EvP.ite (fun h3 => ?_) (fun _ => EvP.no)
  exact EvP.yes ⟨by omega, by omega, fun h => by omega, fun h => by omega, fun h => by omega, fun h => by omega, fun h => by omega, fun h => by omega⟩
 ·have h2 := hb2 (by simpa using h1)
  have h3 : ¬ (x.f0 = 0 ∨ x.f0 = 1 ∨ x.f0 = 2 ∨ x.f0 = 3 ∨ x.f0 = 4 ∨ x.f0 = 5 ∨ x.f0 = 6 ∨ x.f0 = 7) := by omega
  refine EvP.ite (fun h4 => may2 x hs h3 _ (fun _ => by omega)) (fun h4 => ?_)
  refine EvP.ite (fun h5 => may2 x hs h3 _ (fun _ => by omega)) (fun h5 => ?_)
  refine EvP.ite (fun h6 => may2 x hs h3 _ (fun _ => by omega)) (fun h6 => ?_)
  refine EvP.ite (fun h7 => may2 x hs h3 _ (fun _ => by omega)) (fun h7 => ?_)
  exact may2 x hs h3 _ (fun h => by have := beq_iff_eq.1 h; omega)
include hs in
theorem may0 (b : Bool) (hb : b = true → x.f0 = 0 ∨ x.f0 = 3) (hb2 : b = false → ¬ (x.f0 = 0 ∨ x.f0 = 3)) :
  EvP (fun k => script_may.j0 k (x.f1 == 0) x.f0 b x.f0 x.f1 x.f2 x.f3 x.f4.f0 x.f4.f1 x.f4.f2 x.f4.f3 x.f5 x.f6 0 0 x.f2 x.f3 x.f4.f0 x.f4.f1 x.f4.f2 x.f4.f3 x.f5 x.f6) (May x) := by
 refine EvP.step (fun _ => by rw [script_may.j0]) ?_
 refine EvP.ite (fun h1 => ?_) (fun h1 => ?_)
 ·have h2 := hb h1
  refine EvP.ite (fun h3 => ?_) (fun _ => EvP.no)
  have h3 := beq_iff_eq.1 h3
  exact EvP.yes ⟨by omega, by omega, fun h => by omega, fun h => by omega, fun h => by omega, fun h => by omega, fun h => by omega, fun h => by omega⟩
 ·have h2 := hb2 (by simpa using h1)
  refine EvP.ite (fun h4 => ?_) (fun h4 => ?_)
  ·refine EvP.ite (fun h3 => ?_) (fun _ => EvP.no)
   have h3 := beq_iff_eq.1 h3
   exact EvP.yes ⟨by omega, by omega, fun h => by omega, fun h => by omega, fun h => by omega, fun h => by omega, fun h => by omega, fun h => by omega⟩
  refine EvP.ite (fun h5 => ?_) (fun h5 => ?_)
  ·refine EvP.ite (fun h3 => ?_) (fun _ => EvP.no)
   have h3 := beq_iff_eq.1 h3
   exact EvP.yes ⟨by omega, by omega, fun h => by omega, fun h => by omega, fun h => by omega, fun h => by omega, fun h => by omega, fun h => by omega⟩
  refine EvP.ite (fun h6 => ?_) (fun h6 => ?_)
  ·refine EvP.ite (fun h7 => ?_) (fun _ => EvP.no)
   refine EvP.ite (fun h8 => ?_) (fun _ => EvP.no)
   refine EvP.bind (lexName_ev x.f2 hs) ?_
   refine EvP.ite (fun h9 => ?_) (fun _ => EvP.no)
   exact EvP.yes ⟨by omega, by omega, fun h => by omega, fun h => ⟨h7, h8, h9⟩, fun h => by omega, fun h => by omega, fun h => by omega, fun h => by omega⟩
  refine EvP.ite (fun h6 => ?_) (fun h7 => ?_)
  ·refine EvP.ite (fun h3 => ?_) (fun _ => EvP.no)
   have h3 := beq_iff_eq.1 h3
   refine EvP.bind (sown_ev x.f2 hs) ?_
   refine EvP.ite (fun h9 => ?_) (fun _ => EvP.no)
   exact EvP.yes ⟨by omega, by omega, fun h => h3, fun h => by omega, fun h => by omega, fun h => by omega, fun h => h9, fun h => by omega⟩
  have h8 : ¬ (x.f0 = 0 ∨ x.f0 = 1 ∨ x.f0 = 2 ∨ x.f0 = 3 ∨ x.f0 = 4 ∨ x.f0 = 5) := by omega
  refine EvP.ite (fun h9 => ?_) (fun h9 => ?_)
  ·refine may1 x hs h8 _ (fun _ => .inl h9) (fun h => ?_)
   rw [beq_eq_false_iff_ne] at h
   exact absurd h9 h
  ·refine may1 x hs h8 _ (fun h => .inr (beq_iff_eq.1 h)) (fun h => ?_)
   rw [beq_eq_false_iff_ne] at h
   omega
include hs in
theorem may_any : EvP (fun k => script_may.f k x.f0 x.f1 x.f2 x.f3 x.f4.f0 x.f4.f1 x.f4.f2 x.f4.f3 x.f5 x.f6) (May x) := by
 unfold script_may.f
 refine EvP.ite (fun h => ?_) (fun h => ?_)
 ·refine may0 x hs _ (fun _ => .inl h) (fun h2 => ?_)
  rw [beq_eq_false_iff_ne] at h2
  exact absurd h h2
 ·refine may0 x hs _ (fun h2 => .inr (beq_iff_eq.1 h2)) (fun h2 => ?_)
  rw [beq_eq_false_iff_ne] at h2
  omega
end
end Go.Proofs.YtihiicjnjhideaaDoor.Build
end
