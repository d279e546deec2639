/- Parts of the proof of coreGrammars: CoreRef, Lexis, CoreRight, MapEntry, PackClasses, PackNext, Free, Region. No condition beyond each lemma's own. -/
import Derived.BigQuiet
import Derived.Deep.QuietTactic
import Derived.Deep.RegionHeld3
import Derived.IntWalk
import Derived.Outline
import Derived.StillTailTactics
import Derived.WalkKit
import Derived.Test.YtebiogaacikphaaTG0
import Derived.Test.YtebiogaacikphaaTG1
import Derived.Test.YtebiogaacikphaaTG3
import Derived.Test.YtebiogaacikphaaTG4
import Derived.Test.YtebiogaacikphaaTG5
import Derived.Test.YtebiogaacikphaaTG6
import Derived.Test.YtebiogaacikphaaTG7
import Derived.Test.YtebiogaacikphaaTG8
import Derived.Test.YtebiogaacikphaaTG9
import Derived.Test.YtebiogaacikphaaTG10
import Derived.Test.YtebiogaacikphaaTG11
import Derived.Test.YtebiogaacikphaaTG12
section
namespace Go.Proofs.Ytebiogaacikphaa.Core
open Go.RowKit Go.Proofs.YtebiogaacikphaaW.PrintWords Go.Proofs.Ytebiogaacikphaa.PAll Go.Proofs.Ytebiogaacikphaa.Names
set_option linter.unusedVariables false
abbrev Node := S90
abbrev Rule := S30
abbrev Class := S76
abbrev zNode : Node := z90
abbrev zRule : Rule := z30
/-- p holds at d places from i on. -/
def allFrom (p : Nat → Bool) : Nat → Nat → Bool
  | 0, _ => true
  | d + 1, i => p i && allFrom p d (i + 1)
theorem allFrom_iff (p : Nat → Bool) : ∀ d i, allFrom p d i = true ↔ ∀ j, i ≤ j → j < i + d → p j = true
  | 0, i => by simp [allFrom]; intro j h1 h2; omega
  | d + 1, i => by
    rw [allFrom, Bool.and_eq_true, allFrom_iff p d (i + 1)]
    constructor
    · rintro ⟨h0, h⟩ j h1 h2
      rcases Nat.lt_or_ge i j with h3 | h3
      · exact h j (by omega) (by omega)
      · rw [show j = i by omega]; exact h0
    · intro h
      exact ⟨h i (by omega) (by omega), fun j h1 h2 => h j (by omega) (by omega)⟩
/-- How many parts a kind has; -1: there is no such kind. -/
def ct (a : Int) : Int := if a = 0 ∨ a = 1 ∨ a = 2 ∨ a = 3 then 0 else if a = 6 ∨ a = 7 ∨ a = 8 then 1 else if a = 4 ∨ a = 5 then 2 else -1
theorem ct_range (a : Int) : -1 ≤ ct a ∧ ct a ≤ 2 := by
  unfold ct
  repeat' split
  all_goals omega
theorem count_ev (a : Int) : Ev (fun k => dowelref09_count.f k a) (ct a) := by
  unfold dowelref09_count.f
  have j1 : ∀ b : Bool, ¬ (a = 0 ∨ a = 1 ∨ a = 2 ∨ a = 3) → (b = true ↔ (a = 6 ∨ a = 7 ∨ a = 8)) → Ev (fun k => dowelref09_count.j1 k a b) (ct a) := by
    intro b h0 hb
    refine Ev.step (fun _ => by rw [dowelref09_count.j1]) ?_
    unfold ct
    rw [if_neg h0]
    refine Ev.ite (fun h => Ev.some_ (by rw [if_pos (hb.1 h)])) (fun h => ?_)
    rw [if_neg (fun h' => h (hb.2 h'))]
    refine Ev.ite (fun h => Ev.some_ (by rw [if_pos (.inl h)])) (fun h4 => ?_)
    exact Ev.ite (fun h => Ev.some_ (by rw [if_pos (.inr h)])) (fun h5 => Ev.some_ (by rw [if_neg (by omega)]))
  have j0 : ∀ b : Bool, (b = true ↔ (a = 0 ∨ a = 1 ∨ a = 2 ∨ a = 3)) → Ev (fun k => dowelref09_count.j0 k a b) (ct a) := by
    intro b hb
    refine Ev.step (fun _ => by rw [dowelref09_count.j0]) ?_
    refine Ev.ite (fun h => Ev.some_ (by rw [ct, if_pos (hb.1 h)])) (fun h => ?_)
    have h0 : ¬ (a = 0 ∨ a = 1 ∨ a = 2 ∨ a = 3) := fun h' => h (hb.2 h')
    refine Ev.ite (fun h6 => j1 _ h0 (by simp [h6])) (fun h6 => ?_)
    refine Ev.ite (fun h7 => j1 _ h0 (by simp [h7])) (fun h7 => j1 _ h0 (by simp [h6, h7]))
  refine Ev.ite (fun h => j0 _ (by simp [h])) (fun h => ?_)
  refine Ev.ite (fun h1 => j0 _ (by simp [h1])) (fun h1 => ?_)
  refine Ev.ite (fun h2 => j0 _ (by simp [h2])) (fun h2 => j0 _ (by simp [h, h1, h2]))
def zeroC (c : Class) : Bool := c.f0 == 0 && c.f1 == 0 && c.f2 == 0 && c.f3 == 0
def ruleB (n : Node) (r : Int) : Bool := if n.f0 = 2 then decide (0 ≤ n.f2) && decide (n.f2 < r) else n.f2 == 0
def nameB (n : Node) : Bool := if n.f0 = 3 ∨ n.f0 = 8 then isName n.f3.data.toList && isOwn n.f3.data.toList else n.f3.data.toList == []
def cleanB (n : Node) (r : Int) : Bool := (n.f0 == 1 || zeroC n.f1) && ruleB n r && nameB n
def bodyB (r : Int) : List Node → Int → Bool
  | [], d => d == 1
  | n :: l, d => if ct n.f0 < 0 ∨ d < ct n.f0 ∨ cleanB n r = false then false else bodyB r l (d - ct n.f0 + 1)
/-- What a body that came in meets. -/
def FitN (n : Node) : Prop := n.f3.size ≤ 140737488351232
theorem clean_ev (n : Node) (r : Int) (h : FitN n) : Ev (fun k => dowelref09_clean.f k n.f0 n.f1.f0 n.f1.f1 n.f1.f2 n.f1.f3 n.f2 n.f3 r) (cleanB n r) := by
  unfold dowelref09_clean.f
  have j2 : ∀ b : Bool, (b = true ↔ (n.f0 = 3 ∨ n.f0 = 8)) → Ev (fun k => dowelref09_clean.j2 k b n.f0 n.f1.f0 n.f1.f1 n.f1.f2 n.f1.f3 n.f2 n.f3) (nameB n) := by
    intro b hb
    refine Ev.step (fun _ => by rw [dowelref09_clean.j2]) ?_
    unfold nameB
    refine Ev.ite (fun h1 => ?_) (fun h1 => ?_)
    · rw [if_pos (hb.1 h1)]
      refine Ev.bind (refName_ev _ h) ?_
      refine Ev.ite (fun h2 => ?_) (fun h2 => ?_)
      · refine Ev.bind (own_ev _ h) ?_
        exact Ev.some_ (by simp [h2])
      · exact Ev.some_ (by simp [h2])
    · rw [if_neg (fun h' => h1 (hb.2 h'))]
      exact Ev.some_ (by rw [ByteArray.toList_eq])
  have j1 : ∀ b : Bool, (b = true ↔ ruleB n r = false) → Ev (fun k => dowelref09_clean.j1 k b n.f0 n.f1.f0 n.f1.f1 n.f1.f2 n.f1.f3 n.f2 n.f3) (ruleB n r && nameB n) := by
    intro b hb
    refine Ev.step (fun _ => by rw [dowelref09_clean.j1]) ?_
    refine Ev.ite (fun h1 => Ev.some_ (by rw [hb.1 h1]; rfl)) (fun h1 => ?_)
    have : ruleB n r = true := by
      cases hr : ruleB n r with
      | true => rfl
      | false => exact absurd (hb.2 hr) h1
    rw [this, Bool.true_and]
    exact Ev.ite (fun h3 => j2 _ (by simp [h3])) (fun h3 => j2 _ (by simp [h3]))
  have j0 : ∀ b : Bool, (b = true ↔ (n.f0 == 1 || zeroC n.f1) = false) → Ev (fun k => dowelref09_clean.j0 k r b n.f0 n.f1.f0 n.f1.f1 n.f1.f2 n.f1.f3 n.f2 n.f3) (cleanB n r) := by
    intro b hb
    refine Ev.step (fun _ => by rw [dowelref09_clean.j0]) ?_
    unfold cleanB
    refine Ev.ite (fun h1 => Ev.some_ (by rw [hb.1 h1]; rfl)) (fun h1 => ?_)
    have : (n.f0 == 1 || zeroC n.f1) = true := by
      cases hr : (n.f0 == 1 || zeroC n.f1) with
      | true => rfl
      | false => exact absurd (hb.2 hr) h1
    rw [this, Bool.true_and]
    refine Ev.ite (fun h2 => ?_) (fun h2 => ?_)
    · have hr : ruleB n r = (decide (0 ≤ n.f2) && decide (n.f2 < r)) := by rw [ruleB, if_pos h2]
      refine Ev.ite (fun h3 => j1 _ ?_) (fun h3 => Ev.ite (fun h4 => j1 _ ?_) (fun h4 => j1 _ ?_))
      · rw [hr]; simp; omega
      · rw [hr]; simp; omega
      · rw [hr]; simp; omega
    · have hr : ruleB n r = (n.f2 == 0) := by rw [ruleB, if_neg h2]
      exact j1 _ (by rw [hr]; simp)
  refine Ev.ite (fun h1 => j0 _ (by simp [h1])) (fun h1 => j0 _ ?_)
  simp only [zeroC]
  have h1' : (n.f0 == 1) = false := by simpa using h1
  rw [h1', Bool.false_or]
  cases h0 : (n.f1.f0 == 0) <;> cases h2 : (n.f1.f1 == 0) <;> cases h3 : (n.f1.f2 == 0) <;> cases h4 : (n.f1.f3 == 0) <;> simp
theorem rdN (l : List Node) (i : Nat) (h : i < l.length) : rd_T90 l (i : Int) = l[i] := by
  rw [rd_T90, Int.toNat_natCast, List.getD_eq_getElem?_getD, List.getElem?_eq_getElem h]
  rfl
theorem rdR (l : List Rule) (i : Nat) (h : i < l.length) : rd_T30 l (i : Int) = l[i] := by
  rw [rd_T30, Int.toNat_natCast, List.getD_eq_getElem?_getD, List.getElem?_eq_getElem h]
  rfl
theorem body_loop (l : List Node) (r : Int) (hl : l.length ≤ 140737488351232) (hf : ∀ n ∈ l, FitN n) : ∀ (d i : Nat) (deep : Int), i + d = l.length → 0 ≤ deep → deep ≤ i →
    Ev (fun k => dowelref09_body.l0 k l r deep (i : Int)) (bodyB r (l.drop i) deep) := by
  intro d
  induction d with
  | zero =>
    intro i deep hi h0 h1
    refine Ev.step (fun _ => by rw [dowelref09_body.l0]) ?_
    refine Ev.neg (by omega) ?_
    exact Ev.some_ (by rw [List.drop_of_length_le (by omega)]; rfl)
  | succ d ih =>
    intro i deep hi h0 h1
    have hlt : i < l.length := by omega
    refine Ev.step (fun _ => by rw [dowelref09_body.l0]) ?_
    refine Ev.pos (by omega) ?_
    refine Ev.pos (by omega) ?_
    rw [rdN l i hlt, List.drop_eq_getElem_cons hlt, bodyB]
    have hn := hf l[i] (List.getElem_mem _)
    generalize l[i] = n at *
    refine Ev.bind (count_ev _) ?_
    have hr := ct_range n.f0
    refine Ev.ite (fun h2 => Ev.some_ (by rw [if_pos (.inl h2)])) (fun h2 => ?_)
    refine Ev.ite (fun h3 => Ev.some_ (by rw [if_pos (.inr (.inl h3))])) (fun h3 => ?_)
    refine Ev.bind (clean_ev n r hn) ?_
    refine Ev.ite (fun h4 => ?_) (fun h4 => Ev.some_ (by rw [if_pos (.inr (.inr (by simpa using h4)))]))
    rw [if_neg (by rintro (h | h | h); exact h2 h; exact h3 h; rw [h4] at h; cases h)]
    have hw1 : wrap64 (deep - ct n.f0) = deep - ct n.f0 := by rw [w64] <;> omega
    have hw2 : wrap64 (deep - ct n.f0 + 1) = deep - ct n.f0 + 1 := by rw [w64] <;> omega
    have hw3 : wrap64 ((i : Int) + 1) = ((i + 1 : Nat) : Int) := by rw [w64] <;> omega
    rw [hw1, hw2, hw3]
    exact ih (i + 1) _ (by omega) (by omega) (by omega)
theorem body_ev (l : List Node) (r : Int) (hl : l.length ≤ 140737488351232) (hf : ∀ n ∈ l, FitN n) : Ev (fun k => dowelref09_body.f k l r) (bodyB r l 0) := by
  have := body_loop l r hl hf l.length 0 0 (by omega) (by omega) (by omega)
  rwa [List.drop_zero] at this
def sizeL : List Rule → Int
  | [] => 0
  | r :: l => r.f1.length + sizeL l
theorem sizeL_nonneg : ∀ l : List Rule, 0 ≤ sizeL l
  | [] => Int.le_refl _
  | r :: l => by
    have := sizeL_nonneg l
    rw [sizeL]
    omega
/-- What a core grammar that came in meets. -/
structure Fit (l : List Rule) : Prop where
  len : l.length ≤ 140737488351232
  body : ∀ r ∈ l, r.f0.size ≤ 140737488351232 ∧ r.f1.length ≤ 140737488351232 ∧ ∀ n ∈ r.f1, FitN n
theorem sizeL_le : ∀ l : List Rule, (∀ r ∈ l, r.f1.length ≤ 140737488351232) → sizeL l ≤ l.length * 140737488351232
  | [], _ => by simp [sizeL]
  | r :: l, h => by
    have := sizeL_le l (fun r hr => h r (List.mem_cons_of_mem _ hr))
    have := h r List.mem_cons_self
    rw [sizeL, List.length_cons]
    omega
theorem Fit.size {l : List Rule} (hf : Fit l) (h : l.length ≤ 65536) : sizeL l ≤ 9223372036854775807 := by
  have := sizeL_le l (fun r hr => (hf.body r hr).2.1)
  omega
theorem size_loop (l : List Rule) (st : Int) (hf : Fit l) (hs : l.length ≤ 65536) : ∀ (d i : Nat) (acc : Int), i + d = l.length → acc + sizeL (l.drop i) = sizeL l → 0 ≤ acc →
    Ev (fun k => dowelref09_Size.l0 k acc (i : Int) l st) (sizeL l) := by
  intro d
  induction d with
  | zero =>
    intro i acc hi ha h0
    refine Ev.step (fun _ => by rw [dowelref09_Size.l0]) ?_
    refine Ev.neg (by omega) ?_
    rw [List.drop_of_length_le (by omega)] at ha
    simp only [sizeL] at ha
    exact Ev.some_ (by omega)
  | succ d ih =>
    intro i acc hi ha h0
    have hlt : i < l.length := by omega
    refine Ev.step (fun _ => by rw [dowelref09_Size.l0]) ?_
    refine Ev.pos (by omega) ?_
    refine Ev.pos (by omega) ?_
    rw [rdR l i hlt]
    rw [List.drop_eq_getElem_cons hlt, sizeL] at ha
    have := hf.len
    have := hf.size hs
    have := sizeL_nonneg (l.drop (i + 1))
    have hw1 : wrap64 (acc + (l[i].f1.length : Int)) = acc + (l[i].f1.length : Int) := by rw [w64] <;> omega
    have hw3 : wrap64 ((i : Int) + 1) = ((i + 1 : Nat) : Int) := by rw [w64] <;> omega
    rw [hw1, hw3]
    exact ih (i + 1) _ (by omega) (by omega) (by omega)
theorem size_ev (l : List Rule) (st : Int) (hf : Fit l) (hs : l.length ≤ 65536) : Ev (fun k => dowelref09_Size.f k l st) (sizeL l) := size_loop l st hf hs l.length 0 0 (by omega) (by simp) (by omega)
def nm (l : List Rule) (i : Nat) : List UInt8 := (l.getD i zRule).f0.data.toList
def okAt (l : List Rule) (i : Nat) : Bool := isName (nm l i) && bodyB l.length (l.getD i zRule).f1 0 && allFrom (fun k => nm l k != nm l i) i 0
def boundsB (l : List Rule) (st : Int) : Bool := decide (1 ≤ l.length) && decide (l.length ≤ 256) && decide (0 ≤ st) && decide (st < l.length) && decide (sizeL l ≤ 16384)
def checkB (l : List Rule) (st : Int) : Bool := boundsB l st && allFrom (okAt l) l.length 0
theorem getD_at (l : List Rule) (i : Nat) (h : i < l.length) : l.getD i zRule = l[i] := by
  rw [List.getD_eq_getElem?_getD, List.getElem?_eq_getElem h]
  rfl
/-- The loops of dowelref09.Check. -/
theorem check_loop (l : List Rule) (st : Int) (hf : Fit l) : ∀ (d i : Nat), i + d = l.length → Ev (fun k => dowelref09_Check.l0 k (i : Int) l st) (if allFrom (okAt l) d i then 0 else 6) := by
  intro d
  induction d with
  | zero =>
    intro i hi
    refine Ev.step (fun _ => by rw [dowelref09_Check.l0]) ?_
    refine Ev.neg (by omega) ?_
    exact Ev.some_ (by simp [allFrom])
  | succ d ih =>
    intro i hi
    have hlt : i < l.length := by omega
    refine Ev.step (fun _ => by rw [dowelref09_Check.l0]) ?_
    refine Ev.pos (by omega) ?_
    refine Ev.pos (by omega) ?_
    rw [rdR l i hlt, allFrom]
    have hb := hf.body l[i] (List.getElem_mem _)
    have hnm : nm l i = l[i].f0.data.toList := by rw [nm, getD_at l i hlt]
    have hbd : (l.getD i zRule).f1 = l[i].f1 := by rw [getD_at l i hlt]
    have hlen := hf.len
    have inner : ∀ (e j : Nat), j + e = i → Ev (fun k => dowelref09_Check.l1 k (i : Int) (j : Int) l st) (if allFrom (fun k => nm l k != nm l i) e j && allFrom (okAt l) d (i + 1) then 0 else 6) := by
      intro e
      induction e with
      | zero =>
        intro j hj
        refine Ev.step (fun _ => by rw [dowelref09_Check.l1]) ?_
        refine Ev.neg (by omega) ?_
        have hw3 : wrap64 ((i : Int) + 1) = ((i + 1 : Nat) : Int) := by rw [w64] <;> omega
        rw [hw3, allFrom, Bool.true_and]
        exact ih (i + 1) (by omega)
      | succ e ihe =>
        intro j hj
        refine Ev.step (fun _ => by rw [dowelref09_Check.l1]) ?_
        refine Ev.pos (by omega) ?_
        refine Ev.pos (by omega) ?_
        refine Ev.pos (by omega) ?_
        refine Ev.pos (by omega) ?_
        refine Ev.pos (by omega) ?_
        rw [rdR l j (by omega), rdR l i hlt, allFrom, ByteArray.toList_eq, ByteArray.toList_eq]
        have hnj : nm l j = l[j].f0.data.toList := by rw [nm, getD_at l j (by omega)]
        rw [← hnm, ← hnj]
        refine Ev.ite (fun h => Ev.some_ (by simp [h])) (fun h => ?_)
        have hw3 : wrap64 ((j : Int) + 1) = ((j + 1 : Nat) : Int) := by rw [w64] <;> omega
        rw [hw3]
        refine (ihe (j + 1) (by omega)).to ?_
        have : (nm l j != nm l i) = true := by simpa using h
        rw [this, Bool.true_and]
    have j2 : ∀ b : Bool, (b = true ↔ (isName (nm l i) && bodyB l.length (l.getD i zRule).f1 0) = false) → Ev (fun k => dowelref09_Check.j2 k (i : Int) b l st) (if okAt l i && allFrom (okAt l) d (i + 1) then 0 else 6) := by
      intro b hb
      refine Ev.step (fun _ => by rw [dowelref09_Check.j2]) ?_
      refine Ev.ite (fun h => Ev.some_ (by rw [okAt, hb.1 h]; rfl)) (fun h => ?_)
      have : (isName (nm l i) && bodyB l.length (l.getD i zRule).f1 0) = true := by
        cases hr : (isName (nm l i) && bodyB l.length (l.getD i zRule).f1 0) with
        | true => rfl
        | false => exact absurd (hb.2 hr) h
      rw [okAt, this, Bool.true_and]
      exact inner i 0 (by omega)
    refine Ev.bind (refName_ev _ hb.1) ?_
    rw [← hnm]
    refine Ev.ite (fun h => ?_) (fun h => j2 _ (by simp [h]))
    refine Ev.bind (body_ev _ _ hb.2.1 hb.2.2) ?_
    exact j2 _ (by rw [h, hbd]; simp)
theorem check_ev (l : List Rule) (st : Int) (hf : Fit l) : Ev (fun k => dowelref09_Check.f k l st) (if checkB l st then 0 else 6) := by
  unfold dowelref09_Check.f
  have j0 : ∀ b : Bool, (b = true ↔ boundsB l st = false) → Ev (fun k => dowelref09_Check.j0 k b l st) (if checkB l st then 0 else 6) := by
    intro b hb
    refine Ev.step (fun _ => by rw [dowelref09_Check.j0]) ?_
    refine Ev.ite (fun h => Ev.some_ (by rw [checkB, hb.1 h]; rfl)) (fun h => ?_)
    have : boundsB l st = true := by
      cases hr : boundsB l st with
      | true => rfl
      | false => exact absurd (hb.2 hr) h
    rw [checkB, this, Bool.true_and]
    exact check_loop l st hf l.length 0 (by omega)
  have e : boundsB l st = (decide (1 ≤ l.length) && decide (l.length ≤ 256) && decide (0 ≤ st) && decide (st < l.length) && decide (sizeL l ≤ 16384)) := rfl
  refine Ev.ite (fun h => j0 _ (by rw [e, decide_eq_false (show ¬ 1 ≤ l.length by omega)]; simp)) (fun h => ?_)
  refine Ev.ite (fun h1 => j0 _ (by rw [e, decide_eq_false (show ¬ l.length ≤ 256 by omega)]; simp)) (fun h1 => ?_)
  refine Ev.ite (fun h2 => j0 _ (by rw [e, decide_eq_false (show ¬ 0 ≤ st by omega)]; simp)) (fun h2 => ?_)
  refine Ev.ite (fun h3 => j0 _ (by rw [e, decide_eq_false (show ¬ st < l.length by omega)]; simp)) (fun h3 => ?_)
  refine Ev.bind (size_ev l st hf (by omega)) (j0 _ ?_)
  rw [e, decide_eq_true (show 1 ≤ l.length by omega), decide_eq_true (show l.length ≤ 256 by omega), decide_eq_true (show 0 ≤ st by omega), decide_eq_true (show st < l.length by omega)]
  simp
end Go.Proofs.Ytebiogaacikphaa.Core
end
section
namespace Go.Proofs.Ytebiogaacikphaa.Names
open Go.RowKit Go.Proofs.YtebiogaacikphaaW.PrintWords Go.Proofs.Ytebiogaacikphaa.PAll
set_option linter.unusedVariables false
theorem w64n (a b : Nat) (h : a + b ≤ 140737488351232) : wrap64 ((a : Int) + (b : Int)) = ((a + b : Nat) : Int) := by
  rw [w64] <;> omega
theorem lletter_some (a : Int) : lexis_letter.f a = some (letterI a) := by
  unfold lexis_letter.f letterI
  by_cases h1 : 97 ≤ a <;> by_cases h2 : a ≤ 122 <;> by_cases h3 : 65 ≤ a <;> by_cases h4 : a ≤ 90 <;> simp [h1, h2, h3, h4]
theorem ldigit_some (a : Int) : lexis_digit.f a = some (digitI a) := by
  unfold lexis_digit.f digitI
  by_cases h1 : 48 ≤ a <;> simp [h1]
theorem extract_list (s : ByteArray) (a : Nat) : (s.extract a s.size).data.toList = s.data.toList.drop a := by
  rw [ByteArray.data_extract, Array.toList_extract, size_list, List.extract_eq_take_drop]
  exact List.take_of_length_le (by rw [List.length_drop]; exact Nat.le_refl _)
theorem extract_front (s : ByteArray) (b : Nat) : (s.extract 0 b).data.toList = s.data.toList.take b := by
  rw [ByteArray.data_extract, Array.toList_extract]
  simp [List.extract]
/-- The loop of lexis.own, j bytes behind place i. -/
theorem lown_loop (s : ByteArray) (hs : s.data.toList.length ≤ 140737488351232) (i : Nat) (hi : i ≤ s.data.toList.length) : ∀ (d j : Nat), i + j + d = s.data.toList.length →
    Ev (fun k => lexis_own.l0 k s (i : Int) (j : Int)) (if j = 0 then (ownLen (s.data.toList.drop (i + j)) : Int) else ((j + run inName (s.data.toList.drop (i + j)) : Nat) : Int)) := by
  intro d
  induction d with
  | zero =>
    intro j hj
    refine Ev.step (fun _ => by rw [lexis_own.l0]) ?_
    have hw0 : wrap64 ((i : Int) + (j : Int)) = ((i + j : Nat) : Int) := by rw [w64] <;> omega
    rw [hw0]
    refine Ev.neg (by rw [size_list]; omega) ?_
    exact Ev.some_ (by rw [List.drop_of_length_le (by omega)]; simp [run, ownLen])
  | succ d ih =>
    intro j hj
    have hlt : i + j < s.data.toList.length := by omega
    refine Ev.step (fun _ => by rw [lexis_own.l0]) ?_
    have hw0 : wrap64 ((i : Int) + (j : Int)) = ((i + j : Nat) : Int) := by rw [w64] <;> omega
    have hw : wrap64 ((j : Int) + 1) = ((j + 1 : Nat) : Int) := by rw [w64] <;> omega
    rw [hw0, hw]
    refine Ev.pos (by rw [size_list]; omega) ?_
    refine Ev.pos (by omega) ?_
    refine Ev.bind (Ev.const (lletter_some _)) ?_
    have hn := ih (j + 1) (by omega)
    rw [if_neg (by omega), show i + (j + 1) = i + j + 1 by omega] at hn
    rw [bt_nat s (i + j) hlt, drop_at hlt]
    generalize s.data.toList[i + j] = c
    have hin : inName c = (letterI c.toNat || digitI c.toNat) := rfl
    have hc : letter c = letterI c.toNat := rfl
    refine Ev.ite (fun h => ?_) (fun h => ?_)
    · refine hn.to ?_
      rw [ownLen, run, hin, hc, h]
      simp
      split <;> omega
    · refine Ev.ite (fun h0 => ?_) (fun h0 => ?_)
      · refine Ev.bind (Ev.const (ldigit_some _)) ?_
        refine Ev.ite (fun h' => ?_) (fun h' => ?_)
        · exact hn.to (by rw [if_neg (by omega), run, hin, h', if_pos (by simp)]; omega)
        · exact Ev.some_ (by rw [if_neg (by omega), run, hin, if_neg (by simp [h, h'])]; rfl)
      · exact Ev.some_ (by rw [if_pos (by omega), ownLen, hc, if_neg h]; omega)
theorem lown_ev (s : ByteArray) (hs : s.data.toList.length ≤ 140737488351232) (i : Nat) (hi : i ≤ s.data.toList.length) : Ev (fun k => lexis_own.f k s (i : Int)) (ownLen (s.data.toList.drop i) : Int) := by
  have := lown_loop s hs i hi (s.data.toList.length - i) 0 (by omega)
  rw [if_pos rfl] at this
  exact this
theorem ldigits_ev (s : ByteArray) (hs : s.data.toList.length ≤ 140737488351232) (r : List UInt8) (c0 : UInt8) (hr : s.data.toList = c0 :: r) (v : Int) (hv : ∀ e : Int, e = ((1 + run digit r : Nat) : Int) → Ev (fun k => if e = 1 then some 0 else if e > 6 then some 0 else if 1 < (s.size : Int) then (if bt s 1 = 48 then some 0 else some e) else none) v) : ∀ (d i : Nat), i + d = s.data.toList.length → 1 ≤ i → i + run digit (s.data.toList.drop i) = 1 + run digit r →
    Ev (fun k => lexis_numbered.l0 k s (i : Int)) v := by
  intro d
  induction d with
  | zero =>
    intro i hi h1 he
    refine Ev.step (fun _ => by rw [lexis_numbered.l0]) ?_
    refine Ev.neg (by rw [size_list]; omega) ?_
    rw [List.drop_of_length_le (by omega)] at he
    exact hv _ (by simp [run] at he; omega)
  | succ d ih =>
    intro i hi h1 he
    have hlt : i < s.data.toList.length := by omega
    refine Ev.step (fun _ => by rw [lexis_numbered.l0]) ?_
    refine Ev.pos (by rw [size_list]; omega) ?_
    refine Ev.pos (by omega) ?_
    refine Ev.bind (Ev.const (ldigit_some _)) ?_
    have hw : wrap64 ((i : Int) + 1) = ((i + 1 : Nat) : Int) := by rw [w64] <;> omega
    have hn := ih (i + 1) (by omega) (by omega)
    rw [hw, bt_nat s i hlt]
    rw [drop_at hlt] at he
    generalize s.data.toList[i] = c at *
    have hin : digit c = digitI c.toNat := rfl
    refine Ev.ite (fun h => ?_) (fun h => ?_)
    · refine hn ?_
      rw [run, hin, h, if_pos rfl] at he
      omega
    · refine hv _ ?_
      rw [run, hin, if_neg h] at he
      omega
theorem lnumbered_ev (s : ByteArray) (hs : s.data.toList.length ≤ 140737488351232) : Ev (fun k => lexis_numbered.f k s) (tilde s.data.toList : Int) := by
  unfold lexis_numbered.f
  rw [ByteArray.toList_eq]
  refine Ev.ite (fun h => ?_) (fun h => ?_)
  · refine Ev.step (fun _ => by rw [lexis_numbered.j0]) ?_
    exact Ev.pos rfl (Ev.some_ (by rw [h]; rfl))
  · have h0 : 0 < s.data.toList.length := by
      cases hl : s.data.toList with
      | nil => exact absurd hl h
      | cons a b => simp
    refine Ev.pos (by rw [size_list]; omega) ?_
    refine Ev.step (fun _ => by rw [lexis_numbered.j0]) ?_
    have hc : ∃ c r, s.data.toList = c :: r := by
      cases hl : s.data.toList with
      | nil => exact absurd hl h
      | cons a b => exact ⟨a, b, rfl⟩
    obtain ⟨c, r, hr⟩ := hc
    have hb0 : bt s 0 = (c.toNat : Int) := by
      have := bt_nat s 0 h0
      rw [show ((0 : Nat) : Int) = 0 from rfl] at this
      rw [this]
      simp [hr]
    rw [hb0]
    have e126 : ((c.toNat : Int) != 126) = (c != 126) := by
      rw [bne, bne, beq126]
    rw [e126]
    refine Ev.ite (fun h1 => ?_) (fun h1 => ?_)
    · have h1' : c ≠ 126 := by simpa using h1
      refine Ev.some_ ?_
      rw [hr]
      have : tilde (c :: r) = 0 := by
        unfold tilde
        split
        · rename_i heq
          injection heq with h2 _
          exact absurd h2 h1'
        · rfl
      rw [this]
      rfl
    · have h1' : c = 126 := by simpa using h1
      subst h1'
      have hlen : s.data.toList.length = r.length + 1 := by rw [hr, List.length_cons]
      refine ldigits_ev s hs r 126 hr _ (fun e he => ?_) (s.data.toList.length - 1) 1 (by omega) (by omega) (by rw [hr]; rfl)
      rw [hr, tilde_126]
      refine Ev.ite (fun h2 => Ev.some_ (by rw [if_pos (.inl (by omega))]; rfl)) (fun h2 => ?_)
      refine Ev.ite (fun h3 => Ev.some_ (by rw [if_pos (.inr (.inl (by omega)))]; rfl)) (fun h3 => ?_)
      have hne : run digit r ≠ 0 := by omega
      have hl1 : 1 < s.data.toList.length := by
        cases r with
        | nil => exact absurd rfl hne
        | cons a b => rw [hlen]; simp
      refine Ev.pos (by rw [size_list]; omega) ?_
      have hb1 := bt_nat s 1 hl1
      rw [show ((1 : Nat) : Int) = 1 from rfl] at hb1
      rw [hb1]
      have hh : r.head? = some s.data.toList[1] := by
        cases r with
        | nil => exact absurd rfl hne
        | cons a b => simp [hr]
      rw [hh]
      generalize s.data.toList[1] = q
      refine Ev.ite (fun h4 => Ev.some_ (by rw [if_pos (.inr (.inr (by rw [(@byte_eq q 48 (by omega)).1 h4]; rfl)))]; rfl)) (fun h4 => ?_)
      have h4' : ¬ q = 48 := fun h => h4 ((@byte_eq q 48 (by omega)).2 h)
      exact Ev.some_ (by rw [if_neg (by rintro (h | h | h); exact hne h; omega; exact h4' (Option.some.inj h))]; omega)
theorem hasPrefix_some (a0 a1 : ByteArray) : strings_HasPrefix.f a0 a1 = some (a1.data.toList.isPrefixOf a0.data.toList) := by
  unfold strings_HasPrefix.f stringslite_HasPrefix.f
  have key : a1.data.toList.isPrefixOf a0.data.toList = (decide (a1.size ≤ a0.size) && (a0.data.toList.take a1.size == a1.data.toList)) := by
    rw [Bool.eq_iff_iff, List.isPrefixOf_iff_prefix]
    simp only [Bool.and_eq_true, decide_eq_true_eq, beq_iff_eq]
    rw [size_list, size_list]
    constructor
    · intro h
      exact ⟨h.length_le, (List.prefix_iff_eq_take.1 h).symm⟩
    · rintro ⟨_, h⟩
      rw [← h]
      exact List.take_prefix _ _
  rw [key]
  by_cases h : a1.size ≤ a0.size
  · rw [if_pos (by omega), if_pos (by omega), if_pos (by omega), Option.bind_some, Int.toNat_natCast, ByteArray.toList_eq, ByteArray.toList_eq, extract_front, decide_eq_true h, Bool.true_and]
  · rw [if_neg (by omega), Option.bind_some, decide_eq_false h, Bool.false_and]
theorem more_of (r : List UInt8) : ([58, 58] : List UInt8).isPrefixOf r = true → ∃ r', r = 58 :: 58 :: r' := by
  intro h
  obtain ⟨t, rfl⟩ := List.isPrefixOf_iff_prefix.1 h
  exact ⟨t, rfl⟩
theorem more_not (r : List UInt8) (h : ¬ ([58, 58] : List UInt8).isPrefixOf r = true) : more r = 0 := by
  unfold more
  split
  · exact absurd (by simp [List.isPrefixOf]) h
  · rfl
theorem lnamed_ev (s : ByteArray) (hs : s.data.toList.length ≤ 140737488351232) (i : Nat) (hi : i ≤ s.data.toList.length) : Ev (fun k => lexis_named.f k s (i : Int)) (namedLen (s.data.toList.drop i) : Int) := by
  unfold lexis_named.f
  refine Ev.bind (lown_ev s hs i hi) ?_
  have hle := ownLen_le (s.data.toList.drop i)
  rw [List.length_drop] at hle
  refine Ev.ite (fun h => Ev.some_ (by rw [namedLen, if_pos (by omega)]; rfl)) (fun h => ?_)
  have h0 : ownLen (s.data.toList.drop i) ≠ 0 := by omega
  have hnl : namedLen (s.data.toList.drop i) = (ownLen (s.data.toList.drop i) + more (s.data.toList.drop (i + ownLen (s.data.toList.drop i)))) + tilde (s.data.toList.drop (i + (ownLen (s.data.toList.drop i) + more (s.data.toList.drop (i + ownLen (s.data.toList.drop i)))))) := by
    rw [namedLen, if_neg h0]
    simp only [List.drop_drop]
  rw [hnl]
  clear hnl h
  generalize ownLen (s.data.toList.drop i) = n at *
  have hw : wrap64 ((i : Int) + (n : Int)) = ((i + n : Nat) : Int) := by rw [w64] <;> omega
  rw [hw]
  refine Ev.pos (by omega) ?_
  refine Ev.pos (by rw [size_list]; omega) ?_
  rw [Int.toNat_natCast]
  have num : ∀ q : Nat, q ≤ s.data.toList.length → Ev (fun k => lexis_numbered.f k (s.extract q s.size)) (tilde (s.data.toList.drop q) : Int) := by
    intro q hq
    have := lnumbered_ev (s.extract q s.size) (by rw [extract_list, List.length_drop]; omega)
    rwa [extract_list] at this
  have tl : ∀ q : Nat, tilde (s.data.toList.drop q) ≤ 140737488351232 := fun q => by
    have := tilde_le (s.data.toList.drop q)
    rw [List.length_drop] at this
    omega
  have flat : more (s.data.toList.drop (i + n)) = 0 → Ev (fun k => (lexis_numbered.f k (s.extract (i + n) s.size)).bind fun t => some (wrap64 ((n : Int) + t))) (((n + more (s.data.toList.drop (i + n))) + tilde (s.data.toList.drop (i + (n + more (s.data.toList.drop (i + n))))) : Nat) : Int) := by
    intro hm
    rw [hm, Nat.add_zero]
    refine Ev.bind (num (i + n) (by omega)) (Ev.some_ ?_)
    have := tl (i + n)
    rw [w64] <;> omega
  refine Ev.bind (Ev.const (hasPrefix_some _ _)) ?_
  rw [extract_list]
  refine Ev.ite (fun h1 => ?_) (fun h1 => flat (more_not _ h1))
  obtain ⟨r, hr⟩ := more_of _ h1
  have hl : i + n + 2 ≤ s.data.toList.length := by
    have := congrArg List.length hr
    simp only [List.length_drop, List.length_cons] at this
    omega
  have hw2 : wrap64 (((i + n : Nat) : Int) + 2) = ((i + n + 2 : Nat) : Int) := by rw [w64] <;> omega
  rw [hw2]
  have hr2 : s.data.toList.drop (i + n + 2) = r := by rw [← List.drop_drop, hr]; rfl
  have ho := lown_ev s hs (i + n + 2) hl
  rw [hr2] at ho
  have hle2 := ownLen_le r
  have hrl : r.length = s.data.toList.length - (i + n + 2) := by rw [← hr2, List.length_drop]
  have hm : more (s.data.toList.drop (i + n)) = if ownLen r = 0 then 0 else ownLen r + 2 := by rw [hr, more]
  refine Ev.bind ho ?_
  refine Ev.ite (fun h2 => ?_) (fun h2 => flat (by rw [hm, if_pos (by omega)]))
  rw [hm, if_neg (by omega)]
  generalize ownLen r = m at *
  have e0 : wrap64 (2 + (m : Int)) = ((m + 2 : Nat) : Int) := by rw [w64] <;> omega
  have hbnd : i + (n + (m + 2)) ≤ s.data.toList.length := by clear hm ho; omega
  have e1 : wrap64 ((n : Int) + ((m + 2 : Nat) : Int)) = ((n + (m + 2) : Nat) : Int) := w64n _ _ (by clear hm ho; omega)
  have e2 : wrap64 ((i : Int) + ((n + (m + 2) : Nat) : Int)) = ((i + (n + (m + 2)) : Nat) : Int) := w64n _ _ (by clear hm ho; omega)
  rw [e0, e1, e2]
  clear hm ho hr hr2 hw2 hw e0 e1 e2 hle hrl hle2 h2 flat h1
  refine Ev.pos (Int.natCast_nonneg _) ?_
  refine Ev.pos (by rw [size_list]; exact Int.ofNat_le.2 hbnd) ?_
  rw [Int.toNat_natCast]
  refine Ev.bind (num (i + (n + (m + 2))) hbnd) (Ev.some_ ?_)
  have ht := tilde_le (s.data.toList.drop (i + (n + (m + 2))))
  rw [List.length_drop] at ht
  exact w64n _ _ (by omega)
theorem lexName_ev (s : ByteArray) (hs : s.size ≤ 140737488351232) : Ev (fun k => lexis_Name.f k s) (isName s.data.toList) := by
  rw [size_list] at hs
  unfold lexis_Name.f isName
  rw [ByteArray.toList_eq, size_list]
  refine Ev.ite (fun h => ?_) (fun h => ?_)
  · exact Ev.some_ (by simp [h])
  · refine Ev.ite (fun h1 => ?_) (fun h1 => ?_)
    · refine Ev.bind (lnamed_ev s hs 0 (Nat.zero_le _)) ?_
      refine Ev.some_ ?_
      rw [List.drop_zero, Bool.eq_iff_iff, beq_iff_eq]
      simp only [Bool.and_eq_true, decide_eq_true_eq]
      constructor
      · intro h2
        exact ⟨⟨h, by omega⟩, by omega⟩
      · intro h2
        omega
    · refine Ev.some_ ?_
      rw [decide_eq_false (show ¬ s.data.toList.length ≤ 64 by omega), Bool.and_false, Bool.false_and]
end Go.Proofs.Ytebiogaacikphaa.Names
end
section
namespace Go.Proofs.Ytebiogaacikphaa.Names
open Go.RowKit Go.Proofs.YtebiogaacikphaaW.PrintWords Go.Proofs.Ytebiogaacikphaa.PAll
set_option linter.unusedVariables false
/-- A byte that may stand in a name. -/
def nameByte (b : UInt8) : Bool := inName b || b == 58 || b == 126
theorem run_all (p : UInt8 → Bool) : ∀ l : List UInt8, ∀ b ∈ l.take (run p l), p b = true
  | [], b, h => by simp at h
  | c :: r, b, h => by
    rw [run] at h
    split at h
    · rename_i hc
      rw [List.take_succ_cons] at h
      rcases List.mem_cons.1 h with rfl | h
      · exact hc
      · exact run_all p r b h
    · simp at h
theorem ownLen_all : ∀ l : List UInt8, ∀ b ∈ l.take (ownLen l), inName b = true
  | [], b, h => by simp at h
  | c :: r, b, h => by
    rw [ownLen] at h
    split at h
    · rename_i hc
      rw [List.take_succ_cons] at h
      rcases List.mem_cons.1 h with rfl | h
      · rw [inName, hc, Bool.true_or]
      · exact run_all _ r b h
    · simp at h
theorem digit_in {b : UInt8} (h : digit b = true) : nameByte b = true := by rw [nameByte, inName, h, Bool.or_true, Bool.true_or, Bool.true_or]
theorem more_all (l : List UInt8) : ∀ b ∈ l.take (more l), nameByte b = true := by
  intro b h
  unfold more at h
  split at h
  · rename_i r
    split at h
    · simp at h
    · rw [List.take_succ_cons, List.take_succ_cons] at h
      rcases List.mem_cons.1 h with rfl | h
      · rfl
      rcases List.mem_cons.1 h with rfl | h
      · rfl
      rw [nameByte, ownLen_all r b h]
      rfl
  · simp at h
theorem tilde_all (l : List UInt8) : ∀ b ∈ l.take (tilde l), nameByte b = true := by
  intro b h
  unfold tilde at h
  split at h
  · rename_i r
    split at h
    · simp at h
    · rw [List.take_succ_cons] at h
      rcases List.mem_cons.1 h with rfl | h
      · rfl
      exact digit_in (run_all digit r b h)
  · simp at h
theorem named_all (l : List UInt8) : ∀ b ∈ l.take (namedLen l), nameByte b = true := by
  intro b h
  unfold namedLen at h
  split at h
  · simp at h
  rw [List.take_add, List.take_add, List.mem_append, List.mem_append] at h
  rcases h with (h | h) | h
  · rw [nameByte, ownLen_all _ b h]
    rfl
  · exact more_all _ b h
  · exact tilde_all _ b h
theorem isName_all {l : List UInt8} (h : isName l = true) : l.length ≤ 64 ∧ ∀ b ∈ l, nameByte b = true := by
  unfold isName at h
  simp only [Bool.and_eq_true, decide_eq_true_eq] at h
  refine ⟨h.1.2, fun b hb => named_all l b ?_⟩
  rw [h.2, List.take_of_length_le (Nat.le_refl _)]
  exact hb
theorem nameByte_ascii {b : UInt8} (h : nameByte b = true) : b.toNat < 128 := by
  have h1 : b = 58 → b.toNat < 128 := by rintro rfl; decide
  have h2 : b = 126 → b.toNat < 128 := by rintro rfl; decide
  unfold nameByte inName letter digit letterI digitI at h
  simp only [Bool.or_eq_true, Bool.and_eq_true, decide_eq_true_eq, beq_iff_eq] at h
  rcases h with (((h | h) | h) | h) | h
  · rcases h with h | h <;> omega
  · omega
  · omega
  · exact h1 h
  · exact h2 h
theorem indexAny_own : ∀ l : List UInt8, decide (0 ≤ Lib.indexAny l [58, 126]) = !isOwn l
  | [] => rfl
  | c :: r => by
    have ih := indexAny_own r
    have hge := Lib.indexAny_ge [58, 126] r
    rw [Lib.indexAny, isOwn, List.all_cons]
    rw [isOwn] at ih
    by_cases h1 : c = 58
    · subst h1; simp
    by_cases h2 : c = 126
    · subst h2; simp
    have e : ([58, 126] : List UInt8).contains c = false := by simp [h1, h2]
    rw [e]
    simp only [Bool.false_eq_true, if_false, bne, beq_eq_false_iff_ne.2 h1, beq_eq_false_iff_ne.2 h2, Bool.not_false, Bool.true_and, Bool.and_self]
    simp only [bne] at ih
    rw [← ih]
    by_cases h3 : Lib.indexAny r [58, 126] = -1
    · simp [h3]
    · have h3' : (Lib.indexAny r [58, 126] == -1) = false := by simpa using h3
      rw [h3', if_neg (by simp), decide_eq_true (by omega), decide_eq_true (by omega)]
theorem containsAny_some (s : ByteArray) (h : isName s.data.toList = true) : strings_ContainsAny.f s (⟨#[58, 126]⟩ : ByteArray) = some (!isOwn s.data.toList) := by
  unfold strings_ContainsAny.f
  have ha := isName_all h
  rw [if_pos ⟨by rw [size_list]; omega, by decide, fun b hb => nameByte_ascii (ha.2 b hb), by decide⟩]
  rw [Lib.containsAny]
  exact congrArg some (indexAny_own _)
end Go.Proofs.Ytebiogaacikphaa.Names
namespace Go.Proofs.Ytebiogaacikphaa.Core
open Go.RowKit Go.Proofs.YtebiogaacikphaaW.PrintWords Go.Proofs.Ytebiogaacikphaa.PAll Go.Proofs.Ytebiogaacikphaa.Names
set_option linter.unusedVariables false
/-- How many parts a kind has, as the program counts it. -/
def ar (a : Int) : Int := if a = 4 ∨ a = 5 then 2 else if a = 6 ∨ a = 7 ∨ a = 8 then 1 else 0
theorem ar_ct (a : Int) (h : ct a ≠ -1) : ar a = ct a := by
  unfold ct at h ⊢
  unfold ar
  repeat' split
  all_goals first | rfl | omega
theorem ct_neg (a : Int) : ct a = -1 ↔ ¬ (0 ≤ a ∧ a ≤ 8) := by
  unfold ct
  constructor
  · intro h
    repeat' split at h
    all_goals omega
  · intro h
    rw [if_neg (by omega), if_neg (by omega), if_neg (by omega)]
theorem arity_ev (a : Int) : Ev (fun k => core_arity.f k a) (ar a) := by
  unfold core_arity.f
  have j0 : ∀ b : Bool, (b = true ↔ (a = 4 ∨ a = 5)) → Ev (fun k => core_arity.j0 k a b) (ar a) := by
    intro b hb
    refine Ev.step (fun _ => by rw [core_arity.j0]) ?_
    unfold ar
    refine Ev.ite (fun h => Ev.some_ (by rw [if_pos (hb.1 h)])) (fun h => ?_)
    rw [if_neg (fun h' => h (hb.2 h'))]
    refine Ev.ite (fun h => Ev.some_ (by rw [if_pos (.inl h)])) (fun h4 => ?_)
    refine Ev.ite (fun h => Ev.some_ (by rw [if_pos (.inr (.inl h))])) (fun h5 => ?_)
    exact Ev.ite (fun h => Ev.some_ (by rw [if_pos (.inr (.inr h))])) (fun h6 => Ev.some_ (by rw [if_neg (by omega)]))
  exact Ev.ite (fun h => j0 _ (by simp [h])) (fun h => j0 _ (by simp [h]))
/-- The kinds and the place of a node, as the program tests them. -/
theorem cleanB_1 (n : Node) (r : Int) (h : n.f0 = 1) : cleanB n r = (n.f2 == 0 && n.f3.data.toList == []) := by
  unfold cleanB ruleB nameB
  rw [h]
  simp
theorem cleanB_2 (n : Node) (r : Int) (h : n.f0 = 2) : cleanB n r = (zeroC n.f1 && (decide (0 ≤ n.f2) && decide (n.f2 < r)) && n.f3.data.toList == []) := by
  unfold cleanB ruleB nameB
  rw [h]
  simp
theorem cleanB_38 (n : Node) (r : Int) (h : n.f0 = 3 ∨ n.f0 = 8) : cleanB n r = (zeroC n.f1 && n.f2 == 0 && (isName n.f3.data.toList && isOwn n.f3.data.toList)) := by
  unfold cleanB ruleB nameB
  rcases h with h | h <;> rw [h] <;> simp
theorem cleanB_o (n : Node) (r : Int) (h1 : n.f0 ≠ 1) (h2 : n.f0 ≠ 2) (h : ¬ (n.f0 = 3 ∨ n.f0 = 8)) : cleanB n r = (zeroC n.f1 && n.f2 == 0 && n.f3.data.toList == []) := by
  unfold cleanB ruleB nameB
  rw [if_neg h2, if_neg h, show (n.f0 == 1) = false by simpa using h1, Bool.false_or]
theorem t1 : ∀ e f : Bool, (!true || (!e || !f)) = !(e && f) := by decide
theorem t2 : ∀ a b c d f : Bool, (!true || ((!a || (!b || (!c || !d))) || !f)) = !((a && b && c && d) && (true && true) && f) := by decide
theorem t3 : ∀ a b c d e : Bool, (!true || ((!a || (!b || (!c || !d))) || !e)) = !((a && b && c && d) && e && true) := by decide
theorem t4 : ∀ a b c d e f : Bool, (!true || ((!a || (!b || (!c || !d))) || (!e || !f))) = !((a && b && c && d) && e && f) := by decide
theorem nb {x : Bool} (h : (!x) = true) : x = false := by simpa using h
theorem nb' {x : Bool} (h : ¬ (!x) = true) : x = true := by simpa using h
theorem right_loop (l : List Node) (r : Int) (hl : l.length ≤ 140737488351232) (hf : ∀ n ∈ l, FitN n) : ∀ (d i : Nat) (deep : Int), i + d = l.length → 0 ≤ deep → deep ≤ i →
    Ev (fun k => core_right.l0 k r deep l (l.length : Int) (i : Int)) (bodyB r (l.drop i) deep) := by
  intro d
  induction d with
  | zero =>
    intro i deep hi h0 h1
    refine Ev.step (fun _ => by rw [core_right.l0]) ?_
    refine Ev.neg (by omega) ?_
    exact Ev.some_ (by rw [List.drop_of_length_le (by omega)]; rfl)
  | succ d ih =>
    intro i deep hi h0 h1
    have hlt : i < l.length := by omega
    refine Ev.step (fun _ => by rw [core_right.l0]) ?_
    refine Ev.pos (by omega) ?_
    refine Ev.pos (by omega) ?_
    refine Ev.pos (by omega) ?_
    rw [rdN l i hlt, List.drop_eq_getElem_cons hlt, bodyB]
    have hn := hf l[i] (List.getElem_mem _)
    generalize l[i] = n at *
    have har : 0 ≤ ar n.f0 ∧ ar n.f0 ≤ 2 := by unfold ar; repeat' split <;> omega
    have hct := ct_range n.f0
    have hcn := ct_neg n.f0
    have hac := ar_ct n.f0
    have hw3 : wrap64 ((i : Int) + 1) = ((i + 1 : Nat) : Int) := by rw [w64] <;> omega
    -- the joint: what is right so far is b
    have key : ∀ (t : Int) (b : Bool), t = ar n.f0 → (b = true ↔ (ct n.f0 ≠ -1 ∧ t ≤ deep)) →
        Ev (fun k => core_right.j1 k r deep t b l (l.length : Int) (i : Int) n.f0 n.f1.f0 n.f1.f1 n.f1.f2 n.f1.f3 n.f2 n.f3 n.f0 0 0 0 0 0 (⟨#[]⟩ : ByteArray)) (if ct n.f0 < 0 ∨ deep < ct n.f0 ∨ cleanB n r = false then false else bodyB r (l.drop (i + 1)) (deep - ct n.f0 + 1)) := by
      intro t b ht hb
      have hbad : b = false → (ct n.f0 < 0 ∨ deep < ct n.f0 ∨ cleanB n r = false) := by
        intro hbf
        have : ¬ (ct n.f0 ≠ -1 ∧ t ≤ deep) := fun h => by rw [hb.2 h] at hbf; cases hbf
        by_cases h1 : ct n.f0 = -1
        · exact .inl (by omega)
        · have := hac h1
          exact .inr (.inl (by omega))
      have hno : b = false → Ev (fun _ => some false) (if ct n.f0 < 0 ∨ deep < ct n.f0 ∨ cleanB n r = false then false else bodyB r (l.drop (i + 1)) (deep - ct n.f0 + 1)) := fun h => Ev.some_ (by rw [if_pos (hbad h)])
      have hun : cleanB n r = false → Ev (fun _ => some false) (if ct n.f0 < 0 ∨ deep < ct n.f0 ∨ cleanB n r = false then false else bodyB r (l.drop (i + 1)) (deep - ct n.f0 + 1)) := fun h => Ev.some_ (by rw [if_pos (.inr (.inr h))])
      have hgo : b = true → cleanB n r = true → Ev (fun k => core_right.l0 k r (wrap64 (deep + wrap64 (1 - t))) l (l.length : Int) (wrap64 ((i : Int) + 1))) (if ct n.f0 < 0 ∨ deep < ct n.f0 ∨ cleanB n r = false then false else bodyB r (l.drop (i + 1)) (deep - ct n.f0 + 1)) := by
        intro hbt hc
        have hb' := hb.1 hbt
        have e := hac hb'.1
        have hw1 : wrap64 (1 - t) = 1 - t := by rw [w64] <;> omega
        have hw2 : wrap64 (deep + (1 - t)) = deep - ct n.f0 + 1 := by rw [w64] <;> omega
        rw [hw1, hw2, hw3, if_neg (by rintro (h | h | h); omega; omega; rw [hc] at h; cases h)]
        exact ih (i + 1) _ (by omega) (by omega) (by omega)
      have ez : zeroC n.f1 = (n.f1.f0 == 0 && n.f1.f1 == 0 && n.f1.f2 == 0 && n.f1.f3 == 0) := rfl
      have e0 : (⟨#[]⟩ : ByteArray).toList = [] := by rw [ByteArray.toList_eq]
      refine Ev.step (fun _ => by rw [core_right.j1]) ?_
      rw [ByteArray.toList_eq n.f3, e0, show (n.f0 == n.f0) = true from beq_self_eq_true _]
      refine Ev.ite (fun k1 => ?_) (fun k1 => ?_)
      · have hc := cleanB_1 n r k1
        refine Ev.ite (fun hb1 => ?_) (fun hb1 => hno (by simpa using hb1))
        rw [t1]
        exact Ev.ite (fun h2 => hun (hc.trans (nb h2))) (fun h2 => hgo hb1 (hc.trans (nb' h2)))
      refine Ev.ite (fun k2 => ?_) (fun k2 => ?_)
      · have hc := cleanB_2 n r k2
        refine Ev.ite (fun hb1 => ?_) (fun hb1 => hno (by simpa using hb1))
        refine Ev.ite (fun h2 => ?_) (fun h2 => hun (by rw [hc, decide_eq_false (show ¬ 0 ≤ n.f2 by omega)]; simp))
        refine Ev.ite (fun h3 => ?_) (fun h3 => hun (by rw [hc, decide_eq_false (show ¬ n.f2 < r by omega)]; simp))
        rw [decide_eq_true (show 0 ≤ n.f2 from h2), decide_eq_true h3, ez] at hc
        rw [t2]
        exact Ev.ite (fun h2 => hun (hc.trans (nb h2))) (fun h2 => hgo hb1 (hc.trans (nb' h2)))
      have j2 : ∀ q : Bool, (q = true ↔ (n.f0 = 3 ∨ n.f0 = 8)) → Ev (fun k => core_right.j2 k r deep t b l (l.length : Int) (i : Int) q n.f0 n.f1.f0 n.f1.f1 n.f1.f2 n.f1.f3 n.f2 n.f3 n.f0 0 0 0 0 0 (⟨#[]⟩ : ByteArray)) (if ct n.f0 < 0 ∨ deep < ct n.f0 ∨ cleanB n r = false then false else bodyB r (l.drop (i + 1)) (deep - ct n.f0 + 1)) := by
        intro q hq
        refine Ev.step (fun _ => by rw [core_right.j2]) ?_
        rw [ByteArray.toList_eq n.f3, e0, show (n.f0 == n.f0) = true from beq_self_eq_true _]
        refine Ev.ite (fun k3 => ?_) (fun k3 => ?_)
        · have hc := cleanB_38 n r (hq.1 k3)
          refine Ev.ite (fun hb1 => ?_) (fun hb1 => hno (by simpa using hb1))
          refine Ev.bind (lexName_ev _ hn) ?_
          refine Ev.ite (fun h2 => ?_) (fun h2 => hun (by rw [hc, show isName n.f3.data.toList = false by simpa using h2]; simp))
          refine Ev.bind (Ev.const (containsAny_some _ h2)) ?_
          rw [h2, Bool.true_and] at hc
          refine Ev.ite (fun h3 => hun (by rw [hc, show isOwn n.f3.data.toList = false by simpa using h3]; simp)) (fun h3 => ?_)
          rw [show isOwn n.f3.data.toList = true by simpa using h3, ez] at hc
          rw [t3]
          exact Ev.ite (fun h2 => hun (hc.trans (nb h2))) (fun h2 => hgo hb1 (hc.trans (nb' h2)))
        · have hc := cleanB_o n r k1 k2 (fun h => k3 (hq.2 h))
          rw [ez] at hc
          refine Ev.ite (fun hb1 => ?_) (fun hb1 => hno (by simpa using hb1))
          rw [t4]
          exact Ev.ite (fun h2 => hun (hc.trans (nb h2))) (fun h2 => hgo hb1 (hc.trans (nb' h2)))
      refine Ev.ite (fun k3 => j2 _ (by simp [k3])) (fun k3 => j2 _ (by simp [k3]))
    refine Ev.bind (arity_ev _) ?_
    refine Ev.ite (fun h2 => ?_) (fun h2 => key _ _ rfl (by simp; intro _; omega))
    refine Ev.ite (fun h3 => key _ _ rfl ?_) (fun h3 => key _ _ rfl ?_)
    · simp only [decide_eq_true_eq, ne_eq, hcn]
      omega
    · simp only [Bool.false_eq_true, false_iff, ne_eq, hcn]
      omega
theorem right_ev (l : List Node) (r : Int) (hl : l.length ≤ 140737488351232) (hf : ∀ n ∈ l, FitN n) : Ev (fun k => core_right.f k l r) (bodyB r l 0) := by
  have := right_loop l r hl hf l.length 0 0 (by omega) (by omega) (by omega)
  rwa [List.drop_zero] at this
theorem csize_loop (l : List Rule) (hf : Fit l) (hs : l.length ≤ 65536) : ∀ (d i : Nat) (acc : Int), i + d = l.length → acc + sizeL (l.drop i) = sizeL l → 0 ≤ acc →
    Ev (fun k => core_Size.l0 k acc l (l.length : Int) (i : Int)) (sizeL l) := by
  intro d
  induction d with
  | zero =>
    intro i acc hi ha h0
    refine Ev.step (fun _ => by rw [core_Size.l0]) ?_
    refine Ev.neg (by omega) ?_
    rw [List.drop_of_length_le (by omega)] at ha
    simp only [sizeL] at ha
    exact Ev.some_ (by omega)
  | succ d ih =>
    intro i acc hi ha h0
    have hlt : i < l.length := by omega
    refine Ev.step (fun _ => by rw [core_Size.l0]) ?_
    refine Ev.pos (by omega) ?_
    refine Ev.pos (by omega) ?_
    refine Ev.pos (by omega) ?_
    rw [rdR l i hlt]
    rw [List.drop_eq_getElem_cons hlt, sizeL] at ha
    have := hf.len
    have := hf.size hs
    have := sizeL_nonneg (l.drop (i + 1))
    have hw1 : wrap64 (acc + (l[i].f1.length : Int)) = acc + (l[i].f1.length : Int) := by rw [w64] <;> omega
    have hw3 : wrap64 ((i : Int) + 1) = ((i + 1 : Nat) : Int) := by rw [w64] <;> omega
    rw [hw1, hw3]
    exact ih (i + 1) _ (by omega) (by omega) (by omega)
theorem csize_ev (l : List Rule) (st : Int) (hf : Fit l) (hs : l.length ≤ 65536) : Ev (fun k => core_Size.f k l st) (sizeL l) := csize_loop l hf hs l.length 0 0 (by omega) (by simp) (by omega)
theorem ccheck_loop (l : List Rule) (hf : Fit l) : ∀ (d i : Nat), i + d = l.length → Ev (fun k => core_Check.l0 k l (i : Int)) (if allFrom (okAt l) d i then 0 else 6) := by
  intro d
  induction d with
  | zero =>
    intro i hi
    refine Ev.step (fun _ => by rw [core_Check.l0]) ?_
    refine Ev.neg (by omega) ?_
    exact Ev.some_ (by simp [allFrom])
  | succ d ih =>
    intro i hi
    have hlt : i < l.length := by omega
    refine Ev.step (fun _ => by rw [core_Check.l0]) ?_
    refine Ev.pos (by omega) ?_
    refine Ev.pos (by omega) ?_
    rw [rdR l i hlt, allFrom, Int.toNat_natCast]
    have hb := hf.body l[i] (List.getElem_mem _)
    have hnm : nm l i = l[i].f0.data.toList := by rw [nm, getD_at l i hlt]
    have hbd : (l.getD i zRule).f1 = l[i].f1 := by rw [getD_at l i hlt]
    have hseen : allFrom (fun k => nm l k != nm l i) i 0 = !((l.take i).any fun r => r.f0.data.toList == l[i].f0.data.toList) := by
      rw [Bool.eq_iff_iff, allFrom_iff]
      simp only [Bool.not_eq_true', List.any_eq_false, bne_iff_ne, ne_eq, beq_iff_eq]
      rw [hnm]
      constructor
      · intro h r hr
        obtain ⟨j, hj, rfl⟩ := List.mem_iff_getElem.1 hr
        rw [List.length_take] at hj
        have := h j (by omega) (by omega)
        rw [nm, getD_at l j (by omega)] at this
        rwa [List.getElem_take]
      · intro h j _ hj
        rw [nm, getD_at l j (by omega)]
        exact h _ (List.mem_iff_getElem.2 ⟨j, by rw [List.length_take]; omega, List.getElem_take ..⟩)
    refine Ev.ite (fun h => Ev.some_ (by rw [okAt, hseen, h]; simp)) (fun h => ?_)
    have h' : ((l.take i).any fun r => r.f0.data.toList == l[i].f0.data.toList) = false := by simpa using h
    refine Ev.bind (lexName_ev _ hb.1) ?_
    rw [← hnm]
    refine Ev.ite (fun h2 => ?_) (fun h2 => Ev.some_ (by rw [okAt, show isName (nm l i) = false by simpa using h2]; simp))
    refine Ev.bind (right_ev _ _ hb.2.1 hb.2.2) ?_
    refine Ev.ite (fun h3 => ?_) (fun h3 => Ev.some_ (by rw [okAt, hbd, show bodyB (l.length : Int) l[i].f1 0 = false by simpa using h3]; simp))
    refine (ih (i + 1) (by omega)).to ?_
    rw [okAt, hbd, h2, h3, hseen, h']
    simp
theorem ccheck_ev (l : List Rule) (st : Int) (hf : Fit l) : Ev (fun k => core_Check.f k l st) (if checkB l st then 0 else 6) := by
  unfold core_Check.f
  have e : boundsB l st = (decide (1 ≤ l.length) && decide (l.length ≤ 256) && decide (0 ≤ st) && decide (st < l.length) && decide (sizeL l ≤ 16384)) := rfl
  refine Ev.ite (fun h => Ev.some_ (by rw [checkB, e, decide_eq_false (show ¬ 1 ≤ l.length by omega)]; simp)) (fun h => ?_)
  refine Ev.ite (fun h1 => Ev.some_ (by rw [checkB, e, decide_eq_false (show ¬ l.length ≤ 256 by omega)]; simp)) (fun h1 => ?_)
  refine Ev.ite (fun h2 => Ev.some_ (by rw [checkB, e, decide_eq_false (show ¬ 0 ≤ st by omega)]; simp)) (fun h2 => ?_)
  refine Ev.ite (fun h3 => Ev.some_ (by rw [checkB, e, decide_eq_false (show ¬ st < l.length by omega)]; simp)) (fun h3 => ?_)
  refine Ev.bind (csize_ev l st hf (by omega)) ?_
  refine Ev.ite (fun h4 => Ev.some_ (by rw [checkB, e, decide_eq_false (show ¬ sizeL l ≤ 16384 by omega)]; simp)) (fun h4 => ?_)
  have hb : boundsB l st = true := by
    rw [e, decide_eq_true (show 1 ≤ l.length by omega), decide_eq_true (show l.length ≤ 256 by omega), decide_eq_true (show 0 ≤ st by omega), decide_eq_true (show st < l.length by omega), decide_eq_true (show sizeL l ≤ 16384 by omega)]
    rfl
  rw [checkB, hb, Bool.true_and]
  exact ccheck_loop l hf l.length 0 (by omega)
theorem bodies_loop (l : List Node) (hl : l.length ≤ 140737488351232) : ∀ (d i : Nat), i + d = l.length → Ev (fun k => dowelbook_CoreBodies.l0 k l l (i : Int)) true := by
  intro d
  induction d with
  | zero =>
    intro i hi
    refine Ev.step (fun _ => by rw [dowelbook_CoreBodies.l0]) ?_
    exact Ev.neg (by omega) (Ev.some_ rfl)
  | succ d ih =>
    intro i hi
    refine Ev.step (fun _ => by rw [dowelbook_CoreBodies.l0]) ?_
    refine Ev.pos (by omega) ?_
    refine Ev.pos (by omega) ?_
    refine Ev.pos (by omega) ?_
    refine Ev.neg (by simp) ?_
    have hw3 : wrap64 ((i : Int) + 1) = ((i + 1 : Nat) : Int) := by rw [w64] <;> omega
    rw [hw3]
    exact ih (i + 1) (by omega)
theorem bodies_ev (l : List Node) (hl : l.length ≤ 140737488351232) : Ev (fun k => dowelbook_CoreBodies.f k l l) true := by
  unfold dowelbook_CoreBodies.f
  exact Ev.pos rfl (bodies_loop l hl l.length 0 (by omega))
theorem cores_loop (l : List Rule) (st : Int) (hf : Fit l) : ∀ (d i : Nat), i + d = l.length → Ev (fun k => dowelbook_Cores.l0 k (i : Int) l st l st) true := by
  intro d
  induction d with
  | zero =>
    intro i hi
    refine Ev.step (fun _ => by rw [dowelbook_Cores.l0]) ?_
    exact Ev.neg (by omega) (Ev.some_ rfl)
  | succ d ih =>
    intro i hi
    have hlt : i < l.length := by omega
    have := hf.len
    refine Ev.step (fun _ => by rw [dowelbook_Cores.l0]) ?_
    refine Ev.pos (by omega) ?_
    refine Ev.pos (by omega) ?_
    refine Ev.pos (by omega) ?_
    refine Ev.pos rfl ?_
    rw [rdR l i hlt]
    refine Ev.bind (bodies_ev _ (hf.body l[i] (List.getElem_mem _)).2.1) ?_
    refine Ev.pos rfl ?_
    have hw3 : wrap64 ((i : Int) + 1) = ((i + 1 : Nat) : Int) := by rw [w64] <;> omega
    rw [hw3]
    exact ih (i + 1) (by omega)
theorem cores_ev (l : List Rule) (st : Int) (hf : Fit l) : Ev (fun k => dowelbook_Cores.f k l st l st) true := by
  unfold dowelbook_Cores.f
  refine Ev.pos rfl ?_
  refine Ev.step (fun _ => by rw [dowelbook_Cores.j0]) ?_
  exact Ev.neg (by simp) (cores_loop l st hf l.length 0 (by omega))
end Go.Proofs.Ytebiogaacikphaa.Core
end
section
namespace Go.Proofs.YtebiogaacikphaaW.PrintWords
open Go.RowKit Go.MapKept
section
variable {P : Program} {ops : Array Oper} {o : Oper} {a : Act} {Q : Exit → Act → World → Prop} {Kc : Act → World → Prop}
/-- One operation that gives a value, in a region that draws. -/
theorem rstep_value {w w' : World} {v : Value} (hw : Region.wanted o (yielded ops a.tmps) = true) (hr : (execOp a.eval o).run P w = .ok (.value v) w') (h : Kc (a.put o.dst v) w') :
    if Region.wanted o (yielded ops a.tmps) = true then Oper.wp P o a w Kc Q else Kc (a.put o.dst undef) w := by
  rw [if_pos hw]
  unfold Oper.wp
  rw [hr]
  exact h
end
end Go.Proofs.YtebiogaacikphaaW.PrintWords
end
section
namespace Go.Proofs.Ytebiogaacikphaa.Pack
open Go.RowKit Go.Proofs.YtebiogaacikphaaW.PrintWords Go.Proofs.Ytebiogaacikphaa.PAll
set_option linter.unusedVariables false
set_option linter.unusedSimpArgs false
theorem own_kept {W W' : World} {base : Nat} {t : TypeId} {size n : Nat} {v : Value} {xs : List Value} (h : W.ownsRow base t size v n xs) (hk : ∀ k, v.ownBlock = some k → W'.heap[k]? = W.heap[k]?) : W'.ownsRow base t size v n xs := by
  obtain ⟨h1, h2 | ⟨g, cap, cur, rfl, h3, h4, h5⟩⟩ := h
  · exact ⟨h1, .inl h2⟩
  · exact ⟨h1, .inr ⟨g, cap, cur, rfl, h3, (hk g rfl).trans h4, h5⟩⟩
end Go.Proofs.Ytebiogaacikphaa.Pack
end
section
namespace Go.Proofs.Ytebiogaacikphaa.Pack
open Go.RowKit Go.Proofs.YtebiogaacikphaaW.PrintWords Go.Proofs.Ytebiogaacikphaa.PAll
set_option linter.unusedVariables false
set_option linter.unusedSimpArgs false
theorem own_len {W : World} {base : Nat} {t : TypeId} {size n : Nat} {v : Value} {xs : List Value} (h : W.ownsRow base t size v n xs) : ∃ A c, v = .slice A n c := own_slice h
end Go.Proofs.Ytebiogaacikphaa.Pack
end
section
namespace Go.Proofs.YtebiogaacikphaaW.PrintWords
open Go.RowKit
set_option linter.unusedVariables false
set_option linter.unusedSimpArgs false
/-- v's block lies in the heap and is i's. -/
def Tag (W : World) (f : Nat → Nat) (v : Value) (i : Nat) : Prop := ∀ k, v.ownBlock = some k → k < W.heap.size ∧ f k = i
/-- v is read as these cells. -/
def Sees (W : World) (v : Value) (n : Nat) (xs : List Value) : Prop := ∃ A c, v = .slice A n c ∧ (0 < n → ∃ g, A = some ⟨g, 0, none⟩ ∧ ∀ j u, xs[j]? = some u → W.cell? ⟨g, j, none⟩ = some u)
/-- A step that changes i's blocks alone. -/
structure Step (W W' : World) (f f' : Nat → Nat) (i : Nat) : Prop where
  size : W.heap.size ≤ W'.heap.size
  tags : ∀ k, k < W.heap.size → f' k = f k
  same : ∀ k, k < W.heap.size → f k ≠ i → W'.heap[k]? = W.heap[k]?
section
variable {W W' : World} {f f' : Nat → Nat} {i j : Nat} {v : Value} {base size n : Nat} {e : TypeId} {xs : List Value}
theorem Tag.step (h : Tag W f v j) (s : Step W W' f f' i) : Tag W' f' v j := fun k hk => ⟨Nat.lt_of_lt_of_le (h k hk).1 s.size, (s.tags k (h k hk).1).trans (h k hk).2⟩
theorem own_step (h : W.ownsRow base e size v n xs) (t : Tag W f v j) (hne : j ≠ i) (s : Step W W' f f' i) : W'.ownsRow base e size v n xs := by
  refine ⟨h.1, ?_⟩
  rcases h.2 with hn | ⟨g, cap, cur, rfl, hb, hgg, rest⟩
  · exact .inl hn
  · refine .inr ⟨g, cap, cur, rfl, hb, ?_, rest⟩
    obtain ⟨h1, h2⟩ := t g rfl
    rw [s.same g h1 (by rw [h2]; exact hne)]
    exact hgg
theorem Sees.step (h : Sees W v n xs) (t : Tag W f v j) (hne : j ≠ i) (s : Step W W' f f' i) : Sees W' v n xs := by
  obtain ⟨A, c, rfl, h0⟩ := h
  refine ⟨A, c, rfl, fun hp => ?_⟩
  obtain ⟨g, rfl, h3⟩ := h0 hp
  obtain ⟨h1, h2⟩ := t g rfl
  refine ⟨g, rfl, fun q u hq => ?_⟩
  rw [World.cell?_of_block (a := ⟨g, q, none⟩) (s.same g h1 (by rw [h2]; exact hne))]
  exact h3 q u hq
theorem RowAt.step {g : Nat} {cs : List Value} (h : RowAt W g e cs) (hne : f g ≠ i) (s : Step W W' f f' i) : RowAt W' g e cs := h.kept (s.same g h.lt hne)
theorem own_sees (h : W.ownsRow base e size v n xs) : Sees W v n xs := by
  rcases h.2 with ⟨hv, h0⟩ | ⟨g, cap, cur, hv, h1, h2, h3, h4, h5, h6⟩
  · exact ⟨none, 0, by rw [hv, h0], fun hp => absurd hp (by omega)⟩
  · refine ⟨some ⟨g, 0, none⟩, cap, hv, fun _ => ⟨g, rfl, fun q u hq => ?_⟩⟩
    have := h.cells (g := g) (by rw [hv]; rfl) q u hq
    rwa [show (⟨g, 0, none⟩ : Addr).add q = ⟨g, q, none⟩ from (by simp [Addr.add]; omega)] at this
theorem Step.below (hb : Below W.heap.size W W') : Step W W' f f i := ⟨hb.size, fun _ _ => rfl, fun k hk _ => hb.block k hk⟩
/-- A change of one block of i's, with new blocks for i. -/
theorem Step.grown {row : Option Nat} (hg : W.grownBy W' row) (hr : ∀ k, row = some k → k < W.heap.size → f k = i) : Step W W' f (fun k => if k < W.heap.size then f k else i) i :=
  ⟨hg.size, fun k hk => by rw [if_pos hk], fun k hk hne => hg.block k hk (fun h => hne (hr k h.symm hk))⟩
theorem Step.grown0 {row : Option Nat} (hg : W.grownBy W' row) (hr : ∀ k, row = some k → k < W.heap.size → f k = i) : Step W W' f f i :=
  ⟨hg.size, fun k hk => rfl, fun k hk hne => hg.block k hk (fun h => hne (hr k h.symm hk))⟩
end
section
variable {P : Program} {ops : Array Oper} {rest : List Oper} {o : Oper} {a : Act} {Q : Exit → Act → World → Prop}
theorem run_append_two (w : World) (base : Nat) (t ty e : TypeId) (i : TypeInfo) (z : Value) (size bytes : Nat) (ht : P.underlying t = some (.slice e)) (hi : P.info? e = some i) (hz : i.zero = some z)
    (hsize : i.size = size) (hby : i.bytes = bytes) (hzs : z.cells.size = size) (hsz : 0 < size)
    (v : Value) (n : Nat) (xs : List Value) (hown : w.ownsRow base e size v n xs)
    (a : Addr) (m c : Nat) (news : List Value) (hl : news.length = m * size) (hm : 0 < m) (hnews : ∀ j u, news[j]? = some u → w.cell? (a.add j) = some u) (h1 : ∀ u ∈ news, u.oneCell' = true)
    (h63 : n + m ≤ maxLen) (hbytes : (n + m) * bytes ≤ 140737488355328) (hbase : base ≤ w.heap.size) :
    ∃ v' w', (Builtin.append_ #[t, t] ty #[v, .slice (some a) m c]).run P w = .ok v' w' ∧ w'.ownsRow base e size v' (n + m) (xs ++ news) ∧
      ((v'.ownBlock = v.ownBlock ∧ w.grownBy w' v.ownBlock) ∨ (v'.ownBlock = some w.heap.size ∧ w.grownBy w' none)) := by
  subst hsize
  subst hby
  have hsmall : n + m ≤ 9223372036854775807 := by simp only [maxLen] at h63; omega
  have hlen : (xs ++ news).length = (n + m) * i.size := by rw [List.length_append, hown.1, hl, Nat.add_mul]
  have grown : ∀ (old : Nat), old < n + m → ∀ (row : Option Nat),
      (w.drew.alloc (.cells (xs.toArray ++ news.toArray ++ Builtin.zeroCells z.cells (grownCap w (n + m) old e - (n + m))) e)).ownsRow base e i.size
        (.slice (some ⟨w.heap.size, 0, none⟩) (n + m) (grownCap w (n + m) old e)) (n + m) (xs ++ news) ∧
      w.grownBy (w.drew.alloc (.cells (xs.toArray ++ news.toArray ++ Builtin.zeroCells z.cells (grownCap w (n + m) old e - (n + m))) e)) row := by
    intro old ho row
    have hge := grownCap_ge w (n + m) old e
    have hcm : grownCap w (n + m) old e ≤ maxLen := grownCap_le_maxLen w (n + m) old e h63
    refine ⟨⟨hlen, .inr ⟨w.heap.size, _, _, rfl, hbase, heap_alloc_new w.drew _, hge, hcm, ?_, ?_⟩⟩, ⟨rfl, rfl, rfl, by simp, fun k hk _ => Go.heap_alloc_old w.drew _ hk⟩⟩
    · simp only [Array.size_append, List.size_toArray, size_zeroCells, hzs, hown.1, hl, ← Nat.add_mul]
      congr 1
      omega
    · simp only [Array.toList_append, List.append_assoc]
      rw [← List.append_assoc, ← hlen]
      exact List.take_left
  rcases hown.2 with ⟨rfl, rfl⟩ | ⟨g, cap, cur, rfl, hbg, hg, hnc, hcm, hcs, htake⟩
  · have hx : xs = [] := List.eq_nil_of_length_eq_zero (by simpa using hown.1)
    subst hx
    have hr := run_append_nil (P := P) w t ty e i z ht hi hz a m c news hl hnews (by omega) (by omega) (by have hb := hbytes; simp only [Nat.zero_add] at hb; omega)
    have hgr := grown 0 (by omega) none
    simp only [Nat.zero_add, List.nil_append, Array.empty_append] at hgr ⊢
    exact ⟨_, _, hr, hgr.1, .inr ⟨rfl, hgr.2⟩⟩
  · by_cases hroom : n + m ≤ cap
    · have hfit : n * i.size + news.length ≤ cur.size := by rw [hl, hcs, ← Nat.add_mul]; exact Nat.mul_le_mul_right _ hroom
      have hr := run_append_room (P := P) w t ty e i ht hi g n cap cur hg a m c news hl hnews h1 hroom hfit
      refine ⟨_, _, hr, ⟨hlen, .inr ⟨g, cap, _, rfl, hbg, setRow_heap w g cur _ e _ hg, hroom, hcm, ?_, ?_⟩⟩, .inl ⟨rfl, ⟨rfl, rfl, rfl, by simp, fun k _ hk => setRow_other w g k _ (fun e => hk (by simp [Value.ownBlock, e]))⟩⟩⟩
      · simp only [List.size_toArray, List.length_append, List.length_take, List.length_drop, Array.length_toList]
        omega
      · rw [htake, ← hlen]
        exact List.take_left
    · have holds : ∀ j u, xs[j]? = some u → w.cell? ((⟨g, 0, none⟩ : Addr).add j) = some u := hown.cells (g := g) rfl
      have hr := run_append_grow (P := P) w t ty e i z ht hi hz ⟨g, 0, none⟩ n cap xs hown.1 holds a m c news hl hnews (by omega) (by omega) (growslice_fits (by omega) hbytes)
      have hgr := grown cap (by omega) none
      exact ⟨_, _, hr, hgr.1, .inr ⟨rfl, hgr.2⟩⟩
/-- An append of one element, that was laid into a block of its own just ahead: whose block changes. -/
theorem append_event {W : World} (base : Nat) (hgd : o.guard = none) (s x : Operand) (t e : TypeId) (z : Value) (size bytes : Nat)
    (ho : o.op = .call { callee := .builtin .append, args := #[s, x], argTypes := #[t, t] })
    (ht : P.underlying t = some (.slice e)) (hinfo : (P.info? e).map (fun i => (i.zero, i.size, i.bytes)) = some (some z, size, bytes)) (hz : z.cells.size = size) (hs0 : 0 < size) (hb0 : 0 < bytes)
    (v : Value) (n : Nat) (xs ys : List Value) (hs : a.eval s = v) (hx : a.eval x = .slice (some ⟨W.heap.size, 0, none⟩) 1 1) (hys : ys.length = size) (h1 : ∀ u ∈ ys, u.oneCell' = true)
    (HO : W.ownsRow base e size v n xs) (hbase : base ≤ W.heap.size) (hl : (n + 1) * bytes ≤ 140737488355328)
    (h : ∀ v1 w1, w1.ownsRow base e size v1 (n + 1) (xs ++ ys) → ((v1.ownBlock = v.ownBlock ∧ W.grownBy w1 v.ownBlock) ∨ ((∃ b, v1.ownBlock = some b ∧ W.heap.size ≤ b) ∧ W.grownBy w1 none)) → wpList P ops Q rest (a.put o.dst v1) w1) :
    wpList P ops Q (o :: rest) a (W.alloc (.cells ys.toArray e)) := by
  obtain ⟨i0, hi, hzz⟩ := Option.map_eq_some_iff.1 hinfo
  simp only [Prod.mk.injEq] at hzz
  obtain ⟨hz0, hz1, hz2⟩ := hzz
  have hlen : n + 1 ≤ 140737488355328 := Nat.le_trans (Nat.le_mul_of_pos_right _ hb0) hl
  refine wpList_plain hgd fun K hK => ?_
  obtain ⟨v', w', hr, h2, h3⟩ := run_append_two (P := P) (W.alloc (.cells ys.toArray e)) base t o.type e i0 z size bytes ht hi hz0 hz1 hz2 hz hs0 v n xs (HO.alloc _) ⟨W.heap.size, 0, none⟩ 1 1 ys (by rw [hys]; simp) (by decide)
    (by simpa using World.news_of_block (cs := ys.toArray) (t := e) (fr := (0, 0)) (heap_alloc_new W (.cells ys.toArray e))) h1 (by simp only [maxLen]; omega) hl (by simp; omega)
  unfold Oper.wp execOp
  simp only [ho, resolve, invoke, builtin, Sem.run_bind, Sem.run_pure, Result.andThen_ok, List.map_toArray, List.map_cons, List.map_nil, hs, hx, hr]
  refine hK _ _ (h v' w' h2 ?_)
  rcases h3 with ⟨h3, h4⟩ | ⟨h3, h4⟩
  · exact .inl ⟨h3, World.grownBy.trans (World.grownBy_alloc W _ _) h4⟩
  · exact .inr ⟨⟨_, h3, by simp⟩, World.grownBy.trans (World.grownBy_alloc W _ _) h4⟩
end
section
variable {W W1 : World} {g c base size n : Nat} {e : TypeId} {v : Value} {xs : List Value} {α : Type} {enc : α → List Value}
theorem flat_len (hs : ∀ x, (enc x).length = size) : ∀ l : List α, (l.flatMap enc).length = l.length * size
  | [] => by simp
  | x :: l => by rw [List.flatMap_cons, List.length_append, hs, flat_len hs l, List.length_cons, Nat.add_mul, Nat.one_mul]; omega
theorem flat_set (hs : ∀ x, (enc x).length = size) (y : α) : ∀ (l : List α) (k : Nat), k < l.length → (l.flatMap enc).take (k * size) ++ enc y ++ (l.flatMap enc).drop (k * size + size) = (l.set k y).flatMap enc
  | [], k, h => by simp at h
  | x :: l, 0, h => by
    rw [Nat.zero_mul, Nat.zero_add, List.take_zero, List.nil_append, List.set_cons_zero, List.flatMap_cons, List.flatMap_cons, List.drop_append_of_le_length (by rw [hs]; exact Nat.le_refl _), List.drop_of_length_le (by rw [hs]; exact Nat.le_refl _), List.nil_append]
  | x :: l, k + 1, h => by
    have ih := flat_set hs y l k (by simpa using h)
    rw [List.set_cons_succ, List.flatMap_cons, List.flatMap_cons, ← ih]
    have e1 : (k + 1) * size = (enc x).length + k * size := by rw [hs, Nat.add_mul, Nat.one_mul]; omega
    rw [e1, List.take_length_add_append, show (enc x).length + k * size + size = (enc x).length + (k * size + size) by omega, List.drop_length_add_append]
    simp only [List.append_assoc]
/-- The row behind an own slice. -/
theorem own_row (h : W.ownsRow base e size (.slice (some ⟨g, 0, none⟩) n c) n xs) : ∃ cs, RowAt W g e cs ∧ n * size ≤ cs.length ∧ cs.take (n * size) = xs := by
  rcases h.2 with ⟨hv, _⟩ | ⟨g', cap, cur, hv, h1, h2, h3, h4, h5, h6⟩
  · cases hv
  · cases hv
    refine ⟨cur.toList, ⟨cur, h2, rfl⟩, ?_, h6⟩
    rw [Array.length_toList, h5]
    exact Nat.mul_le_mul_right _ h3
theorem own_set (hs : ∀ x, (enc x).length = size) {l : List α} (h : W.ownsRow base e size (.slice (some ⟨g, 0, none⟩) n c) n (l.flatMap enc)) (hn : l.length = n) {k : Nat} (hk : k < n) (y : α) {cs : List Value} (hr : RowAt W g e cs)
    (h1 : RowAt W1 g e (cs.take (k * size) ++ enc y ++ cs.drop (k * size + (enc y).length))) : W1.ownsRow base e size (.slice (some ⟨g, 0, none⟩) n c) n ((l.set k y).flatMap enc) := by
  have hks : k * size + size ≤ n * size := by rw [show k * size + size = (k + 1) * size by rw [Nat.add_mul, Nat.one_mul]]; exact Nat.mul_le_mul_right _ hk
  rcases h.2 with ⟨hv, _⟩ | ⟨g', cap, cur, hv, h2, h3, h4, h5, h6, h7⟩
  · cases hv
  · cases hv
    obtain ⟨cur2, h8, rfl⟩ := hr
    rw [h3] at h8
    cases h8
    obtain ⟨cur3, h9, h10⟩ := h1
    have hlen : n * size ≤ cur.toList.length := by rw [Array.length_toList, h6]; exact Nat.mul_le_mul_right _ h4
    refine ⟨by rw [flat_len hs, List.length_set, hn], .inr ⟨g, c, cur3, rfl, h2, h9, h4, h5, ?_, ?_⟩⟩
    · rw [← Array.length_toList, h10, hs]
      simp only [List.length_append, List.length_take, List.length_drop, hs]
      rw [Array.length_toList, h6] at hlen ⊢
      omega
    · have e1 : (List.take (n * size) cur.toList).take (k * size) = cur.toList.take (k * size) := by rw [List.take_take, Nat.min_eq_left (by omega)]
      have e2 : (List.take (n * size) cur.toList).drop (k * size + size) = (cur.toList.drop (k * size + size)).take (n * size - (k * size + size)) := by rw [List.drop_take]
      rw [h10, ← flat_set hs y l k (by omega), ← h7, hs, e1, e2, List.append_assoc, List.append_assoc]
      have e3 : (cur.toList.take (k * size)).length = k * size := by rw [List.length_take]; omega
      have e4 : n * size = (cur.toList.take (k * size)).length + ((enc y).length + (n * size - (k * size + size))) := by rw [e3, hs]; omega
      rw [show List.take (n * size) (List.take (k * size) cur.toList ++ (enc y ++ List.drop (k * size + size) cur.toList)) = List.take ((cur.toList.take (k * size)).length + ((enc y).length + (n * size - (k * size + size)))) (List.take (k * size) cur.toList ++ (enc y ++ List.drop (k * size + size) cur.toList)) from by rw [← e4]]
      rw [List.take_length_add_append, List.take_length_add_append]
end
end Go.Proofs.YtebiogaacikphaaW.PrintWords
end
section
namespace Go.Proofs.YtebiogaacikphaaW.PrintWords
open Go.RowKit
section
variable {P : Program} {ops : Array Oper} {o : Oper} {a : Act} {Q : Exit → Act → World → Prop} {Kc : Act → World → Prop}
theorem rstep_call {w w1 : World} {f : FuncId} {args : Array Value} {R : Ending → World → Prop} (hw : Region.wanted o (yielded ops a.tmps) = true) (hr : (execOp a.eval o).run P w = .ok (.enter f args) w1) (hc : Calls P f args w1 R) (h : ∀ e w', R e w' → ∃ v, e = .returned v ∧ Kc (a.put o.dst v) w') :
    if Region.wanted o (yielded ops a.tmps) = true then Oper.wp P o a w Kc Q else Kc (a.put o.dst undef) w := by
  rw [if_pos hw]
  unfold Oper.wp
  rw [hr]
  refine hc.mono (fun e w' hR => ?_)
  obtain ⟨v, rfl, hk⟩ := h e w' hR
  exact hk
theorem rstep_store {W : World} (hw : Region.wanted o (yielded ops a.tmps) = true) (t : TypeId) (p x : Operand) (ho : o.op = .store t p x) {g off : Nat} {u : Value} {e : TypeId} {cs seg : List Value} (hp : a.eval p = .pointer (some ⟨g, off, none⟩)) (hx : a.eval x = u)
    (hb : RowAt W g e cs) (hu : u.cells.toList = seg) (hi : (P.info? t).map (·.size) = some seg.length) (hfit : off + seg.length ≤ cs.length) (hone : ∀ q ∈ seg, q.oneCell' = true)
    (h : ∀ w1, RowAt w1 g e (cs.take off ++ seg ++ cs.drop (off + seg.length)) → W.grownBy w1 (some g) → Kc (a.put o.dst undef) w1) :
    if Region.wanted o (yielded ops a.tmps) = true then Oper.wp P o a W Kc Q else Kc (a.put o.dst undef) W := by
  obtain ⟨cur, hh, rfl⟩ := hb
  have hrun := run_store_run (P := P) (w := W) (g := g) (o := off) (e := e) (cur := cur) t u seg hh hu hi (by simpa using hfit) hone
  obtain ⟨cur', h1, h2, h3⟩ := setCells_row seg off W cur hh (by simpa using hfit)
  obtain ⟨s1, s2, s3, s4⟩ := setCells_same g seg off W
  rw [if_pos hw]
  unfold Oper.wp execOp
  simp only [ho, hp, hx]
  simp only [Sem.run_bind, hrun, Result.andThen_ok]
  have := h _ ⟨cur', h1, h3⟩ ⟨s1, s2, s3, by rw [s4]; exact Nat.le_refl _, fun i _ hne => setCells_far _ off i (fun e => hne (by rw [e]))⟩
  simpa [Oper.upon] using this
end
end Go.Proofs.YtebiogaacikphaaW.PrintWords
end
