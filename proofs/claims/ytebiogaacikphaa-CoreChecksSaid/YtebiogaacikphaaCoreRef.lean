/- What a right core grammar is (chapter 9), as plain functions, and that the reference's Check answers so; a body's texts and lists are of at most 2^47 bytes. -/
import Derived.Test.YtebiogaacikphaaNames
import Derived.Test.YtebiogaacikphaaPAllx6
import Derived.Test.YtebiogaacikphaaPAllx10
import Derived.Test.YtebiogaacikphaaPAllx11
import Derived.Test.YtebiogaacikphaaPAllx12
import Derived.Test.YtebiogaacikphaaPAllx9
namespace Go.Proofs.Ytebiogaacikphaa.Core
open Go.RowKit Go.Proofs.YtebiogaacikphaaW.PrintWords Go.Proofs.Ytebiogaacikphaa.PAll Go.Proofs.Ytebiogaacikphaa.Names
set_option linter.unusedVariables false
abbrev Node := S90
abbrev Rule := S30
abbrev Class := S76
abbrev zNode : Node := z90
abbrev zRule : Rule := z30

/-- p holds at d places from i on. -/
def allFrom (p : Nat → Bool) : Nat → Nat → Bool
  | 0, _ => true
  | d + 1, i => p i && allFrom p d (i + 1)
theorem allFrom_iff (p : Nat → Bool) : ∀ d i, allFrom p d i = true ↔ ∀ j, i ≤ j → j < i + d → p j = true
  | 0, i => by simp [allFrom]; intro j h1 h2; omega
  | d + 1, i => by
    rw [allFrom, Bool.and_eq_true, allFrom_iff p d (i + 1)]
    constructor
    · rintro ⟨h0, h⟩ j h1 h2
      rcases Nat.lt_or_ge i j with h3 | h3
      · exact h j (by omega) (by omega)
      · rw [show j = i by omega]; exact h0
    · intro h
      exact ⟨h i (by omega) (by omega), fun j h1 h2 => h j (by omega) (by omega)⟩

/-- How many parts a kind has; -1: there is no such kind. -/
def ct (a : Int) : Int := if a = 0 ∨ a = 1 ∨ a = 2 ∨ a = 3 then 0 else if a = 6 ∨ a = 7 ∨ a = 8 then 1 else if a = 4 ∨ a = 5 then 2 else -1
theorem ct_range (a : Int) : -1 ≤ ct a ∧ ct a ≤ 2 := by
  unfold ct
  repeat' split
  all_goals omega
theorem count_ev (a : Int) : Ev (fun k => dowelref09_count.f k a) (ct a) := by
  unfold dowelref09_count.f
  have j1 : ∀ b : Bool, ¬ (a = 0 ∨ a = 1 ∨ a = 2 ∨ a = 3) → (b = true ↔ (a = 6 ∨ a = 7 ∨ a = 8)) → Ev (fun k => dowelref09_count.j1 k a b) (ct a) := by
    intro b h0 hb
    refine Ev.step (fun _ => by rw [dowelref09_count.j1]) ?_
    unfold ct
    rw [if_neg h0]
    refine Ev.ite (fun h => Ev.some_ (by rw [if_pos (hb.1 h)])) (fun h => ?_)
    rw [if_neg (fun h' => h (hb.2 h'))]
    refine Ev.ite (fun h => Ev.some_ (by rw [if_pos (.inl h)])) (fun h4 => ?_)
    exact Ev.ite (fun h => Ev.some_ (by rw [if_pos (.inr h)])) (fun h5 => Ev.some_ (by rw [if_neg (by omega)]))
  have j0 : ∀ b : Bool, (b = true ↔ (a = 0 ∨ a = 1 ∨ a = 2 ∨ a = 3)) → Ev (fun k => dowelref09_count.j0 k a b) (ct a) := by
    intro b hb
    refine Ev.step (fun _ => by rw [dowelref09_count.j0]) ?_
    refine Ev.ite (fun h => Ev.some_ (by rw [ct, if_pos (hb.1 h)])) (fun h => ?_)
    have h0 : ¬ (a = 0 ∨ a = 1 ∨ a = 2 ∨ a = 3) := fun h' => h (hb.2 h')
    refine Ev.ite (fun h6 => j1 _ h0 (by simp [h6])) (fun h6 => ?_)
    refine Ev.ite (fun h7 => j1 _ h0 (by simp [h7])) (fun h7 => j1 _ h0 (by simp [h6, h7]))
  refine Ev.ite (fun h => j0 _ (by simp [h])) (fun h => ?_)
  refine Ev.ite (fun h1 => j0 _ (by simp [h1])) (fun h1 => ?_)
  refine Ev.ite (fun h2 => j0 _ (by simp [h2])) (fun h2 => j0 _ (by simp [h, h1, h2]))

def zeroC (c : Class) : Bool := c.f0 == 0 && c.f1 == 0 && c.f2 == 0 && c.f3 == 0
def ruleB (n : Node) (r : Int) : Bool := if n.f0 = 2 then decide (0 ≤ n.f2) && decide (n.f2 < r) else n.f2 == 0
def nameB (n : Node) : Bool := if n.f0 = 3 ∨ n.f0 = 8 then isName n.f3.data.toList && isOwn n.f3.data.toList else n.f3.data.toList == []
def cleanB (n : Node) (r : Int) : Bool := (n.f0 == 1 || zeroC n.f1) && ruleB n r && nameB n
def bodyB (r : Int) : List Node → Int → Bool
  | [], d => d == 1
  | n :: l, d => if ct n.f0 < 0 ∨ d < ct n.f0 ∨ cleanB n r = false then false else bodyB r l (d - ct n.f0 + 1)

/-- What a body that came in meets. -/
def FitN (n : Node) : Prop := n.f3.size ≤ 140737488351232

theorem clean_ev (n : Node) (r : Int) (h : FitN n) : Ev (fun k => dowelref09_clean.f k n.f0 n.f1.f0 n.f1.f1 n.f1.f2 n.f1.f3 n.f2 n.f3 r) (cleanB n r) := by
  unfold dowelref09_clean.f
  have j2 : ∀ b : Bool, (b = true ↔ (n.f0 = 3 ∨ n.f0 = 8)) → Ev (fun k => dowelref09_clean.j2 k b n.f0 n.f1.f0 n.f1.f1 n.f1.f2 n.f1.f3 n.f2 n.f3) (nameB n) := by
    intro b hb
    refine Ev.step (fun _ => by rw [dowelref09_clean.j2]) ?_
    unfold nameB
    refine Ev.ite (fun h1 => ?_) (fun h1 => ?_)
    · rw [if_pos (hb.1 h1)]
      refine Ev.bind (refName_ev _ h) ?_
      refine Ev.ite (fun h2 => ?_) (fun h2 => ?_)
      · refine Ev.bind (own_ev _ h) ?_
        exact Ev.some_ (by simp [h2])
      · exact Ev.some_ (by simp [h2])
    · rw [if_neg (fun h' => h1 (hb.2 h'))]
      exact Ev.some_ (by rw [ByteArray.toList_eq])
  have j1 : ∀ b : Bool, (b = true ↔ ruleB n r = false) → Ev (fun k => dowelref09_clean.j1 k b n.f0 n.f1.f0 n.f1.f1 n.f1.f2 n.f1.f3 n.f2 n.f3) (ruleB n r && nameB n) := by
    intro b hb
    refine Ev.step (fun _ => by rw [dowelref09_clean.j1]) ?_
    refine Ev.ite (fun h1 => Ev.some_ (by rw [hb.1 h1]; rfl)) (fun h1 => ?_)
    have : ruleB n r = true := by
      cases hr : ruleB n r with
      | true => rfl
      | false => exact absurd (hb.2 hr) h1
    rw [this, Bool.true_and]
    exact Ev.ite (fun h3 => j2 _ (by simp [h3])) (fun h3 => j2 _ (by simp [h3]))
  have j0 : ∀ b : Bool, (b = true ↔ (n.f0 == 1 || zeroC n.f1) = false) → Ev (fun k => dowelref09_clean.j0 k r b n.f0 n.f1.f0 n.f1.f1 n.f1.f2 n.f1.f3 n.f2 n.f3) (cleanB n r) := by
    intro b hb
    refine Ev.step (fun _ => by rw [dowelref09_clean.j0]) ?_
    unfold cleanB
    refine Ev.ite (fun h1 => Ev.some_ (by rw [hb.1 h1]; rfl)) (fun h1 => ?_)
    have : (n.f0 == 1 || zeroC n.f1) = true := by
      cases hr : (n.f0 == 1 || zeroC n.f1) with
      | true => rfl
      | false => exact absurd (hb.2 hr) h1
    rw [this, Bool.true_and]
    refine Ev.ite (fun h2 => ?_) (fun h2 => ?_)
    · have hr : ruleB n r = (decide (0 ≤ n.f2) && decide (n.f2 < r)) := by rw [ruleB, if_pos h2]
      refine Ev.ite (fun h3 => j1 _ ?_) (fun h3 => Ev.ite (fun h4 => j1 _ ?_) (fun h4 => j1 _ ?_))
      · rw [hr]; simp; omega
      · rw [hr]; simp; omega
      · rw [hr]; simp; omega
    · have hr : ruleB n r = (n.f2 == 0) := by rw [ruleB, if_neg h2]
      exact j1 _ (by rw [hr]; simp)
  refine Ev.ite (fun h1 => j0 _ (by simp [h1])) (fun h1 => j0 _ ?_)
  simp only [zeroC]
  have h1' : (n.f0 == 1) = false := by simpa using h1
  rw [h1', Bool.false_or]
  cases h0 : (n.f1.f0 == 0) <;> cases h2 : (n.f1.f1 == 0) <;> cases h3 : (n.f1.f2 == 0) <;> cases h4 : (n.f1.f3 == 0) <;> simp

theorem rdN (l : List Node) (i : Nat) (h : i < l.length) : rd_T90 l (i : Int) = l[i] := by
  rw [rd_T90, Int.toNat_natCast, List.getD_eq_getElem?_getD, List.getElem?_eq_getElem h]
  rfl
theorem rdR (l : List Rule) (i : Nat) (h : i < l.length) : rd_T30 l (i : Int) = l[i] := by
  rw [rd_T30, Int.toNat_natCast, List.getD_eq_getElem?_getD, List.getElem?_eq_getElem h]
  rfl

theorem body_loop (l : List Node) (r : Int) (hl : l.length ≤ 140737488351232) (hf : ∀ n ∈ l, FitN n) : ∀ (d i : Nat) (deep : Int), i + d = l.length → 0 ≤ deep → deep ≤ i →
    Ev (fun k => dowelref09_body.l0 k l r deep (i : Int)) (bodyB r (l.drop i) deep) := by
  intro d
  induction d with
  | zero =>
    intro i deep hi h0 h1
    refine Ev.step (fun _ => by rw [dowelref09_body.l0]) ?_
    refine Ev.neg (by omega) ?_
    exact Ev.some_ (by rw [List.drop_of_length_le (by omega)]; rfl)
  | succ d ih =>
    intro i deep hi h0 h1
    have hlt : i < l.length := by omega
    refine Ev.step (fun _ => by rw [dowelref09_body.l0]) ?_
    refine Ev.pos (by omega) ?_
    refine Ev.pos (by omega) ?_
    rw [rdN l i hlt, List.drop_eq_getElem_cons hlt, bodyB]
    have hn := hf l[i] (List.getElem_mem _)
    generalize l[i] = n at *
    refine Ev.bind (count_ev _) ?_
    have hr := ct_range n.f0
    refine Ev.ite (fun h2 => Ev.some_ (by rw [if_pos (.inl h2)])) (fun h2 => ?_)
    refine Ev.ite (fun h3 => Ev.some_ (by rw [if_pos (.inr (.inl h3))])) (fun h3 => ?_)
    refine Ev.bind (clean_ev n r hn) ?_
    refine Ev.ite (fun h4 => ?_) (fun h4 => Ev.some_ (by rw [if_pos (.inr (.inr (by simpa using h4)))]))
    rw [if_neg (by rintro (h | h | h); exact h2 h; exact h3 h; rw [h4] at h; cases h)]
    have hw1 : wrap64 (deep - ct n.f0) = deep - ct n.f0 := by rw [w64] <;> omega
    have hw2 : wrap64 (deep - ct n.f0 + 1) = deep - ct n.f0 + 1 := by rw [w64] <;> omega
    have hw3 : wrap64 ((i : Int) + 1) = ((i + 1 : Nat) : Int) := by rw [w64] <;> omega
    rw [hw1, hw2, hw3]
    exact ih (i + 1) _ (by omega) (by omega) (by omega)
theorem body_ev (l : List Node) (r : Int) (hl : l.length ≤ 140737488351232) (hf : ∀ n ∈ l, FitN n) : Ev (fun k => dowelref09_body.f k l r) (bodyB r l 0) := by
  have := body_loop l r hl hf l.length 0 0 (by omega) (by omega) (by omega)
  rwa [List.drop_zero] at this

def sizeL : List Rule → Int
  | [] => 0
  | r :: l => r.f1.length + sizeL l
theorem sizeL_nonneg : ∀ l : List Rule, 0 ≤ sizeL l
  | [] => Int.le_refl _
  | r :: l => by
    have := sizeL_nonneg l
    rw [sizeL]
    omega
/-- What a core grammar that came in meets. -/
structure Fit (l : List Rule) : Prop where
  len : l.length ≤ 140737488351232
  body : ∀ r ∈ l, r.f0.size ≤ 140737488351232 ∧ r.f1.length ≤ 140737488351232 ∧ ∀ n ∈ r.f1, FitN n

theorem sizeL_le : ∀ l : List Rule, (∀ r ∈ l, r.f1.length ≤ 140737488351232) → sizeL l ≤ l.length * 140737488351232
  | [], _ => by simp [sizeL]
  | r :: l, h => by
    have := sizeL_le l (fun r hr => h r (List.mem_cons_of_mem _ hr))
    have := h r List.mem_cons_self
    rw [sizeL, List.length_cons]
    omega
theorem Fit.size {l : List Rule} (hf : Fit l) (h : l.length ≤ 65536) : sizeL l ≤ 9223372036854775807 := by
  have := sizeL_le l (fun r hr => (hf.body r hr).2.1)
  omega
theorem size_loop (l : List Rule) (st : Int) (hf : Fit l) (hs : l.length ≤ 65536) : ∀ (d i : Nat) (acc : Int), i + d = l.length → acc + sizeL (l.drop i) = sizeL l → 0 ≤ acc →
    Ev (fun k => dowelref09_Size.l0 k acc (i : Int) l st) (sizeL l) := by
  intro d
  induction d with
  | zero =>
    intro i acc hi ha h0
    refine Ev.step (fun _ => by rw [dowelref09_Size.l0]) ?_
    refine Ev.neg (by omega) ?_
    rw [List.drop_of_length_le (by omega)] at ha
    simp only [sizeL] at ha
    exact Ev.some_ (by omega)
  | succ d ih =>
    intro i acc hi ha h0
    have hlt : i < l.length := by omega
    refine Ev.step (fun _ => by rw [dowelref09_Size.l0]) ?_
    refine Ev.pos (by omega) ?_
    refine Ev.pos (by omega) ?_
    rw [rdR l i hlt]
    rw [List.drop_eq_getElem_cons hlt, sizeL] at ha
    have := hf.len
    have := hf.size hs
    have := sizeL_nonneg (l.drop (i + 1))
    have hw1 : wrap64 (acc + (l[i].f1.length : Int)) = acc + (l[i].f1.length : Int) := by rw [w64] <;> omega
    have hw3 : wrap64 ((i : Int) + 1) = ((i + 1 : Nat) : Int) := by rw [w64] <;> omega
    rw [hw1, hw3]
    exact ih (i + 1) _ (by omega) (by omega) (by omega)
theorem size_ev (l : List Rule) (st : Int) (hf : Fit l) (hs : l.length ≤ 65536) : Ev (fun k => dowelref09_Size.f k l st) (sizeL l) := size_loop l st hf hs l.length 0 0 (by omega) (by simp) (by omega)

def nm (l : List Rule) (i : Nat) : List UInt8 := (l.getD i zRule).f0.data.toList
def okAt (l : List Rule) (i : Nat) : Bool := isName (nm l i) && bodyB l.length (l.getD i zRule).f1 0 && allFrom (fun k => nm l k != nm l i) i 0
def boundsB (l : List Rule) (st : Int) : Bool := decide (1 ≤ l.length) && decide (l.length ≤ 256) && decide (0 ≤ st) && decide (st < l.length) && decide (sizeL l ≤ 16384)
def checkB (l : List Rule) (st : Int) : Bool := boundsB l st && allFrom (okAt l) l.length 0

theorem getD_at (l : List Rule) (i : Nat) (h : i < l.length) : l.getD i zRule = l[i] := by
  rw [List.getD_eq_getElem?_getD, List.getElem?_eq_getElem h]
  rfl

/-- The loops of dowelref09.Check. -/
theorem check_loop (l : List Rule) (st : Int) (hf : Fit l) : ∀ (d i : Nat), i + d = l.length → Ev (fun k => dowelref09_Check.l0 k (i : Int) l st) (if allFrom (okAt l) d i then 0 else 6) := by
  intro d
  induction d with
  | zero =>
    intro i hi
    refine Ev.step (fun _ => by rw [dowelref09_Check.l0]) ?_
    refine Ev.neg (by omega) ?_
    exact Ev.some_ (by simp [allFrom])
  | succ d ih =>
    intro i hi
    have hlt : i < l.length := by omega
    refine Ev.step (fun _ => by rw [dowelref09_Check.l0]) ?_
    refine Ev.pos (by omega) ?_
    refine Ev.pos (by omega) ?_
    rw [rdR l i hlt, allFrom]
    have hb := hf.body l[i] (List.getElem_mem _)
    have hnm : nm l i = l[i].f0.data.toList := by rw [nm, getD_at l i hlt]
    have hbd : (l.getD i zRule).f1 = l[i].f1 := by rw [getD_at l i hlt]
    have hlen := hf.len
    have inner : ∀ (e j : Nat), j + e = i → Ev (fun k => dowelref09_Check.l1 k (i : Int) (j : Int) l st) (if allFrom (fun k => nm l k != nm l i) e j && allFrom (okAt l) d (i + 1) then 0 else 6) := by
      intro e
      induction e with
      | zero =>
        intro j hj
        refine Ev.step (fun _ => by rw [dowelref09_Check.l1]) ?_
        refine Ev.neg (by omega) ?_
        have hw3 : wrap64 ((i : Int) + 1) = ((i + 1 : Nat) : Int) := by rw [w64] <;> omega
        rw [hw3, allFrom, Bool.true_and]
        exact ih (i + 1) (by omega)
      | succ e ihe =>
        intro j hj
        refine Ev.step (fun _ => by rw [dowelref09_Check.l1]) ?_
        refine Ev.pos (by omega) ?_
        refine Ev.pos (by omega) ?_
        refine Ev.pos (by omega) ?_
        refine Ev.pos (by omega) ?_
        refine Ev.pos (by omega) ?_
        rw [rdR l j (by omega), rdR l i hlt, allFrom, ByteArray.toList_eq, ByteArray.toList_eq]
        have hnj : nm l j = l[j].f0.data.toList := by rw [nm, getD_at l j (by omega)]
        rw [← hnm, ← hnj]
        refine Ev.ite (fun h => Ev.some_ (by simp [h])) (fun h => ?_)
        have hw3 : wrap64 ((j : Int) + 1) = ((j + 1 : Nat) : Int) := by rw [w64] <;> omega
        rw [hw3]
        refine (ihe (j + 1) (by omega)).to ?_
        have : (nm l j != nm l i) = true := by simpa using h
        rw [this, Bool.true_and]
    have j2 : ∀ b : Bool, (b = true ↔ (isName (nm l i) && bodyB l.length (l.getD i zRule).f1 0) = false) → Ev (fun k => dowelref09_Check.j2 k (i : Int) b l st) (if okAt l i && allFrom (okAt l) d (i + 1) then 0 else 6) := by
      intro b hb
      refine Ev.step (fun _ => by rw [dowelref09_Check.j2]) ?_
      refine Ev.ite (fun h => Ev.some_ (by rw [okAt, hb.1 h]; rfl)) (fun h => ?_)
      have : (isName (nm l i) && bodyB l.length (l.getD i zRule).f1 0) = true := by
        cases hr : (isName (nm l i) && bodyB l.length (l.getD i zRule).f1 0) with
        | true => rfl
        | false => exact absurd (hb.2 hr) h
      rw [okAt, this, Bool.true_and]
      exact inner i 0 (by omega)
    refine Ev.bind (refName_ev _ hb.1) ?_
    rw [← hnm]
    refine Ev.ite (fun h => ?_) (fun h => j2 _ (by simp [h]))
    refine Ev.bind (body_ev _ _ hb.2.1 hb.2.2) ?_
    exact j2 _ (by rw [h, hbd]; simp)

theorem check_ev (l : List Rule) (st : Int) (hf : Fit l) : Ev (fun k => dowelref09_Check.f k l st) (if checkB l st then 0 else 6) := by
  unfold dowelref09_Check.f
  have j0 : ∀ b : Bool, (b = true ↔ boundsB l st = false) → Ev (fun k => dowelref09_Check.j0 k b l st) (if checkB l st then 0 else 6) := by
    intro b hb
    refine Ev.step (fun _ => by rw [dowelref09_Check.j0]) ?_
    refine Ev.ite (fun h => Ev.some_ (by rw [checkB, hb.1 h]; rfl)) (fun h => ?_)
    have : boundsB l st = true := by
      cases hr : boundsB l st with
      | true => rfl
      | false => exact absurd (hb.2 hr) h
    rw [checkB, this, Bool.true_and]
    exact check_loop l st hf l.length 0 (by omega)
  have e : boundsB l st = (decide (1 ≤ l.length) && decide (l.length ≤ 256) && decide (0 ≤ st) && decide (st < l.length) && decide (sizeL l ≤ 16384)) := rfl
  refine Ev.ite (fun h => j0 _ (by rw [e, decide_eq_false (show ¬ 1 ≤ l.length by omega)]; simp)) (fun h => ?_)
  refine Ev.ite (fun h1 => j0 _ (by rw [e, decide_eq_false (show ¬ l.length ≤ 256 by omega)]; simp)) (fun h1 => ?_)
  refine Ev.ite (fun h2 => j0 _ (by rw [e, decide_eq_false (show ¬ 0 ≤ st by omega)]; simp)) (fun h2 => ?_)
  refine Ev.ite (fun h3 => j0 _ (by rw [e, decide_eq_false (show ¬ st < l.length by omega)]; simp)) (fun h3 => ?_)
  refine Ev.bind (size_ev l st hf (by omega)) (j0 _ ?_)
  rw [e, decide_eq_true (show 1 ≤ l.length by omega), decide_eq_true (show l.length ≤ 256 by omega), decide_eq_true (show 0 ≤ st by omega), decide_eq_true (show st < l.length by omega)]
  simp
end Go.Proofs.Ytebiogaacikphaa.Core
