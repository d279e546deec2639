/- Parts of the proof of packEncodes: FreeB. No condition beyond each lemma's own. -/
import Derived.IntWalk
import Derived.WalkKit
import Derived.Test.YtebiogaacikphaaTE11
import Derived.Test.YtebiogaacikphaaTE14
section
namespace Go.Proofs.Ytebiogaacikphaa.Pack
open Go.RowKit Go.Proofs.YtebiogaacikphaaW.PrintWords Go.Proofs.Ytebiogaacikphaa.PAll
set_option linter.unusedVariables false
set_option linter.unusedSimpArgs false
set_option linter.unnecessarySimpa false
def bEnc (x : Int) : List Value := [.int .u8 x]
theorem bEnc_len (x : Int) : (bEnc x).length = 1 := rfl
theorem bEnc_nums (d : List Int) : d.flatMap bEnc = nums .u8 d := by
  induction d with
  | nil => rfl
  | cons x d ih => rw [List.flatMap_cons, ih]; rfl
def markB (i : Nat) : Int := (i : Int)
def moreB (i : Nat) : Int := 100 + (i : Int)
section
variable {base gl : Nat} {w W W' W1 : World} {f f' : Nat → Nat} {As : Nat → Option Addr} {ns Cs : Nat → Nat} {cs : Nat → List Int} {lo i : Nat} {vg : Value} {us : Nat → Value}
/-- While all are written full. -/
structure F1B (base : Nat) (w W : World) (f : Nat → Nat) (gl : Nat) (As : Nat → Option Addr) (ns Cs : Nat → Nat) (cs : Nat → List Int) : Prop where
  old : Below base w W
  bs : base ≤ w.heap.size
  row : RowAt W gl 37 [.slice (As 0) (ns 0) (Cs 0), .slice (As 1) (ns 1) (Cs 1), .slice (As 2) (ns 2) (Cs 2)]
  rowt : f gl = 3
  own : ∀ j, j < 3 → W.ownsRow base 5 1 (.slice (As j) (ns j) (Cs j)) (ns j) ((cs j).flatMap bEnc)
  tag : ∀ j, j < 3 → Tag W f (.slice (As j) (ns j) (Cs j)) j
  len : ∀ j, j < 3 → (cs j).length = ns j
theorem F1B.put (h : F1B base w W f gl As ns Cs cs) (hi : i < 3) {k : Nat} (hk : k < ns i) (y : Int) {g : Nat} (hA : As i = some ⟨g, 0, none⟩) {full : List Value} (hr : RowAt W g 5 full)
    (h1 : RowAt W1 g 5 (full.take (k * 1) ++ bEnc y ++ full.drop (k * 1 + (bEnc y).length))) (hg : W.grownBy W1 (some g)) : F1B base w W1 f gl As ns Cs (fun j => if j = i then (cs i).set k y else cs j) := by
  have ht := h.tag i hi g (by rw [hA]; rfl)
  have s : Step W W1 f f i := Step.grown0 hg (fun k e _ => by injection e with e; rw [← e]; exact ht.2)
  have hob : base ≤ g := own_base (h.own i hi) g (by rw [hA]; rfl)
  refine ⟨pw_below_grown h.old (some g) (Nat.le_trans h.bs h.old.size) hg (fun k e => by injection e with e; omega), h.bs, h.row.step (by rw [h.rowt]; omega) s, h.rowt, fun j hj => ?_, fun j hj => (h.tag j hj).step s, fun j hj => ?_⟩
  · by_cases e : j = i
    · subst e
      simp only [if_true]
      have := h.own j hj
      rw [hA] at this ⊢
      exact own_set bEnc_len this (h.len j hj) hk y hr h1
    · simp only [if_neg e]
      exact own_step (h.own j hj) (h.tag j hj) e s
  · by_cases e : j = i
    · subst e
      simp only [if_true, List.length_set]
      exact h.len j hj
    · simp only [if_neg e]
      exact h.len j hj
def fullB (ns : Nat → Nat) (j : Nat) : List Int := List.replicate (ns j) (markB j)
/-- While all are grown, one by one. -/
structure F2B (base : Nat) (w W : World) (f : Nat → Nat) (gl : Nat) (As : Nat → Option Addr) (ns Cs : Nat → Nat) (lo i : Nat) (vg : Value) (us : Nat → Value) : Prop where
  old : Below base w W
  bs : base ≤ w.heap.size
  row : RowAt W gl 37 [.slice (As 0) (ns 0) (Cs 0), .slice (As 1) (ns 1) (Cs 1), .slice (As 2) (ns 2) (Cs 2)]
  rowt : f gl = 3
  own : ∀ j, lo ≤ j → j < 3 → W.ownsRow base 5 1 (.slice (As j) (ns j) (Cs j)) (ns j) ((fullB ns j).flatMap bEnc)
  sees : ∀ j, j < 3 → Sees W (.slice (As j) (ns j) (Cs j)) (ns j) ((fullB ns j).flatMap bEnc)
  tag : ∀ j, j < 3 → Tag W f (.slice (As j) (ns j) (Cs j)) j
  gown : W.ownsRow base 37 1 vg i ((List.range i).map us)
  gtag : Tag W f vg 4
  uown : ∀ j, j < i → W.ownsRow base 5 1 (us j) (ns j + 70) ((fullB ns j ++ List.replicate 70 (moreB j)).flatMap bEnc)
  utag : ∀ j, j < i → Tag W f (us j) j
  i3 : i ≤ 3
theorem F1B.next (h : F1B base w W f gl As ns Cs cs) (hm : ∀ j, j < 3 → cs j = fullB ns j) : F2B base w W f gl As ns Cs 0 0 (.slice none 0 0) (fun _ => .slice none 0 0) :=
  ⟨h.old, h.bs, h.row, h.rowt, fun j _ hj => hm j hj ▸ h.own j hj, fun j hj => own_sees (hm j hj ▸ h.own j hj), h.tag, World.ownsRow_nil _ _ _ _, fun k hk => by simp [Value.ownBlock] at hk, fun j hj => absurd hj (by omega), fun j hj => absurd hj (by omega), by omega⟩
theorem F2B.low (h : F2B base w W f gl As ns Cs lo i vg us) {lo' : Nat} (hl : lo ≤ lo') : F2B base w W f gl As ns Cs lo' i vg us :=
  ⟨h.old, h.bs, h.row, h.rowt, fun j h1 hj => h.own j (by omega) hj, h.sees, h.tag, h.gown, h.gtag, h.uown, h.utag, h.i3⟩
/-- One instruction more behind the i-th list. -/
theorem F2B.more (h : F2B base w W f gl As ns Cs (i + 1) i vg us) (hi : i < 3) {x x' : Value} {q : Nat} (hx : W.ownsRow base 5 1 x (ns i + q) ((fullB ns i ++ List.replicate q (moreB i)).flatMap bEnc)) (ht : Tag W f x i)
    (hx' : W1.ownsRow base 5 1 x' (ns i + q + 1) ((fullB ns i ++ List.replicate q (moreB i)).flatMap bEnc ++ bEnc (moreB i)))
    (hat : (x'.ownBlock = x.ownBlock ∧ W.grownBy W1 x.ownBlock) ∨ ((∃ b, x'.ownBlock = some b ∧ W.heap.size ≤ b) ∧ W.grownBy W1 none)) :
    ∃ f', F2B base w W1 f' gl As ns Cs (i + 1) i vg us ∧ W1.ownsRow base 5 1 x' (ns i + (q + 1)) ((fullB ns i ++ List.replicate (q + 1) (moreB i)).flatMap bEnc) ∧ Tag W1 f' x' i := by
  have hx2 : W1.ownsRow base 5 1 x' (ns i + (q + 1)) ((fullB ns i ++ List.replicate (q + 1) (moreB i)).flatMap bEnc) := by
    rw [List.replicate_succ', ← List.append_assoc, List.flatMap_append, ← Nat.add_assoc]
    simpa using hx'
  obtain ⟨row, hg, hrow⟩ : ∃ row, W.grownBy W1 row ∧ (∀ k, row = some k → x.ownBlock = some k) := by
    rcases hat with ⟨_, hg⟩ | ⟨_, hg⟩
    · exact ⟨_, hg, fun k e => e⟩
    · exact ⟨_, hg, fun k e => by cases e⟩
  have s : Step W W1 f (fun k => if k < W.heap.size then f k else i) i := Step.grown hg (fun k e _ => (ht k (hrow k e)).2)
  have hgl := h.row.lt
  have hsee : Sees W1 (.slice (As i) (ns i) (Cs i)) (ns i) ((fullB ns i).flatMap bEnc) := by
    by_cases hsame : ∃ k, x'.ownBlock = some k ∧ (Value.slice (As i) (ns i) (Cs i)).ownBlock = some k
    · obtain ⟨k, h1, h2⟩ := hsame
      refine ⟨As i, Cs i, rfl, fun hp => ?_⟩
      obtain ⟨A, c, hv, hs⟩ := h.sees i hi
      cases hv
      obtain ⟨g, hA, _⟩ := hs hp
      rw [hA] at h2
      have hgk : g = k := by simpa [Value.ownBlock] using h2
      subst hgk
      refine ⟨g, hA, fun j u hu => ?_⟩
      have := hx2.cells (g := g) h1 j u (by
        rw [List.flatMap_append, List.getElem?_append_left (List.getElem?_eq_some_iff.1 hu).1]
        exact hu)
      rwa [show (⟨g, 0, none⟩ : Addr).add j = ⟨g, j, none⟩ from (by simp [Addr.add]; omega)] at this
    · obtain ⟨A, c, hv, hs⟩ := h.sees i hi
      refine ⟨A, c, hv, fun hp => ?_⟩
      obtain ⟨g, rfl, hs2⟩ := hs hp
      have hob : (Value.slice (As i) (ns i) (Cs i)).ownBlock = some g := by rw [hv]; rfl
      have hgs := (h.tag i hi g hob).1
      refine ⟨g, rfl, fun j u hu => ?_⟩
      have hne : x'.ownBlock ≠ some g := fun e => hsame ⟨g, e, hob⟩
      have hb : W1.heap[g]? = W.heap[g]? := by
        rcases hat with ⟨h1, hg⟩ | ⟨_, hg⟩
        · exact hg.block g hgs (fun e => hne (by rw [h1, ← e]))
        · exact hg.block g hgs (by simp)
      rw [World.cell?_of_block (a := ⟨g, j, none⟩) hb]
      exact hs2 j u hu
  have hob : ∀ k, row = some k → base ≤ k := fun k e => own_base hx k (hrow k e)
  refine ⟨_, ⟨pw_below_grown h.old row (Nat.le_trans h.bs h.old.size) hg hob, h.bs, h.row.step (by rw [h.rowt]; omega) s, by rw [if_pos hgl]; exact h.rowt, fun j h1 hj => own_step (h.own j h1 hj) (h.tag j hj) (by omega) s, fun j hj => ?_, fun j hj => (h.tag j hj).step s, own_step h.gown h.gtag (by omega) s, h.gtag.step s, fun j hj => own_step (h.uown j hj) (h.utag j hj) (by omega) s, fun j hj => (h.utag j hj).step s, h.i3⟩, hx2, fun k hk => ⟨own_lt hx2 k hk, ?_⟩⟩
  · by_cases e : j = i
    · subst e; exact hsee
    · exact (h.sees j hj).step (h.tag j hj) e s
  · show (if k < W.heap.size then f k else i) = i
    by_cases e : k < W.heap.size
    · rw [if_pos e]
      rcases hat with ⟨h1, _⟩ | ⟨⟨b, h1, h2⟩, _⟩
      · exact (ht k (by rw [← h1]; exact hk)).2
      · rw [h1] at hk
        injection hk with hk
        omega
    · rw [if_neg e]
/-- The i-th is grown. -/
theorem F2B.done (h : F2B base w W f gl As ns Cs (i + 1) i vg us) (hi : i < 3) {x vg' : Value} (hx : W.ownsRow base 5 1 x (ns i + 70) ((fullB ns i ++ List.replicate 70 (moreB i)).flatMap bEnc)) (ht : Tag W f x i)
    (hg' : W1.ownsRow base 37 1 vg' (i + 1) ((List.range i).map us ++ [x]))
    (hat : (vg'.ownBlock = vg.ownBlock ∧ W.grownBy W1 vg.ownBlock) ∨ ((∃ b, vg'.ownBlock = some b ∧ W.heap.size ≤ b) ∧ W.grownBy W1 none)) :
    ∃ f', F2B base w W1 f' gl As ns Cs (i + 1) (i + 1) vg' (fun j => if j = i then x else us j) := by
  obtain ⟨row, hg, hrow⟩ : ∃ row, W.grownBy W1 row ∧ (∀ k, row = some k → vg.ownBlock = some k) := by
    rcases hat with ⟨_, hg⟩ | ⟨_, hg⟩
    · exact ⟨_, hg, fun k e => e⟩
    · exact ⟨_, hg, fun k e => by cases e⟩
  have s : Step W W1 f (fun k => if k < W.heap.size then f k else 4) 4 := Step.grown hg (fun k e _ => (h.gtag k (hrow k e)).2)
  have hgl := h.row.lt
  have hob : ∀ k, row = some k → base ≤ k := fun k e => own_base h.gown k (hrow k e)
  refine ⟨_, ⟨pw_below_grown h.old row (Nat.le_trans h.bs h.old.size) hg hob, h.bs, h.row.step (by rw [h.rowt]; omega) s, by rw [if_pos hgl]; exact h.rowt, fun j h1 hj => own_step (h.own j h1 hj) (h.tag j hj) (by omega) s, fun j hj => (h.sees j hj).step (h.tag j hj) (by omega) s, fun j hj => (h.tag j hj).step s, ?_, fun k hk => ⟨own_lt hg' k hk, ?_⟩, fun j hj => ?_, fun j hj => ?_, by omega⟩⟩
  · rw [List.range_succ, List.map_append]
    have e1 : (List.range i).map (fun j => if j = i then x else us j) = (List.range i).map us := by
      refine List.map_congr_left (fun j hj => ?_)
      rw [if_neg (by have := List.mem_range.1 hj; omega)]
    rw [e1]
    simpa using hg'
  · show (if k < W.heap.size then f k else 4) = 4
    by_cases e : k < W.heap.size
    · rw [if_pos e]
      rcases hat with ⟨h1, _⟩ | ⟨⟨b, h1, h2⟩, _⟩
      · exact (h.gtag k (by rw [← h1]; exact hk)).2
      · rw [h1] at hk
        injection hk with hk
        omega
    · rw [if_neg e]
  · by_cases e : j = i
    · subst e
      rw [if_pos rfl]
      exact own_step hx ht (by omega) s
    · rw [if_neg e]
      exact own_step (h.uown j (by omega)) (h.utag j (by omega)) (by omega) s
  · by_cases e : j = i
    · subst e
      rw [if_pos rfl]
      exact ht.step s
    · rw [if_neg e]
      exact (h.utag j (by omega)).step s
end
end Go.Proofs.Ytebiogaacikphaa.Pack
end
