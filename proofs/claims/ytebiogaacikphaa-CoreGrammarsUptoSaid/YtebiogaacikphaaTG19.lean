/- Parts of the proof of coreGrammars: GramNest, GramScript. No condition beyond each lemma's own. -/
import Derived.Test.YtebiogaacikphaaTG14
import Derived.Test.YtebiogaacikphaaTG15
import Derived.Test.YtebiogaacikphaaTG16
import Derived.Test.YtebiogaacikphaaTG17
section
namespace Go.Proofs.Ytebiogaacikphaa.Core
open Go.RowKit Go.Proofs.YtebiogaacikphaaW.PrintWords Go.Proofs.Ytebiogaacikphaa.PAll
set_option linter.unusedVariables false
set_option linter.unusedSimpArgs false
def kdG (b : List Node) (i : Nat) : Int := (b.getD i zNode).f0
theorem kdG_at (b : List Node) (i : Nat) (h : i < b.length) : kdG b i = b[i].f0 := by
  unfold kdG
  rw [List.getD_eq_getElem?_getD, List.getElem?_eq_getElem h]
  rfl
def deepG (b : List Node) : Nat → Int
  | 0 => 0
  | i + 1 => deepG b i - ct (kdG b i) + 1
/-- A right body. -/
structure RightG (r : Int) (b : List Node) : Prop where
  kind : ∀ j, j < b.length → 0 ≤ ct (kdG b j)
  has : ∀ j, j < b.length → ct (kdG b j) ≤ deepG b j
  one : deepG b b.length = 1
  clean : ∀ j, j < b.length → cleanB (b.getD j zNode) r = true
theorem rightG_from (r : Int) (b : List Node) : ∀ (d i : Nat), i + d = b.length → bodyB r (b.drop i) (deepG b i) = true → (∀ j, i ≤ j → j < b.length → 0 ≤ ct (kdG b j) ∧ ct (kdG b j) ≤ deepG b j ∧ cleanB (b.getD j zNode) r = true) ∧ deepG b b.length = 1 := by
  intro d
  induction d with
  | zero =>
    intro i hi h
    rw [List.drop_of_length_le (by omega)] at h
    simp only [bodyB, beq_iff_eq] at h
    rw [show i = b.length by omega] at h
    exact ⟨fun j h1 h2 => by omega, h⟩
  | succ d ih =>
    intro i hi h
    have hlt : i < b.length := by omega
    have hd : b.getD i zNode = b[i] := by rw [List.getD_eq_getElem?_getD, List.getElem?_eq_getElem hlt]; rfl
    rw [List.drop_eq_getElem_cons hlt, bodyB, ← hd, show (b.getD i zNode).f0 = kdG b i from rfl] at h
    split at h
    · cases h
    · rename_i hn
      obtain ⟨h1, h2⟩ := ih (i + 1) (by omega) h
      refine ⟨fun j hj1 hj2 => ?_, h2⟩
      rcases Nat.lt_or_ge i j with h3 | h3
      · exact h1 j (by omega) hj2
      · obtain rfl : j = i := by omega
        refine ⟨by omega, by omega, ?_⟩
        cases hc : cleanB (b.getD j zNode) r with
        | true => rfl
        | false => exact absurd (.inr (.inr hc)) hn
theorem rightG_of (r : Int) (b : List Node) (h : bodyB r b 0 = true) : RightG r b := by
  obtain ⟨h1, h2⟩ := rightG_from r b b.length 0 (by omega) (by rwa [List.drop_zero])
  exact ⟨fun j hj => (h1 j (by omega) hj).1, fun j hj => (h1 j (by omega) hj).2.1, h2, fun j hj => (h1 j (by omega) hj).2.2⟩
/-- What is open after i nodes: where each begins, how deep it is. -/
def stG (b : List Node) : Nat → List (Nat × Int)
  | 0 => []
  | i + 1 => if ct (kdG b i) = 0 then (i, 1) :: stG b i else if ct (kdG b i) = 1 then (match stG b i with | (p, d) :: t => (p, d + 1) :: t | [] => []) else (match stG b i with | (_, d2) :: (p, d1) :: t => (p, max d1 d2 + 1) :: t | _ => [])
def bgG (b : List Node) (i : Nat) : Nat := ((stG b (i + 1)).headD (0, 0)).1
def dpG (b : List Node) (i : Nat) : Int := ((stG b (i + 1)).headD (0, 0)).2
def AgreeG (b : List Node) : List (Nat × Int) → Nat → Prop
  | [], i => i = 0
  | (p, d) :: t, i => p < i ∧ bgG b (i - 1) = p ∧ dpG b (i - 1) = d ∧ 1 ≤ d ∧ AgreeG b t p
section
variable {r : Int} {b : List Node}
theorem stG_len (h : RightG r b) : ∀ i, i ≤ b.length → ((stG b i).length : Int) = deepG b i := by
  intro i
  induction i with
  | zero => intro _; rfl
  | succ i ih =>
    intro hi
    have ih := ih (by omega)
    have h1 := h.kind i (by omega)
    have h2 := h.has i (by omega)
    have h3 := (ct_range (kdG b i)).2
    rw [deepG, stG]
    by_cases c0 : ct (kdG b i) = 0
    · rw [if_pos c0, List.length_cons]; omega
    · rw [if_neg c0]
      by_cases c1 : ct (kdG b i) = 1
      · rw [if_pos c1]
        cases hs : stG b i with
        | nil => rw [hs, List.length_nil] at ih; omega
        | cons x t => rw [hs, List.length_cons] at ih; simp only [List.length_cons]; omega
      · rw [if_neg c1]
        match hs : stG b i with
        | [] => rw [hs, List.length_nil] at ih; omega
        | [x] => rw [hs] at ih; simp at ih; omega
        | x :: y :: t => rw [hs] at ih; simp only [List.length_cons] at ih ⊢; omega
theorem agreeG (h : RightG r b) : ∀ i, i ≤ b.length → AgreeG b (stG b i) i := by
  intro i
  induction i with
  | zero => intro _; rfl
  | succ i ih =>
    intro hi
    have ih := ih (by omega)
    have hl := stG_len h i (by omega)
    have h1 := h.kind i (by omega)
    have h2 := h.has i (by omega)
    have h3 := (ct_range (kdG b i)).2
    have hb : bgG b i = ((stG b (i + 1)).headD (0, 0)).1 := rfl
    have hd : dpG b i = ((stG b (i + 1)).headD (0, 0)).2 := rfl
    rw [stG] at hb hd ⊢
    by_cases c0 : ct (kdG b i) = 0
    · rw [if_pos c0] at hb hd ⊢
      exact ⟨by omega, hb, hd, by omega, ih⟩
    · rw [if_neg c0] at hb hd ⊢
      by_cases c1 : ct (kdG b i) = 1
      · rw [if_pos c1] at hb hd ⊢
        cases hs : stG b i with
        | nil => rw [hs, List.length_nil] at hl; omega
        | cons x t =>
          rw [hs] at ih hb hd
          obtain ⟨p, d⟩ := x
          obtain ⟨e1, e2, e3, e4, e5⟩ := ih
          exact ⟨by omega, hb, hd, by omega, e5⟩
      · rw [if_neg c1] at hb hd ⊢
        match hs : stG b i with
        | [] => rw [hs, List.length_nil] at hl; omega
        | [x] => rw [hs] at hl; simp at hl; omega
        | (p2, d2) :: (p, d1) :: t =>
          rw [hs] at ih hb hd
          obtain ⟨e1, e2, e3, e4, f1, f2, f3, f4, f5⟩ := ih
          exact ⟨by omega, hb, hd, by omega, f5⟩
theorem leafG {i : Nat} (c0 : ct (kdG b i) = 0) : bgG b i = i ∧ dpG b i = 1 := by
  unfold bgG dpG
  rw [stG, if_pos c0]
  exact ⟨rfl, rfl⟩
theorem unaryG (h : RightG r b) {i : Nat} (hi : i < b.length) (c1 : ct (kdG b i) = 1) : 0 < i ∧ bgG b i = bgG b (i - 1) ∧ dpG b i = dpG b (i - 1) + 1 ∧ bgG b (i - 1) < i ∧ 1 ≤ dpG b (i - 1) := by
  have ha := agreeG h i (by omega)
  have hl := stG_len h i (by omega)
  have h2 := h.has i hi
  have hb : bgG b i = ((stG b (i + 1)).headD (0, 0)).1 := rfl
  have hd : dpG b i = ((stG b (i + 1)).headD (0, 0)).2 := rfl
  rw [stG, if_neg (by omega), if_pos c1] at hb hd
  cases hs : stG b i with
  | nil => rw [hs, List.length_nil] at hl; omega
  | cons x t =>
    rw [hs] at ha hb hd
    obtain ⟨p, d⟩ := x
    obtain ⟨e1, e2, e3, e4, e5⟩ := ha
    simp only [List.headD_cons] at hb hd
    refine ⟨by omega, by omega, by omega, by omega, by omega⟩
theorem binaryG (h : RightG r b) {i : Nat} (hi : i < b.length) (c2 : ct (kdG b i) = 2) : 0 < bgG b (i - 1) ∧ bgG b (i - 1) < i ∧ bgG b i = bgG b (bgG b (i - 1) - 1) ∧ dpG b i = max (dpG b (bgG b (i - 1) - 1)) (dpG b (i - 1)) + 1 ∧ bgG b (bgG b (i - 1) - 1) < bgG b (i - 1) ∧ 1 ≤ dpG b (i - 1) ∧ 1 ≤ dpG b (bgG b (i - 1) - 1) := by
  have ha := agreeG h i (by omega)
  have hl := stG_len h i (by omega)
  have h2 := h.has i hi
  have hb : bgG b i = ((stG b (i + 1)).headD (0, 0)).1 := rfl
  have hd : dpG b i = ((stG b (i + 1)).headD (0, 0)).2 := rfl
  rw [stG, if_neg (by omega), if_neg (by omega)] at hb hd
  match hs : stG b i with
  | [] => rw [hs, List.length_nil] at hl; omega
  | [x] => rw [hs] at hl; simp at hl; omega
  | (p2, d2) :: (p, d1) :: t =>
    rw [hs] at ha hb hd
    obtain ⟨e1, e2, e3, e4, f1, f2, f3, f4, f5⟩ := ha
    simp only [List.headD_cons] at hb hd
    rw [e2, e3, f2, f3]
    exact ⟨by omega, e1, hb, hd, f1, e4, f4⟩
theorem boundG (h : RightG r b) : ∀ i, i < b.length → bgG b i ≤ i ∧ 1 ≤ dpG b i ∧ dpG b i ≤ i + 1 := by
  intro i
  induction i using Nat.strongRecOn with
  | ind i ih =>
    intro hi
    have h1 := h.kind i hi
    have h3 := (ct_range (kdG b i)).2
    have h9 : ct (kdG b i) = 0 ∨ ct (kdG b i) = 1 ∨ ct (kdG b i) = 2 := by omega
    rcases h9 with c | c | c
    · obtain ⟨e1, e2⟩ := leafG c
      omega
    · obtain ⟨e0, e1, e2, e3, e4⟩ := unaryG h hi c
      have := ih (i - 1) (by omega) (by omega)
      omega
    · obtain ⟨e0, e1, e2, e3, e4, e5, e6⟩ := binaryG h hi c
      have k1 := ih (i - 1) (by omega) (by omega)
      have k2 := ih (bgG b (i - 1) - 1) (by omega) (by omega)
      omega
/-- The deepest of the first i nodes. -/
def mostG (b : List Node) : Nat → Int
  | 0 => 0
  | i + 1 => max (mostG b i) (dpG b i)
def maxS : List (Nat × Int) → Int
  | [] => 0
  | x :: t => max x.2 (maxS t)
theorem mostG_st (h : RightG r b) : ∀ i, i ≤ b.length → mostG b i = maxS (stG b i) := by
  intro i
  induction i with
  | zero => intro _; rfl
  | succ i ih =>
    intro hi
    have ih := ih (by omega)
    have hl := stG_len h i (by omega)
    have h1 := h.kind i (by omega)
    have h2 := h.has i (by omega)
    have h3 := (ct_range (kdG b i)).2
    have hd : dpG b i = ((stG b (i + 1)).headD (0, 0)).2 := rfl
    have ha := agreeG h i (by omega)
    rw [mostG, ih]
    rw [stG] at hd ⊢
    by_cases c0 : ct (kdG b i) = 0
    · rw [if_pos c0] at hd ⊢
      simp only [List.headD_cons, maxS] at hd ⊢
      omega
    · rw [if_neg c0] at hd ⊢
      by_cases c1 : ct (kdG b i) = 1
      · rw [if_pos c1] at hd ⊢
        cases hs : stG b i with
        | nil => rw [hs, List.length_nil] at hl; omega
        | cons x t =>
          rw [hs] at hd
          simp only [List.headD_cons, maxS] at hd ⊢
          omega
      · rw [if_neg c1] at hd ⊢
        match hs : stG b i with
        | [] => rw [hs, List.length_nil] at hl; omega
        | [x] => rw [hs] at hl; simp at hl; omega
        | (p2, d2) :: (p, d1) :: t =>
          rw [hs] at hd
          simp only [List.headD_cons, maxS] at hd ⊢
          omega
/-- A right body: the last node begins at 0, and is the deepest. -/
theorem lastG (h : RightG r b) : 0 < b.length ∧ bgG b (b.length - 1) = 0 ∧ mostG b b.length = dpG b (b.length - 1) ∧ stG b b.length = [(0, dpG b (b.length - 1))] := by
  have hl := stG_len h b.length (Nat.le_refl _)
  rw [h.one] at hl
  have ha := agreeG h b.length (Nat.le_refl _)
  have hm := mostG_st h b.length (Nat.le_refl _)
  match hs : stG b b.length with
  | [] => rw [hs] at hl; simp at hl
  | x :: y :: t => rw [hs] at hl; simp only [List.length_cons] at hl; omega
  | [(p, d)] =>
    rw [hs] at ha hm
    obtain ⟨e1, e2, e3, e4, e5⟩ := ha
    have e5 : p = 0 := e5
    subst e5
    simp only [maxS] at hm
    exact ⟨by omega, e2, by omega, by rw [e3]⟩
end
end Go.Proofs.Ytebiogaacikphaa.Core
end
section
namespace Go.Proofs.Ytebiogaacikphaa.Core
open Go.RowKit Go.Proofs.YtebiogaacikphaaW.PrintWords Go.Proofs.Ytebiogaacikphaa.PAll
set_option linter.unusedVariables false
set_option linter.unusedSimpArgs false
/-- The first i of n numbers, the others 0. -/
def prefG (g : Nat → Int) (n i : Nat) : List Int := (List.range n).map fun j => if j < i then g j else 0
theorem prefG_len (g : Nat → Int) (n i : Nat) : (prefG g n i).length = n := by simp [prefG]
theorem prefG_rd (g : Nat → Int) (n i j : Nat) (h1 : j < i) (h2 : j < n) : rd (prefG g n i) (j : Int) = g j := by
  rw [rd, Int.toNat_natCast, prefG, List.getD_eq_getElem?_getD, List.getElem?_map, List.getElem?_range h2]
  simp [h1]
theorem prefG_set (g : Nat → Int) (n i : Nat) (v : Int) (h : v = g i) (hi : i < n) : (prefG g n i).set i v = prefG g n (i + 1) := by
  apply List.ext_getElem?
  intro j
  rw [List.getElem?_set]
  by_cases e : i = j
  · subst e
    rw [if_pos rfl, if_pos (by rw [prefG_len]; exact hi), prefG, List.getElem?_map, List.getElem?_range hi, h]
    simp
  · rw [if_neg e, prefG, prefG, List.getElem?_map, List.getElem?_map]
    by_cases hj : j < n
    · rw [List.getElem?_range hj]
      simp only [Option.map_some]
      by_cases h2 : j < i
      · rw [if_pos h2, if_pos (by omega)]
      · rw [if_neg h2, if_neg (by omega)]
    · rw [List.getElem?_eq_none (by simp; omega)]
      rfl
theorem prefG_zero (g : Nat → Int) (n : Nat) : prefG g n 0 = List.replicate n 0 := by
  apply List.ext_getElem?
  intro j
  rw [prefG, List.getElem?_map, List.getElem?_replicate]
  by_cases hj : j < n
  · rw [List.getElem?_range hj, if_pos hj]; simp
  · rw [List.getElem?_eq_none (by simp; omega), if_neg hj]; rfl
def ys (l : List Rule) (b : List Node) : List Nod := b.map (nodOf l)
theorem rdY (l : List Rule) (b : List Node) (i : Nat) (h : i < b.length) : rd_T122 (ys l b) (i : Int) = nodOf l b[i] := by
  rw [rd_T122, Int.toNat_natCast, List.getD_eq_getElem?_getD, ys, List.getElem?_map, List.getElem?_eq_getElem h]
  rfl
section
variable {r : Int} {b : List Node} (l : List Rule)
theorem arG (h : RightG r b) {i : Nat} (hi : i < b.length) : (nodOf l b[i]).f1 = ct (kdG b i) := by
  have h1 := h.kind i hi
  show ar b[i].f0 = _
  rw [kdG_at b i hi] at h1 ⊢
  exact ar_ct _ (by omega)
theorem begins_loop (h : RightG r b) (hn : b.length ≤ 1048576) : ∀ d i : Nat, i + d = b.length → Ev (fun k => script_begins.l0 k (prefG (fun j => (bgG b j : Int)) b.length i) (ys l b) (b.length : Int) (i : Int)) (prefG (fun j => (bgG b j : Int)) b.length b.length)
  | 0, i, hi => by
    refine Ev.step (fun _ => by rw [script_begins.l0]) ?_
    exact Ev.neg (by omega) (Ev.some_ (by rw [show i = b.length by omega]))
  | d + 1, i, hi => by
    have hlt : i < b.length := by omega
    have ih := begins_loop h hn d (i + 1) (by omega)
    have h1 := h.kind i hlt
    have h2 := arG l h hlt
    have h3 := (ct_range (kdG b i)).2
    have h9 : ct (kdG b i) = 0 ∨ ct (kdG b i) = 1 ∨ ct (kdG b i) = 2 := by omega
    refine Ev.step (fun _ => by rw [script_begins.l0]) ?_
    refine Ev.pos (by omega) (Ev.pos (by omega) (Ev.pos (by simp [ys]; omega) ?_))
    rw [rdY l b i hlt]
    obtain ⟨y, hy⟩ : ∃ y, nodOf l b[i] = y := ⟨_, rfl⟩
    rw [hy] at h2 ⊢
    have hset : ∀ v : Int, v = (bgG b i : Int) → Ev (fun k => script_begins.l0 k ((prefG (fun j => (bgG b j : Int)) b.length i).set i v) (ys l b) (b.length : Int) (wrap64 ((i : Int) + 1))) (prefG (fun j => (bgG b j : Int)) b.length b.length) := fun v hv => by
      rw [prefG_set (fun j => (bgG b j : Int)) _ _ _ hv hlt, show wrap64 ((i : Int) + 1) = ((i + 1 : Nat) : Int) by rw [w64] <;> omega]
      exact ih
    have hpl := prefG_len (fun j => (bgG b j : Int)) b.length i
    refine Ev.neg (by omega) ?_
    refine Ev.step (fun _ => by rw [script_begins.j1]) ?_
    have hw0 : wrap64 ((i : Int) - 1) = (i : Int) - 1 := by rw [w64] <;> omega
    have hfin : ∀ x6 x7 : Int, x6 = (bgG b i : Int) → (y.f1 > 0 → 0 < i) → Ev (fun k => script_begins.j4 k (prefG (fun j => (bgG b j : Int)) b.length i) (i : Int) x6 x7 (ys l b) (b.length : Int) (i : Int) false y.f0 y.f1 y.f2 y.f3 y.f4.f0 y.f4.f1 y.f4.f2 y.f4.f3 y.f5 y.f6) (prefG (fun j => (bgG b j : Int)) b.length b.length) := fun x6 x7 hx hp => by
      have hq : Ev (fun k => if (0 : Int) ≤ (i : Int) then (if (i : Int) < ((prefG (fun j => (bgG b j : Int)) b.length i).length : Int) then script_begins.l0 k ((prefG (fun j => (bgG b j : Int)) b.length i).set (i : Int).toNat x6) (ys l b) (b.length : Int) (wrap64 ((i : Int) + 1)) else none) else none) (prefG (fun j => (bgG b j : Int)) b.length b.length) :=
        Ev.pos (by omega) (Ev.pos (by omega) (by rw [Int.toNat_natCast]; exact hset _ hx))
      refine Ev.step (fun _ => by rw [script_begins.j4]) ?_
      refine Ev.neg (by simp) ?_
      refine Ev.ite (fun _ => ?_) (fun _ => hq)
      refine Ev.ite (fun hf => ?_) (fun _ => hq)
      have := hp hf
      exact Ev.neg (by omega) hq
    have hw1 : wrap64 ((0 : Int) + 1) = 1 := by rw [w64] <;> omega
    have hw2 : wrap64 ((1 : Int) + 1) = 2 := by rw [w64] <;> omega
    have hfi : y.f1 ≤ (i : Int) := by
      rcases h9 with c | c | c
      · omega
      · have := (unaryG h hlt c).1
        omega
      · have := (binaryG h hlt c).1
        have := (binaryG h hlt c).2.1
        omega
    refine Ev.neg (by simp; omega) ?_
    refine Ev.step (fun _ => by rw [script_begins.j2]) ?_
    refine Ev.step (fun _ => by rw [script_begins.l1]) ?_
    rcases h9 with c | c | c
    · obtain ⟨e1, e2⟩ := leafG c
      refine Ev.neg (by omega) ?_
      exact hfin _ _ (by omega) (fun h => by omega)
    · obtain ⟨e0, e1, e2, e3, e4⟩ := unaryG h hlt c
      refine Ev.pos (by omega) ?_
      refine Ev.step (fun _ => by rw [script_begins.j4]) ?_
      refine Ev.pos (by simp; omega) ?_
      rw [hw0, show (i : Int) - 1 = ((i - 1 : Nat) : Int) by omega, prefG_rd _ _ _ _ (by omega) (by omega), hw1]
      refine Ev.pos (by omega) (Ev.pos (by omega) ?_)
      have hl1 : Ev (fun k => script_begins.l1 k (prefG (fun j => (bgG b j : Int)) b.length i) (i : Int) (bgG b (i - 1) : Int) 1 (ys l b) (b.length : Int) (i : Int) y.f0 y.f1 y.f2 y.f3 y.f4.f0 y.f4.f1 y.f4.f2 y.f4.f3 y.f5 y.f6) (prefG (fun j => (bgG b j : Int)) b.length b.length) := by
        refine Ev.step (fun _ => by rw [script_begins.l1]) ?_
        refine Ev.neg (by omega) ?_
        exact hfin _ _ (by omega) (fun _ => e0)
      refine Ev.ite (fun _ => ?_) (fun _ => hl1)
      exact Ev.neg (by rw [h2, c, w64] <;> omega) hl1
    · obtain ⟨e0, e1, e2, e3, e4, e5, e6⟩ := binaryG h hlt c
      refine Ev.pos (by omega) ?_
      refine Ev.step (fun _ => by rw [script_begins.j4]) ?_
      refine Ev.pos (by simp; omega) ?_
      rw [hw0, show (i : Int) - 1 = ((i - 1 : Nat) : Int) by omega, prefG_rd _ _ _ _ (by omega) (by omega), hw1]
      refine Ev.pos (by omega) (Ev.pos (by omega) ?_)
      refine Ev.neg (by omega) ?_
      refine Ev.step (fun _ => by rw [script_begins.l1]) ?_
      refine Ev.pos (by omega) ?_
      refine Ev.step (fun _ => by rw [script_begins.j4]) ?_
      refine Ev.pos (by simp; omega) ?_
      rw [show wrap64 ((bgG b (i - 1) : Int) - 1) = ((bgG b (i - 1) - 1 : Nat) : Int) by rw [w64] <;> omega, prefG_rd _ _ _ _ (by omega) (by omega), hw2]
      refine Ev.pos (by omega) (Ev.pos (by omega) ?_)
      have hl1 : Ev (fun k => script_begins.l1 k (prefG (fun j => (bgG b j : Int)) b.length i) (i : Int) (bgG b (bgG b (i - 1) - 1) : Int) 2 (ys l b) (b.length : Int) (i : Int) y.f0 y.f1 y.f2 y.f3 y.f4.f0 y.f4.f1 y.f4.f2 y.f4.f3 y.f5 y.f6) (prefG (fun j => (bgG b j : Int)) b.length b.length) := by
        refine Ev.step (fun _ => by rw [script_begins.l1]) ?_
        refine Ev.neg (by omega) ?_
        exact hfin _ _ (by omega) (fun _ => by omega)
      refine Ev.ite (fun _ => ?_) (fun _ => hl1)
      exact Ev.neg (by rw [h2, c, w64] <;> omega) hl1
theorem begins_ev (h : RightG r b) (hn : b.length ≤ 1048576) : Ev (fun k => script_begins.f k (ys l b)) (prefG (fun j => (bgG b j : Int)) b.length b.length) := by
  unfold script_begins.f
  have hl : (ys l b).length = b.length := by simp [ys]
  rw [hl]
  refine Ev.pos (by omega) (Ev.pos (by omega) ?_)
  rw [Int.toNat_natCast, ← prefG_zero (fun j => (bgG b j : Int))]
  exact begins_loop l h hn b.length 0 (by omega)
theorem tree_some (h : RightG r b) (hn : b.length ≤ 1048576) : script_tree.f (ys l b) (prefG (fun j => (bgG b j : Int)) b.length b.length) = some true := by
  obtain ⟨h0, h1, _⟩ := lastG h
  unfold script_tree.f
  have hl : (ys l b).length = b.length := by simp [ys]
  rw [hl, show wrap64 ((b.length : Int) - 1) = ((b.length - 1 : Nat) : Int) by rw [w64] <;> omega, if_pos (by omega), if_pos (by omega), if_pos (by rw [prefG_len]; omega), prefG_rd _ _ _ _ (by omega) (by omega), h1]
  rfl
def partsG (b : List Node) (i : Nat) : List Int := if ct (kdG b i) = 0 then [] else if ct (kdG b i) = 1 then [((i - 1 : Nat) : Int)] else [((bgG b (i - 1) - 1 : Nat) : Int), ((i - 1 : Nat) : Int)]
theorem parts_evG (h : RightG r b) (hn : b.length ≤ 1048576) {i : Nat} (hlt : i < b.length) : Ev (fun k => script_parts.f k (ys l b) (prefG (fun j => (bgG b j : Int)) b.length b.length) (i : Int)) (partsG b i) := by
  have hl : (ys l b).length = b.length := by simp [ys]
  have hpl := prefG_len (fun j => (bgG b j : Int)) b.length b.length
  have h1 := h.kind i hlt
  have h2 := arG l h hlt
  have h3 := (ct_range (kdG b i)).2
  have h9 : ct (kdG b i) = 0 ∨ ct (kdG b i) = 1 ∨ ct (kdG b i) = 2 := by omega
  unfold script_parts.f
  refine Ev.neg (by omega) (Ev.neg (by omega) (Ev.pos (by omega) (Ev.pos (by omega) ?_)))
  rw [prefG_rd _ _ _ _ hlt hlt]
  refine Ev.neg (by omega) (Ev.pos (by omega) ?_)
  rw [rdY l b i hlt]
  refine Ev.step (fun _ => by rw [script_parts.j0]) ?_
  unfold partsG
  rcases h9 with c | c | c
  · rw [if_pos c]
    exact Ev.pos (by rw [h2, c]; rfl) (Ev.now _)
  · obtain ⟨e0, e1, e2, e3, e4⟩ := unaryG h hlt c
    rw [if_neg (by omega), if_pos c]
    refine Ev.neg (by rw [h2, c]; decide) (Ev.pos (by omega) (Ev.pos (by omega) ?_))
    rw [rdY l b i hlt, h2, c]
    refine Ev.pos (by omega) (Ev.pos (by decide) ?_)
    simp only [Option.bind_some]
    rw [show wrap64 (((List.replicate (Int.toNat 1) (0 : Int)).length : Int) - 1) = 0 by rw [w64] <;> simp]
    refine Ev.step (fun _ => by rw [script_parts.l0]) ?_
    rw [show wrap64 ((i : Int) - 1) = ((i - 1 : Nat) : Int) by rw [w64] <;> omega]
    refine Ev.pos (by omega) (Ev.pos (by omega) (Ev.pos (by simp) (Ev.pos (by omega) (Ev.pos (by omega) ?_))))
    refine Ev.step (fun _ => by rw [script_parts.l0]) ?_
    exact Ev.neg (by rw [w64] <;> omega) (Ev.some_ rfl)
  · obtain ⟨e0, e1, e2, e3, e4, e5, e6⟩ := binaryG h hlt c
    rw [if_neg (by omega), if_neg (by omega)]
    refine Ev.neg (by rw [h2, c]; decide) (Ev.pos (by omega) (Ev.pos (by omega) ?_))
    rw [rdY l b i hlt, h2, c]
    refine Ev.pos (by omega) (Ev.pos (by decide) ?_)
    simp only [Option.bind_some]
    rw [show wrap64 (((List.replicate (Int.toNat 2) (0 : Int)).length : Int) - 1) = 1 by rw [w64] <;> simp]
    refine Ev.step (fun _ => by rw [script_parts.l0]) ?_
    rw [show wrap64 ((i : Int) - 1) = ((i - 1 : Nat) : Int) by rw [w64] <;> omega]
    refine Ev.pos (by omega) (Ev.pos (by omega) (Ev.pos (by simp) (Ev.pos (by omega) (Ev.pos (by omega) ?_))))
    rw [prefG_rd _ _ _ _ (by omega) (by omega), show wrap64 ((1 : Int) - 1) = 0 by rw [w64] <;> omega]
    refine Ev.step (fun _ => by rw [script_parts.l0]) ?_
    rw [show wrap64 ((bgG b (i - 1) : Int) - 1) = ((bgG b (i - 1) - 1 : Nat) : Int) by rw [w64] <;> omega]
    refine Ev.pos (by omega) (Ev.pos (by omega) (Ev.pos (by simp) (Ev.pos (by omega) (Ev.pos (by omega) ?_))))
    refine Ev.step (fun _ => by rw [script_parts.l0]) ?_
    exact Ev.neg (by rw [w64] <;> omega) (Ev.some_ rfl)
theorem nest_loop (h : RightG r b) (hn : b.length ≤ 1048576) : ∀ d i : Nat, i + d = b.length → Ev (fun k => script_nest.l0 k (ys l b) (prefG (fun j => (bgG b j : Int)) b.length b.length) (prefG (dpG b) b.length i) (mostG b i) (b.length : Int) (i : Int)) (mostG b b.length)
  | 0, i, hi => by
    refine Ev.step (fun _ => by rw [script_nest.l0]) ?_
    exact Ev.neg (by omega) (Ev.some_ (by rw [show i = b.length by omega]))
  | d + 1, i, hi => by
    have hlt : i < b.length := by omega
    have ih := nest_loop h hn d (i + 1) (by omega)
    have h1 := h.kind i hlt
    have h3 := (ct_range (kdG b i)).2
    have h9 : ct (kdG b i) = 0 ∨ ct (kdG b i) = 1 ∨ ct (kdG b i) = 2 := by omega
    have hb := boundG h i hlt
    have hpl := prefG_len (dpG b) b.length i
    have hrd : ∀ (v : Int) (j : Nat), j < i → rd ((prefG (dpG b) b.length i).set i v) (j : Int) = dpG b j := fun v j hj => by
      rw [rd, List.getD_eq_getElem?_getD, Int.toNat_natCast, List.getElem?_set_ne (by omega), ← List.getD_eq_getElem?_getD]
      have := prefG_rd (dpG b) b.length i j hj (by omega)
      rwa [rd, Int.toNat_natCast] at this
    have hri : ∀ v : Int, rd ((prefG (dpG b) b.length i).set i v) (i : Int) = v := fun v => by
      rw [rd, List.getD_eq_getElem?_getD, Int.toNat_natCast, List.getElem?_set_self (by omega)]
      rfl
    have hfin : ∀ (ps : List Int) (x25 x26 : Int) (v : Int), v = dpG b i → ¬ x26 < x25 → Ev (fun k => script_nest.l1 k (ys l b) (prefG (fun j => (bgG b j : Int)) b.length b.length) ((prefG (dpG b) b.length i).set i v) (mostG b i) (i : Int) (b.length : Int) (i : Int) ps x25 x26) (mostG b b.length) := fun ps x25 x26 v hv hx => by
      refine Ev.step (fun _ => by rw [script_nest.l1]) ?_
      refine Ev.neg hx (Ev.pos (by omega) (Ev.pos (by rw [List.length_set]; omega) ?_))
      rw [hri, prefG_set (dpG b) _ _ _ hv hlt, show wrap64 ((i : Int) + 1) = ((i + 1 : Nat) : Int) by rw [w64] <;> omega, show mx (mostG b i) v = mostG b (i + 1) by rw [mostG, mx, hv]; split <;> omega]
      exact ih
    refine Ev.step (fun _ => by rw [script_nest.l0]) ?_
    refine Ev.pos (by omega) (Ev.pos (by omega) (Ev.pos (by omega) ?_))
    refine Ev.bind (parts_evG l h hn hlt) ?_
    rw [Int.toNat_natCast]
    rcases h9 with c | c | c
    · obtain ⟨e1, e2⟩ := leafG c
      rw [partsG, if_pos c]
      exact hfin _ _ _ _ e2.symm (by simp)
    · obtain ⟨e0, e1, e2, e3, e4⟩ := unaryG h hlt c
      have hb1 := boundG h (i - 1) (by omega)
      rw [partsG, if_neg (by omega), if_pos c]
      refine Ev.step (fun _ => by rw [script_nest.l1]) ?_
      refine Ev.pos (by simp) (Ev.pos (by omega) (Ev.pos (by simp) (Ev.pos (by omega) (Ev.pos (by rw [List.length_set]; omega) ?_))))
      rw [show rd [((i - 1 : Nat) : Int)] 0 = ((i - 1 : Nat) : Int) from rfl]
      refine Ev.pos (by omega) (Ev.pos (by rw [List.length_set]; omega) ?_)
      rw [Int.toNat_natCast, List.set_set, hri, hrd _ _ (by omega), show wrap64 (dpG b (i - 1) + 1) = dpG b (i - 1) + 1 by rw [w64] <;> omega, show wrap64 ((0 : Int) + 1) = 1 by rw [w64] <;> omega]
      exact hfin _ _ _ _ (by rw [mx]; split <;> omega) (by simp)
    · obtain ⟨e0, e1, e2, e3, e4, e5, e6⟩ := binaryG h hlt c
      have hb1 := boundG h (i - 1) (by omega)
      have hb2 := boundG h (bgG b (i - 1) - 1) (by omega)
      rw [partsG, if_neg (by omega), if_neg (by omega)]
      refine Ev.step (fun _ => by rw [script_nest.l1]) ?_
      refine Ev.pos (by simp) (Ev.pos (by omega) (Ev.pos (by simp) (Ev.pos (by omega) (Ev.pos (by rw [List.length_set]; omega) ?_))))
      rw [show rd [((bgG b (i - 1) - 1 : Nat) : Int), ((i - 1 : Nat) : Int)] 0 = ((bgG b (i - 1) - 1 : Nat) : Int) from rfl]
      refine Ev.pos (by omega) (Ev.pos (by rw [List.length_set]; omega) ?_)
      rw [Int.toNat_natCast, List.set_set, hri, hrd _ _ (by omega), show wrap64 (dpG b (bgG b (i - 1) - 1) + 1) = dpG b (bgG b (i - 1) - 1) + 1 by rw [w64] <;> omega, show wrap64 ((0 : Int) + 1) = 1 by rw [w64] <;> omega]
      refine Ev.step (fun _ => by rw [script_nest.l1]) ?_
      refine Ev.pos (by simp) (Ev.pos (by omega) (Ev.pos (by simp) (Ev.pos (by omega) (Ev.pos (by rw [List.length_set]; omega) ?_))))
      rw [show rd [((bgG b (i - 1) - 1 : Nat) : Int), ((i - 1 : Nat) : Int)] 1 = ((i - 1 : Nat) : Int) from rfl]
      refine Ev.pos (by omega) (Ev.pos (by rw [List.length_set]; omega) ?_)
      rw [Int.toNat_natCast, List.set_set, hri, hrd _ _ (by omega), show wrap64 (dpG b (i - 1) + 1) = dpG b (i - 1) + 1 by rw [w64] <;> omega, show wrap64 ((1 : Int) + 1) = 2 by rw [w64] <;> omega]
      exact hfin _ _ _ _ (by rw [mx, mx]; split <;> split <;> omega) (by simp)
theorem nest_ev (h : RightG r b) (hn : b.length ≤ 1048576) : Ev (fun k => script_Nest.f k (ys l b)) (mostG b b.length) := by
  unfold script_Nest.f
  refine Ev.bind (begins_ev l h hn) ?_
  rw [tree_some l h hn]
  simp only [Option.bind_some, if_true]
  have hl : (ys l b).length = b.length := by simp [ys]
  have : Ev (fun k => script_nest.f k (ys l b) (prefG (fun j => (bgG b j : Int)) b.length b.length)) (mostG b b.length) := by
    unfold script_nest.f
    rw [hl]
    refine Ev.pos (by omega) (Ev.pos (by omega) ?_)
    rw [Int.toNat_natCast, ← prefG_zero (dpG b)]
    exact nest_loop l h hn b.length 0 (by omega)
  exact Ev.bind this (Ev.now _)
end
end Go.Proofs.Ytebiogaacikphaa.Core
end
