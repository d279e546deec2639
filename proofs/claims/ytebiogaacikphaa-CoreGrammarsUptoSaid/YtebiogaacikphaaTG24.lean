/- Parts of the proof of coreGrammars: GramCalls. No condition beyond each lemma's own. -/
import Derived.Test.YtebiogaacikphaaTG18
import Derived.Test.YtebiogaacikphaaTG22
import Derived.Test.YtebiogaacikphaaTG23
section
namespace Go.Proofs.Ytebiogaacikphaa.Core
open Go.RowKit Go.Proofs.YtebiogaacikphaaW.PrintWords Go.Proofs.Ytebiogaacikphaa.PAll
set_option linter.unusedVariables false
set_option linter.unusedSimpArgs false
theorem arity_at (k : Nat) (a : Int) : core_arity.f (k + 1) a = some (ar a) := by
  obtain ⟨K, hK⟩ := arity_ev a
  have h1 := hK (K + k + 1) (by omega)
  rw [← h1]
  unfold core_arity.f
  simp only [core_arity.j0]
theorem nests_at (l : List Rule) (h : ∀ i, i < l.length → RightG l.length (body l i)) (hn : ∀ i, i < l.length → (body l i).length ≤ 1048576) : ∀ n, n ≤ l.length → ∃ K, ∀ k, K ≤ k → ∀ i, i < n → script_Nest.f k (nods l i) = some (nstG l i)
  | 0, _ => ⟨0, fun k _ i hi => absurd hi (by omega)⟩
  | n + 1, hn1 => by
    obtain ⟨K, hK⟩ := nests_at l h hn n (by omega)
    obtain ⟨K2, hK2⟩ := nest_ev l (h n (by omega)) (hn n (by omega))
    refine ⟨max K K2, fun k hk i hi => ?_⟩
    rcases Nat.lt_or_ge i n with h1 | h1
    · exact hK k (by omega) i h1
    · obtain rfl : i = n := by omega
      exact hK2 k (by omega)
/-- What core.Grammar answers. -/
def GrAll (w w' : World) (l : List Rule) (st : Int) (e : Ending) : Prop :=
  (checkB l st = false ∧ e = .returned (.tuple #[.agg #[.slice none 0 0, .slice none 0 0], .int .i64 6])) ∨ (checkB l st = true ∧ sizeL l > 4096 ∧ e = .returned (.tuple #[.agg #[.slice none 0 0, .slice none 0 0], .int .i64 52])) ∨ (checkB l st = true ∧ ¬ sizeL l > 4096 ∧ GrOut w w' l (nstG l) e)
theorem grammar_calls (A : Option Addr) (c : Nat) (l : List Rule) (st : Int) (w : World) (hr : Kd.C k30 w A l.length l) (hc : l.length ≤ c) (hf : Fit l) :
    Calls Try.prog 30 #[.agg #[.slice A l.length c, .int .i64 st]] w fun e w' => GrAll w w' l st e ∧ Below w.heap.size w w' := by
  obtain ⟨K1, h1⟩ := ccheck_ev l st hf
  cases hck : checkB l st with
  | false =>
    have := h1 K1 (Nat.le_refl _)
    rw [hck] at this
    refine (grammar_bad K1 A c l st w hr hc this).mono (fun e w' h => ⟨.inl ⟨hck, h.1⟩, h.2⟩)
  | true =>
    obtain ⟨p1, p2, p3, p4, p5, p6⟩ := check_parts l st hck
    obtain ⟨K2, h2⟩ := csize_ev l st hf (by omega)
    rw [hck] at h1
    by_cases hs : sizeL l > 4096
    · refine (grammar_many (K1 + K2) A c l st w hr hc (h1 _ (by omega)) (h2 _ (by omega)) hs).mono (fun e w' h => ⟨.inr (.inl ⟨hck, hs, h.1⟩), h.2⟩)
    · have hb : ∀ i, i < l.length → (body l i).length ≤ 4096 := fun i hi => by have := body_size l i hi; omega
      obtain ⟨K3, h3⟩ := nests_at l p6 (fun i hi => by have := hb i hi; omega) l.length (Nat.le_refl _)
      refine (grammar_ok (K1 + K2 + K3 + 1) A c l st w hr hc (h1 _ (by omega)) (h2 _ (by omega)) (by omega) p2 (fun a => arity_at _ a) hb (fun i hi x hx => ?_) (nstG l) (h3 _ (by omega))).mono (fun e w' h => ⟨.inr (.inr ⟨hck, hs, h.1⟩), h.2⟩)
      obtain ⟨j, hj, rfl⟩ := List.mem_iff_getElem.1 hx
      have hk := (p6 i hi).kind j hj
      have hcl := (p6 i hi).clean j hj
      rw [kdG_at _ _ hj] at hk
      rw [show (body l i).getD j zNode = (body l i)[j] by rw [List.getD_eq_getElem?_getD, List.getElem?_eq_getElem hj]; rfl] at hcl
      have h08 : 0 ≤ (body l i)[j].f0 ∧ (body l i)[j].f0 ≤ 8 := by
        by_cases h : 0 ≤ (body l i)[j].f0 ∧ (body l i)[j].f0 ≤ 8
        · exact h
        · have := (ct_neg (body l i)[j].f0).2 h
          omega
      refine ⟨h08.1, h08.2, fun e => ?_⟩
      rw [cleanB_2 _ _ e] at hcl
      simp only [Bool.and_eq_true, decide_eq_true_eq] at hcl
      omega
section
variable (b : List Nod)
theorem nodes_loop (hl : b.length ≤ 1048576) : ∀ d i : Nat, i + d = b.length → Ev (fun k => dowelbook_Nodes.l0 k b b (i : Int)) true
  | 0, i, h => by
    refine Ev.step (fun _ => by rw [dowelbook_Nodes.l0]) ?_
    exact Ev.neg (by omega) (Ev.some_ rfl)
  | d + 1, i, h => by
    have ih := nodes_loop hl d (i + 1) (by omega)
    refine Ev.step (fun _ => by rw [dowelbook_Nodes.l0]) ?_
    refine Ev.pos (by omega) (Ev.pos (by omega) (Ev.pos (by omega) (Ev.neg (by simp) ?_)))
    rw [show wrap64 ((i : Int) + 1) = ((i + 1 : Nat) : Int) by rw [w64] <;> omega]
    exact ih
theorem nodes_ev (hl : b.length ≤ 1048576) : Ev (fun k => dowelbook_Nodes.f k b b) true := by
  unfold dowelbook_Nodes.f
  exact Ev.pos rfl (nodes_loop b hl b.length 0 (by omega))
end
theorem texts_ev : Ev (fun k => dowelbook_Texts.f k ([] : List ByteArray) ([] : List ByteArray)) true := by
  unfold dowelbook_Texts.f
  refine Ev.pos rfl ?_
  refine Ev.step (fun _ => by rw [dowelbook_Texts.l0]) ?_
  exact Ev.neg (by simp) (Ev.some_ rfl)
section
variable (l : List (S125))
theorem grammars_loop (hl : l.length ≤ 65536) (hp : ∀ r ∈ l, r.f1 = [] ∧ r.f2.length ≤ 1048576) : ∀ d i : Nat, i + d = l.length → Ev (fun k => dowelbook_Grammars.l1 k (i : Int) [] l [] l) true
  | 0, i, h => by
    refine Ev.step (fun _ => by rw [dowelbook_Grammars.l1]) ?_
    exact Ev.neg (by omega) (Ev.some_ rfl)
  | d + 1, i, h => by
    have hlt : i < l.length := by omega
    have ih := grammars_loop hl hp d (i + 1) (by omega)
    obtain ⟨y, hy⟩ : ∃ y, rd_T125 l (i : Int) = y := ⟨_, rfl⟩
    have hmem : y ∈ l := by
      rw [← hy, rd_T125, Int.toNat_natCast, List.getD_eq_getElem?_getD, List.getElem?_eq_getElem hlt]
      exact List.getElem_mem hlt
    obtain ⟨q1, q2⟩ := hp y hmem
    refine Ev.step (fun _ => by rw [dowelbook_Grammars.l1]) ?_
    refine Ev.pos (by omega) (Ev.pos (by omega) (Ev.pos (by omega) (Ev.pos rfl ?_)))
    rw [hy, q1]
    refine Ev.bind texts_ev (Ev.pos rfl (Ev.bind (nodes_ev _ q2) ?_))
    refine Ev.step (fun _ => by rw [dowelbook_Grammars.j3]) ?_
    refine Ev.neg (by simp) ?_
    rw [show wrap64 ((i : Int) + 1) = ((i + 1 : Nat) : Int) by rw [w64] <;> omega]
    exact ih
theorem grammars_ev (hl : l.length ≤ 65536) (hp : ∀ r ∈ l, r.f1 = [] ∧ r.f2.length ≤ 1048576) : Ev (fun k => dowelbook_Grammars.f k [] l [] l) true := by
  unfold dowelbook_Grammars.f
  refine Ev.pos rfl ?_
  refine Ev.step (fun _ => by rw [dowelbook_Grammars.j0]) ?_
  refine Ev.neg (by simp) ?_
  refine Ev.step (fun _ => by rw [dowelbook_Grammars.l0]) ?_
  refine Ev.neg (by simp) ?_
  exact grammars_loop l hl hp l.length 0 (by omega)
end
end Go.Proofs.Ytebiogaacikphaa.Core
end
