/- Parts of the proof of coreGrammars: GramRef, PAllx4, PAllx31, PAllx5. No condition beyond each lemma's own. -/
import Derived.Test.YtebiogaacikphaaTG4
import Derived.Test.YtebiogaacikphaaTG5
import Derived.Test.YtebiogaacikphaaTG6
import Derived.Test.YtebiogaacikphaaTG10
import Derived.Test.YtebiogaacikphaaTG12
import Derived.Test.YtebiogaacikphaaTG19
import Derived.Test.YtebiogaacikphaaTG20
import Derived.Test.YtebiogaacikphaaTG21
section
namespace Go.Proofs.Ytebiogaacikphaa.Core
open Go.RowKit Go.Proofs.YtebiogaacikphaaW.PrintWords Go.Proofs.Ytebiogaacikphaa.PAll
set_option linter.unusedVariables false
set_option linter.unusedSimpArgs false
def hpG (b : List Node) (i : Nat) : List Int := ((stG b i).map (·.2)).reverse
theorem rd_at (l r : List Int) (x : Int) (n : Nat) (h : n = l.length) : rd (l ++ x :: r) (n : Int) = x := by
  subst h
  rw [rd, Int.toNat_natCast, List.getD_eq_getElem?_getD, List.getElem?_append_right (Nat.le_refl _), Nat.sub_self]
  rfl
section
variable {r : Int} {b : List Node} (l : List Rule)
theorem refnest_loop (h : RightG r b) (hn : b.length ≤ 1048576) : ∀ d i : Nat, i + d = b.length → Ev (fun k => dowelref09_Nest.l0 k b (hpG b i) (i : Int)) (mostG b b.length)
  | 0, i, hi => by
    obtain ⟨h0, h1, h2, h3⟩ := lastG h
    refine Ev.step (fun _ => by rw [dowelref09_Nest.l0]) ?_
    refine Ev.neg (by omega) ?_
    rw [hpG, show i = b.length by omega, h3]
    exact Ev.pos (by simp) (Ev.some_ (by rw [h2]; rfl))
  | d + 1, i, hi => by
    have hlt : i < b.length := by omega
    have ih := refnest_loop h hn d (i + 1) (by omega)
    have h1 := h.kind i hlt
    have h3 := (ct_range (kdG b i)).2
    have h9 : ct (kdG b i) = 0 ∨ ct (kdG b i) = 1 ∨ ct (kdG b i) = 2 := by omega
    have hb := boundG h i hlt
    have hl := stG_len h i (by omega)
    have h2 := h.has i hlt
    have hh : (hpG b i).length = (stG b i).length := by simp [hpG]
    have hd : dpG b i = ((stG b (i + 1)).headD (0, 0)).2 := rfl
    have hsl : (stG b i).length ≤ 1048576 := by
      have : ∀ j, j ≤ b.length → deepG b j ≤ j := fun j hj => by
        induction j with
        | zero => exact Int.le_refl _
        | succ j ih =>
          have := ih (by omega)
          have := h.kind j (by omega)
          rw [deepG]
          omega
      have := this i (by omega)
      omega
    refine Ev.step (fun _ => by rw [dowelref09_Nest.l0]) ?_
    refine Ev.pos (by omega) (Ev.pos (by omega) ?_)
    rw [rdN b i hlt, ← kdG_at b i hlt]
    refine Ev.bind (count_ev _) ?_
    have hfin : ∀ (rest : List Int) (v : Int) (x7 : Int), ¬ x7 < ((hpG b i).length : Int) → (hpG b i).take rest.length = rest → rest.length ≤ (hpG b i).length → rest ++ [v + 1] = hpG b (i + 1) → 0 ≤ v → v ≤ 1048576 → Ev (fun k => dowelref09_Nest.l1 k b (hpG b i) (i : Int) (rest.length : Int) v x7) (mostG b b.length) := fun rest v x7 hx ht hle he h0 hv => by
      refine Ev.step (fun _ => by rw [dowelref09_Nest.l1]) ?_
      refine Ev.neg hx (Ev.pos (by omega) (Ev.pos (by omega) ?_))
      rw [Int.toNat_natCast, ht]
      simp only [Option.bind_some]
      refine Ev.pos (by omega) ?_
      rw [show wrap64 (v + 1) = v + 1 by rw [w64] <;> omega, he, show wrap64 ((i : Int) + 1) = ((i + 1 : Nat) : Int) by rw [w64] <;> omega]
      exact ih
    rcases h9 with c | c | c
    · rw [c, show wrap64 (((hpG b i).length : Int) - 0) = ((hpG b i).length : Int) by rw [w64] <;> omega]
      refine hfin (hpG b i) 0 _ (by omega) (List.take_length) (Nat.le_refl _) ?_ (by omega) (by omega)
      rw [hpG, hpG, stG, if_pos c, List.map_cons, List.reverse_cons]
      rfl
    · match hs : stG b i with
      | [] => rw [hs] at hl; simp at hl; omega
      | (p, e) :: t =>
        have hr : hpG b i = (t.map (·.2)).reverse ++ [e] := by rw [hpG, hs, List.map_cons, List.reverse_cons]
        have hr1 : hpG b (i + 1) = (t.map (·.2)).reverse ++ [e + 1] := by rw [hpG, stG, if_neg (by omega), if_pos c, hs, List.map_cons, List.reverse_cons]
        rw [stG, if_neg (by omega), if_pos c, hs] at hd
        simp only [List.headD_cons] at hd
        have ha := agreeG h i (by omega)
        rw [hs] at ha
        obtain ⟨a1, a2, a3, a4, a5⟩ := ha
        have hlen : ((t.map (·.2)).reverse).length + 1 = (hpG b i).length := by rw [hr]; simp
        rw [c, show wrap64 (((hpG b i).length : Int) - 1) = (((t.map (·.2)).reverse.length : Nat) : Int) by rw [w64] <;> omega]
        refine Ev.step (fun _ => by rw [dowelref09_Nest.l1]) ?_
        refine Ev.pos (by omega) (Ev.pos (by omega) ?_)
        rw [show rd (hpG b i) (((t.map (·.2)).reverse.length : Nat) : Int) = e by rw [hr]; exact rd_at _ _ _ _ rfl, show mx 0 e = e by rw [mx]; split <;> omega]
        exact hfin _ e _ (by rw [w64] <;> omega) (by rw [hr]; exact List.take_left) (by omega) hr1.symm (by omega) (by omega)
    · match hs : stG b i with
      | [] => rw [hs] at hl; simp at hl; omega
      | [x] => rw [hs] at hl; simp at hl; omega
      | (p2, e2) :: (p, e) :: t =>
        have hr : hpG b i = (t.map (·.2)).reverse ++ [e, e2] := by rw [hpG, hs, List.map_cons, List.reverse_cons, List.map_cons, List.reverse_cons, List.append_assoc]; rfl
        have hr1 : hpG b (i + 1) = (t.map (·.2)).reverse ++ [max e e2 + 1] := by rw [hpG, stG, if_neg (by omega), if_neg (by omega), hs, List.map_cons, List.reverse_cons]
        rw [stG, if_neg (by omega), if_neg (by omega), hs] at hd
        simp only [List.headD_cons] at hd
        have ha := agreeG h i (by omega)
        rw [hs] at ha
        obtain ⟨a1, a2, a3, a4, b1, b2, b3, b4, b5⟩ := ha
        have hlen : ((t.map (·.2)).reverse).length + 2 = (hpG b i).length := by rw [hr]; simp
        rw [c, show wrap64 (((hpG b i).length : Int) - 2) = (((t.map (·.2)).reverse.length : Nat) : Int) by rw [w64] <;> omega]
        refine Ev.step (fun _ => by rw [dowelref09_Nest.l1]) ?_
        refine Ev.pos (by omega) (Ev.pos (by omega) ?_)
        rw [show rd (hpG b i) (((t.map (·.2)).reverse.length : Nat) : Int) = e by rw [hr]; exact rd_at _ _ _ _ rfl, show mx 0 e = e by rw [mx]; split <;> omega, show wrap64 ((((t.map (·.2)).reverse.length : Nat) : Int) + 1) = (((t.map (·.2)).reverse.length + 1 : Nat) : Int) by rw [w64] <;> omega]
        refine Ev.step (fun _ => by rw [dowelref09_Nest.l1]) ?_
        refine Ev.pos (by omega) (Ev.pos (by omega) ?_)
        rw [show rd (hpG b i) (((t.map (·.2)).reverse.length + 1 : Nat) : Int) = e2 by rw [hr, show (t.map (·.2)).reverse ++ [e, e2] = ((t.map (·.2)).reverse ++ [e]) ++ [e2] by simp]; exact rd_at _ _ _ _ (by simp), show mx e e2 = max e e2 by rw [mx]; split <;> omega]
        exact hfin _ (max e e2) _ (by rw [w64] <;> omega) (by rw [hr]; exact List.take_left) (by omega) hr1.symm (by omega) (by omega)
theorem refnest_ev (h : RightG r b) (hn : b.length ≤ 1048576) : Ev (fun k => dowelref09_Nest.f k b) (mostG b b.length) := refnest_loop h hn b.length 0 (by omega)
end
theorem zeroC_eq {c : Class} (h : zeroC c = true) : c = ⟨0, 0, 0, 0⟩ := by
  simp only [zeroC, Bool.and_eq_true, beq_iff_eq] at h
  obtain ⟨⟨⟨h0, h1⟩, h2⟩, h3⟩ := h
  cases c
  simp_all
theorem empty_eq {s : ByteArray} (h : (s.data.toList == []) = true) : s = ⟨#[]⟩ := by
  have h : s.data.toList = [] := by simpa using h
  obtain ⟨⟨d⟩⟩ := s
  simp at h
  subst h
  rfl
theorem surface_some (l : List Rule) (st : Int) (x : Node) (hk : 0 ≤ ct x.f0) (hc : cleanB x l.length = true) :
    dowelref09_surface.f l st x.f0 x.f1.f0 x.f1.f1 x.f1.f2 x.f1.f3 x.f2 x.f3 = some ((nodOf l x).f0, (nodOf l x).f1, (nodOf l x).f2, (nodOf l x).f3, (nodOf l x).f4.f0, (nodOf l x).f4.f1, (nodOf l x).f4.f2, (nodOf l x).f4.f3, (nodOf l x).f5, (nodOf l x).f6) := by
  have h9 : x.f0 = 0 ∨ x.f0 = 1 ∨ x.f0 = 2 ∨ x.f0 = 3 ∨ x.f0 = 4 ∨ x.f0 = 5 ∨ x.f0 = 6 ∨ x.f0 = 7 ∨ x.f0 = 8 := by
    by_cases h : 0 ≤ x.f0 ∧ x.f0 ≤ 8
    · omega
    · have := (ct_neg x.f0).2 h
      omega
  unfold dowelref09_surface.f
  rcases h9 with e | e | e | e | e | e | e | e | e
  all_goals
    first
      | (rw [cleanB_1 x _ e] at hc; simp only [Bool.and_eq_true, beq_iff_eq] at hc; simp [nodOf, opN, ar, e, empty_eq (s := x.f3) (by simpa using hc.2)]; done)
      | (rw [cleanB_2 x _ e] at hc; simp only [Bool.and_eq_true, beq_iff_eq, decide_eq_true_eq] at hc; rw [if_neg (by omega), if_pos e, if_pos (by omega), if_pos (by omega)]; simp [nodOf, opN, ar, e, zeroC_eq hc.1.1]; done)
      | (rw [cleanB_38 x _ (by omega)] at hc; simp only [Bool.and_eq_true] at hc; simp [nodOf, opN, ar, e, zeroC_eq hc.1.1]; done)
      | (rw [cleanB_o x _ (by omega) (by omega) (by omega)] at hc; simp only [Bool.and_eq_true] at hc; simp [nodOf, opN, ar, e, zeroC_eq hc.1.1, empty_eq hc.2]; done)
def Rul := S125
def ruleOut (l : List Rule) (i : Nat) : S125 := ⟨(rd_T30 l (i : Int)).f0, [], nods l i⟩
def rulesOut (l : List Rule) (n : Nat) : List (S125) := (List.range n).map (ruleOut l)
def nstG (l : List Rule) (i : Nat) : Int := mostG (body l i) (body l i).length
section
variable (l : List Rule) (st : Int)
theorem nods_loop (hl : l.length ≤ 65536) {i : Nat} (hi : i < l.length) (h : RightG l.length (body l i)) (hn : (body l i).length ≤ 1048576) (acc : List (S125)) (R : (List (S129)) × (List (S125)) × Int) (ha : acc.length ≤ 65536)
    (hr : Ev (fun k => dowelref09_Grammar.l0 k ((i + 1 : Nat) : Int) l st (acc ++ [ruleOut l i])) R) : ∀ d j : Nat, j + d = (body l i).length → Ev (fun k => dowelref09_Grammar.l1 k (i : Int) ((nods l i).take j) (j : Int) l st acc) R
  | 0, j, hj => by
    refine Ev.step (fun _ => by rw [dowelref09_Grammar.l1]) ?_
    refine Ev.pos (by omega) (Ev.pos (by omega) (Ev.neg (by show ¬ (j : Int) < ((body l i).length : Int); omega) (Ev.pos (by omega) ?_)))
    rw [List.take_of_length_le (by rw [nods_len]; omega), show wrap64 ((i : Int) + 1) = ((i + 1 : Nat) : Int) by rw [w64] <;> omega]
    exact hr
  | d + 1, j, hj => by
    have hlt : j < (body l i).length := by omega
    have ih := nods_loop hl hi h hn acc R ha hr d (j + 1) (by omega)
    refine Ev.step (fun _ => by rw [dowelref09_Grammar.l1]) ?_
    refine Ev.pos (by omega) (Ev.pos (by omega) (Ev.pos (by show (j : Int) < ((body l i).length : Int); omega) (Ev.pos (by omega) ?_)))
    have hx : rd_T90 (rd_T30 l (i : Int)).f1 (j : Int) = (body l i)[j] := rdN (body l i) j hlt
    rw [hx]
    have hk := h.kind j hlt
    have hc := h.clean j hlt
    rw [kdG_at _ _ hlt] at hk
    rw [show (body l i).getD j zNode = (body l i)[j] by rw [List.getD_eq_getElem?_getD, List.getElem?_eq_getElem hlt]; rfl] at hc
    rw [surface_some l st (body l i)[j] hk hc]
    simp only [Option.bind_some]
    refine Ev.pos (by rw [List.length_take]; omega) ?_
    rw [show wrap64 ((j : Int) + 1) = ((j + 1 : Nat) : Int) by rw [w64] <;> omega]
    have ht : (nods l i).take j ++ [nodOf l (body l i)[j]] = (nods l i).take (j + 1) := by
      rw [List.take_add_one, nods, List.getElem?_map, List.getElem?_eq_getElem hlt]
      rfl
    have := ih
    rw [← ht] at this
    exact this
theorem rules_loop (hl : l.length ≤ 65536) (h : ∀ i, i < l.length → RightG l.length (body l i)) (hn : ∀ i, i < l.length → (body l i).length ≤ 1048576) : ∀ d i : Nat, i + d = l.length → (∀ k, k < i → ¬ 100 < nstG l k) →
    Ev (fun k => dowelref09_Grammar.l0 k (i : Int) l st (rulesOut l i)) (if ∃ k, k < l.length ∧ 100 < nstG l k then ([], [], 3) else ([], rulesOut l l.length, 0))
  | 0, i, hi, hk => by
    refine Ev.step (fun _ => by rw [dowelref09_Grammar.l0]) ?_
    refine Ev.neg (by omega) (Ev.some_ ?_)
    rw [if_neg (fun ⟨k, h1, h2⟩ => hk k (by omega) h2), show i = l.length by omega]
  | d + 1, i, hi, hk => by
    have hlt : i < l.length := by omega
    refine Ev.step (fun _ => by rw [dowelref09_Grammar.l0]) ?_
    refine Ev.pos (by omega) (Ev.pos (by omega) ?_)
    refine Ev.bind (refnest_ev (h i hlt) (hn i hlt)) ?_
    refine Ev.ite (fun hd => Ev.some_ ?_) (fun hd => ?_)
    · rw [if_pos ⟨i, hlt, hd⟩]
    · have ih := rules_loop hl h hn d (i + 1) (by omega) (fun k hk2 => by
        rcases Nat.lt_or_ge k i with h1 | h1
        · exact hk k h1
        · obtain rfl : k = i := by omega
          exact hd)
      rw [rulesOut, List.range_succ, List.map_append] at ih
      exact nods_loop l st hl hlt (h i hlt) (hn i hlt) (rulesOut l i) _ (by simp [rulesOut]; omega) ih (body l i).length 0 (by omega)
theorem check_parts (h : checkB l st = true) : 1 ≤ l.length ∧ l.length ≤ 256 ∧ 0 ≤ st ∧ st < l.length ∧ sizeL l ≤ 16384 ∧ (∀ i, i < l.length → RightG l.length (body l i)) := by
  unfold checkB boundsB at h
  simp only [Bool.and_eq_true, decide_eq_true_eq] at h
  obtain ⟨⟨⟨⟨⟨h1, h2⟩, h3⟩, h4⟩, h5⟩, h6⟩ := h
  have h7 := (allFrom_iff (okAt l) l.length 0).1 h6
  have h8 : ∀ i, i < l.length → bodyB l.length (l.getD i zRule).f1 0 = true := fun i hi => by
    have := h7 i (by omega) (by omega)
    unfold okAt at this
    simp only [Bool.and_eq_true] at this
    exact this.1.2
  refine ⟨h1, h2, h3, h4, h5, fun i hi => ?_⟩
  have := rightG_of l.length _ (h8 i hi)
  unfold body
  rw [rdR l i hi, ← getD_at l i hi]
  exact this
theorem body_size : ∀ (l : List Rule) (i : Nat), i < l.length → ((body l i).length : Int) ≤ sizeL l := by
  intro l
  induction l with
  | nil => intro i hi; simp at hi
  | cons x l ih =>
    intro i hi
    rw [sizeL]
    have h0 := sizeL_nonneg l
    cases i with
    | zero =>
      show ((x.f1.length : Nat) : Int) ≤ _
      omega
    | succ i =>
      have := ih i (by simpa using hi)
      have e : body (x :: l) (i + 1) = body l i := by
        unfold body
        rw [rdR _ _ hi, rdR _ _ (by simpa using hi), List.getElem_cons_succ]
      rw [e]
      omega
/-- What dowelref09.Grammar answers. -/
def refOut (l : List Rule) (st : Int) : (List (S129)) × (List (S125)) × Int :=
  if checkB l st = false then ([], [], 6) else if sizeL l > 4096 then ([], [], 52) else if ∃ k, k < l.length ∧ 100 < nstG l k then ([], [], 3) else ([], rulesOut l l.length, 0)
theorem refgrammar_ev (hf : Fit l) : Ev (fun k => dowelref09_Grammar.f k l st) (refOut l st) := by
  unfold dowelref09_Grammar.f refOut
  refine Ev.bind (check_ev l st hf) ?_
  cases hc : checkB l st with
  | false => exact Ev.neg (by simp) (Ev.some_ (by simp))
  | true =>
    obtain ⟨h1, h2, h3, h4, h5, h6⟩ := check_parts l st hc
    refine Ev.pos (by simp) ?_
    refine Ev.bind (size_ev l st hf (by omega)) ?_
    refine Ev.ite (fun hs => Ev.some_ (by simp [hs])) (fun hs => ?_)
    have hb : ∀ i, i < l.length → (body l i).length ≤ 1048576 := fun i hi => by have := body_size l i hi; omega
    refine (rules_loop l st (by omega) h6 hb l.length 0 (by omega) (fun k hk => by omega)).to ?_
    simp [hs]
end
end Go.Proofs.Ytebiogaacikphaa.Core
end
section
namespace Go.Proofs.Ytebiogaacikphaa.PAll
open Go.RowKit Go.Proofs.YtebiogaacikphaaW.PrintWords Go.Proofs.YtebiogaacikphaaW.PrintLast Go.Proofs.YtebiogaacikphaaW.PrintMore
attribute [local go_sem] max2_int max_two
set_option linter.unusedVariables false
set_option linter.unusedSimpArgs false
theorem eqA122 (d : Nat) (w : World) (x0 y0 : Int) (x1 y1 : Int) (x2 y2 : ByteArray) (x3 y3 : Bool) (x4 y4 : Int) (x5 y5 : Int) (x6 y6 : Int) (x7 y7 : Int) (x8 y8 : Int) (x9 y9 : Int) :
    (Op.equalIn (d + 3) 122 (.agg #[.int .i64 x0, .int .i64 x1, .string x2, .bool x3, .int .u64 x4, .int .u64 x5, .int .u64 x6, .int .u64 x7, .int .i64 x8, .int .i64 x9]) (.agg #[.int .i64 y0, .int .i64 y1, .string y2, .bool y3, .int .u64 y4, .int .u64 y5, .int .u64 y6, .int .u64 y7, .int .i64 y8, .int .i64 y9])).run Try.prog w = .ok (x0 == y0 && (x1 == y1 && (x2.toList == y2.toList && (x3 == y3 && ((x4 == y4 && (x5 == y5 && (x6 == y6 && (x7 == y7)))) && (x8 == y8 && (x9 == y9))))))) w := by
  refine eqA_of Try.underlying122 (by kernel_rfl) ?_
  refine eqf_cons (by rfl) (by go_simp; rfl) (by go_simp; rfl) (by go_simp) ?_
  refine eqf_cons (by rfl) (by go_simp; rfl) (by go_simp; rfl) (by go_simp) ?_
  refine eqf_cons (by rfl) (by go_simp; rfl) (by go_simp; rfl) (by go_simp) ?_
  refine eqf_cons (by rfl) (by go_simp; rfl) (by go_simp; rfl) (by go_simp) ?_
  refine eqf_cons (by rfl) (by go_simp) (by go_simp) (eqA76 (d + 0) w _ _ _ _ _ _ _ _) ?_
  refine eqf_cons (by rfl) (by go_simp; rfl) (by go_simp; rfl) (by go_simp) ?_
  exact eqf_last (by rfl) (by go_simp; rfl) (by go_simp; rfl) (by go_simp)
end Go.Proofs.Ytebiogaacikphaa.PAll
end
section
namespace Go.Proofs.Ytebiogaacikphaa.PAll
open Go.RowKit Go.Proofs.YtebiogaacikphaaW.PrintWords Go.Proofs.YtebiogaacikphaaW.PrintLast Go.Proofs.YtebiogaacikphaaW.PrintMore
attribute [local go_sem] max2_int max_two
set_option linter.unusedVariables false
set_option linter.unusedSimpArgs false
theorem q31_2 {p : Prop} (h : p := by first | rfl | (simp; done) | (simp [*]; done)) : p := h
theorem q31_1 {p : Prop} (h : p := by repeat (first | exact Drawn0.refl _ | apply Drawn0.step)) : p := h
theorem q31_0 {p : Prop} (h : p := by first | (with_reducible assumption) | assumption) : p := h
attribute [local go_sem high] eqA122
def dowelbook_Texts.l0 : Nat → List ByteArray → List ByteArray → Int → Option (Bool)
 | 0, _, _, _ => none
 | k + 1, x0, x1, x5 => if x5 < (x0.length : Int) then (if 0 ≤ x5 then (if x5 < (x1.length : Int) then (if (rdOf ByteArray.empty x0 x5).toList = (rdOf ByteArray.empty x1 x5).toList then (dowelbook_Texts.l0 k x0 x1 (wrap64 (x5 + 1))) else (some false)) else (none)) else (none)) else (some true)
def dowelbook_Texts.f (k : Nat) (l0 : List ByteArray) (l1 : List ByteArray) : Option (Bool) := if (l0.length : Int) = (l1.length : Int) then (dowelbook_Texts.l0 k l0 l1 0) else (some false)
theorem dowelbook_Texts.mono_l : ∀ k, (∀ y0 y1 y2, LeO (dowelbook_Texts.l0 k y0 y1 y2) (dowelbook_Texts.l0 (k + 1) y0 y1 y2))
 | 0 => fun _ _ _ r h => by simp [dowelbook_Texts.l0] at h
 | k + 1 => by
  have ih0 := dowelbook_Texts.mono_l k
  ·intro y0 y1 y2
   unfold dowelbook_Texts.l0
   repeat' first
   | (with_reducible exact ih0 _ _ _)
   | (with_reducible exact LeO.refl _)
   | (with_reducible exact LeO.none _)
   | (with_reducible refine LeO.ite ?_ ?_)
   | (with_reducible refine LeO.bind ?_ (fun _ => ?_))
   | exact ih0 _ _ _
   | exact LeO.none _
   | refine LeO.ite ?_ ?_
   | refine LeO.bind ?_ (fun _ => ?_)
theorem dowelbook_Texts.mono : ∀ a0 a1 k, LeO (dowelbook_Texts.f k a0 a1) (dowelbook_Texts.f (k + 1) a0 a1) := by
 intro a0 a1 k
 have ih0 := dowelbook_Texts.mono_l k
 unfold dowelbook_Texts.f
 repeat' first
   | (with_reducible exact ih0 _ _ _)
   | (with_reducible exact LeO.refl _)
   | (with_reducible exact LeO.none _)
   | (with_reducible refine LeO.ite ?_ ?_)
   | (with_reducible refine LeO.bind ?_ (fun _ => ?_))
   | exact ih0 _ _ _
   | exact LeO.none _
   | refine LeO.ite ?_ ?_
   | refine LeO.bind ?_ (fun _ => ?_)
set_option maxHeartbeats 8000000 in
set_option maxRecDepth 100000 in
theorem dowelbook_Texts.calls (k : Nat) (A0 : Option Addr) (c0 : Nat) (l0 : List ByteArray) (A1 : Option Addr) (c1 : Nat) (l1 : List ByteArray) (r : Bool) (w : World) (hr0 : Kd.C Kd.string w A0 l0.length l0) (hc0 : l0.length ≤ c0) (hr1 : Kd.C Kd.string w A1 l1.length l1) (hc1 : l1.length ≤ c1) (h : dowelbook_Texts.f k l0 l1 = some r) :
  Calls Try.prog 67 #[.slice A0 l0.length c0, .slice A1 l1.length c1] w fun e w' => e = .returned (.bool r) ∧ Drawn0 w w' := by
 have HR0 := Aside0.mk hr0; have HC0 := Aside0.mk hc0; clear hr0 hc0; have HR1 := Aside0.mk hr1; have HC1 := Aside0.mk hc1; clear hr1 hc1
 have H : (if (l0.length : Int) = (l1.length : Int) then (dowelbook_Texts.l0 k l0 l1 0) else (some false)) = some r := h
 clear h
 by_cases c3 : (l0.length : Int) = (l1.length : Int)
 ·rw [if_pos c3] at H
  have c3b0 : ((l0.length : Int) == (l1.length : Int)) = true := beq_iff_eq.mpr c3
  have c3b1 : ((l0.length : Int) != (l1.length : Int)) = false := bne_eq_false_iff_eq.mpr c3
  have c3b2 : (l0.length == l1.length) = true := by first | simpa using c3 | (simp at c3 ⊢; omega)
  clear c3
  have H' := Aside0.mk H
  clear H
  go_enter Try.func67, Try.ntmps67
  go_wp2
  repeat (go_quiet (fail); try go_wp2)
  go_loopg [5] k (fun kq v5 w' => ∃ (x5_1 : Int), v5 = .int .i64 x5_1 ∧ Aside0 (dowelbook_Texts.l0 kq l0 l1 x5_1 = some r) ∧ Aside0 (kq ≤ k) ∧ Drawn0 w w')
  case atStart => exact ⟨(0), q31_2, H', ⟨Nat.le_refl _⟩, q31_1⟩
  case round =>
   clear H'; (try clear c1); (try clear p2); (try clear c3); (try clear c3b0); (try clear c3b1); (try clear c3b2)
   obtain ⟨x5_1, rfl, HA, HK1, ⟨m1, rfl⟩⟩ := hrel
   cases gk with
   | zero => exact absurd HA.out (by simp [dowelbook_Texts.l0])
   | succ k1 =>
    have H := HA.out
    clear HA
    simp only [dowelbook_Texts.l0] at H
    by_cases c4 : x5_1 < (l0.length : Int)
    ·rw [if_pos c4] at H
     have c4b0 : decide (x5_1 < (l0.length : Int)) = true := decide_eq_true c4
     clear c4
     by_cases c5 : 0 ≤ x5_1
     ·rw [if_pos c5] at H
      have c5b0 : decide (0 ≤ x5_1) = true := decide_eq_true c5
      clear c5
      by_cases c6 : x5_1 < (l1.length : Int)
      ·rw [if_pos c6] at H
       have c6b0 : decide (x5_1 < (l1.length : Int)) = true := decide_eq_true c6
       clear c6
       by_cases c7 : (rdOf ByteArray.empty l0 x5_1).toList = (rdOf ByteArray.empty l1 x5_1).toList
       ·rw [if_pos c7] at H
        have c7b0 : ((rdOf ByteArray.empty l0 x5_1).toList == (rdOf ByteArray.empty l1 x5_1).toList) = true := beq_iff_eq.mpr c7
        have c7b1 : ((rdOf ByteArray.empty l0 x5_1).toList != (rdOf ByteArray.empty l1 x5_1).toList) = false := bne_eq_false_iff_eq.mpr c7
        clear c7
        have H' := Aside0.mk H
        clear H
        have p473 : 0 ≤ (x5_1 : Int) := of_decide_eq_true q31_0
        have q473 : x5_1 < (l0.length : Int) := of_decide_eq_true q31_0
        obtain ⟨ad473, e473, hx473_0⟩ := Kd.at_string HR0.out x5_1 p473 q473
        cases e473
        replace p473 := eq_true p473
        replace q473 := eq_true q473
        have p474 : 0 ≤ (x5_1 : Int) := of_decide_eq_true q31_0
        have q474 : x5_1 < (l1.length : Int) := of_decide_eq_true q31_0
        obtain ⟨ad474, e474, hx474_0⟩ := Kd.at_string HR1.out x5_1 p474 q474
        cases e474
        replace p474 := eq_true p474
        replace q474 := eq_true q474
        go_wp2
        repeat (go_quiet (fail); try go_wp2)
        go_roundg k1
        case measure => have := HK1.out; omega
        case rel => exact ⟨(wrap64 (x5_1 + 1)), q31_2, H', ⟨by have := HK1.out; omega⟩, q31_1⟩
       ·rw [if_neg c7] at H
        have c7b0 : ((rdOf ByteArray.empty l0 x5_1).toList == (rdOf ByteArray.empty l1 x5_1).toList) = false := beq_eq_false_iff_ne.mpr c7
        have c7b1 : ((rdOf ByteArray.empty l0 x5_1).toList != (rdOf ByteArray.empty l1 x5_1).toList) = true := bne_iff_ne.mpr c7
        obtain rfl := Option.some.inj H
        have p473 : 0 ≤ (x5_1 : Int) := of_decide_eq_true q31_0
        have q473 : x5_1 < (l0.length : Int) := of_decide_eq_true q31_0
        obtain ⟨ad473, e473, hx473_0⟩ := Kd.at_string HR0.out x5_1 p473 q473
        cases e473
        replace p473 := eq_true p473
        replace q473 := eq_true q473
        have p474 : 0 ≤ (x5_1 : Int) := of_decide_eq_true q31_0
        have q474 : x5_1 < (l1.length : Int) := of_decide_eq_true q31_0
        obtain ⟨ad474, e474, hx474_0⟩ := Kd.at_string HR1.out x5_1 p474 q474
        cases e474
        replace p474 := eq_true p474
        replace q474 := eq_true q474
        go_wp2
        repeat (go_quiet (fail); try go_wp2)
        go_ret
        exact ⟨q31_2, q31_1⟩
      ·rw [if_neg c6] at H
       exact absurd H (by simp)
     ·rw [if_neg c5] at H
      exact absurd H (by simp)
    ·rw [if_neg c4] at H
     have c4b0 : decide (x5_1 < (l0.length : Int)) = false := decide_eq_false c4
     clear c4
     obtain rfl := Option.some.inj H
     go_wp2
     repeat (go_quiet (fail); try go_wp2)
     go_ret
     exact ⟨q31_2, q31_1⟩
 ·rw [if_neg c3] at H
  have c3b0 : ((l0.length : Int) == (l1.length : Int)) = false := beq_eq_false_iff_ne.mpr c3
  have c3b1 : ((l0.length : Int) != (l1.length : Int)) = true := bne_iff_ne.mpr c3
  have c3b2 : (l0.length == l1.length) = false := by first | simpa using c3 | (simp at c3 ⊢; omega)
  obtain rfl := Option.some.inj H
  go_enter Try.func67, Try.ntmps67
  go_wp2
  repeat (go_quiet (fail); try go_wp2)
  go_ret
  exact ⟨q31_2, q31_1⟩
def dowelbook_Nodes.l0 : Nat → List (S122) → List (S122) → Int → Option (Bool)
 | 0, _, _, _ => none
 | k + 1, x0, x1, x5 => if x5 < (x0.length : Int) then (if 0 ≤ x5 then (if x5 < (x1.length : Int) then (if (!(((rd_T122 x0 x5).f0) == ((rd_T122 x1 x5).f0)) || (!(((rd_T122 x0 x5).f1) == ((rd_T122 x1 x5).f1)) || (!((((rd_T122 x0 x5).f2).toList) == (((rd_T122 x1 x5).f2).toList)) || (!(((rd_T122 x0 x5).f3) == ((rd_T122 x1 x5).f3)) || ((!(((rd_T122 x0 x5).f4.f0) == ((rd_T122 x1 x5).f4.f0)) || (!(((rd_T122 x0 x5).f4.f1) == ((rd_T122 x1 x5).f4.f1)) || (!(((rd_T122 x0 x5).f4.f2) == ((rd_T122 x1 x5).f4.f2)) || (!(((rd_T122 x0 x5).f4.f3) == ((rd_T122 x1 x5).f4.f3)))))) || (!(((rd_T122 x0 x5).f5) == ((rd_T122 x1 x5).f5)) || (!(((rd_T122 x0 x5).f6) == ((rd_T122 x1 x5).f6))))))))) = true then (some false) else (dowelbook_Nodes.l0 k x0 x1 (wrap64 (x5 + 1)))) else (none)) else (none)) else (some true)
def dowelbook_Nodes.f (k : Nat) (l0 : List (S122)) (l1 : List (S122)) : Option (Bool) := if (l0.length : Int) = (l1.length : Int) then (dowelbook_Nodes.l0 k l0 l1 0) else (some false)
theorem dowelbook_Nodes.mono_l : ∀ k, (∀ y0 y1 y2, LeO (dowelbook_Nodes.l0 k y0 y1 y2) (dowelbook_Nodes.l0 (k + 1) y0 y1 y2))
 | 0 => fun _ _ _ r h => by simp [dowelbook_Nodes.l0] at h
 | k + 1 => by
  have ih0 := dowelbook_Nodes.mono_l k
  ·intro y0 y1 y2
   unfold dowelbook_Nodes.l0
   repeat' first
   | (with_reducible exact ih0 _ _ _)
   | (with_reducible exact LeO.refl _)
   | (with_reducible exact LeO.none _)
   | (with_reducible refine LeO.ite ?_ ?_)
   | (with_reducible refine LeO.bind ?_ (fun _ => ?_))
   | exact ih0 _ _ _
   | exact LeO.none _
   | refine LeO.ite ?_ ?_
   | refine LeO.bind ?_ (fun _ => ?_)
theorem dowelbook_Nodes.mono : ∀ a0 a1 k, LeO (dowelbook_Nodes.f k a0 a1) (dowelbook_Nodes.f (k + 1) a0 a1) := by
 intro a0 a1 k
 have ih0 := dowelbook_Nodes.mono_l k
 unfold dowelbook_Nodes.f
 repeat' first
   | (with_reducible exact ih0 _ _ _)
   | (with_reducible exact LeO.refl _)
   | (with_reducible exact LeO.none _)
   | (with_reducible refine LeO.ite ?_ ?_)
   | (with_reducible refine LeO.bind ?_ (fun _ => ?_))
   | exact ih0 _ _ _
   | exact LeO.none _
   | refine LeO.ite ?_ ?_
   | refine LeO.bind ?_ (fun _ => ?_)
set_option maxHeartbeats 8000000 in
set_option maxRecDepth 100000 in
theorem dowelbook_Nodes.calls (k : Nat) (A0 : Option Addr) (c0 : Nat) (l0 : List (S122)) (A1 : Option Addr) (c1 : Nat) (l1 : List (S122)) (r : Bool) (w : World) (hr0 : Kd.C k122 w A0 l0.length l0) (hc0 : l0.length ≤ c0) (hr1 : Kd.C k122 w A1 l1.length l1) (hc1 : l1.length ≤ c1) (h : dowelbook_Nodes.f k l0 l1 = some r) :
  Calls Try.prog 68 #[.slice A0 l0.length c0, .slice A1 l1.length c1] w fun e w' => e = .returned (.bool r) ∧ Drawn0 w w' := by
 have hu122 := Try.underlying122
 have HR0 := Aside0.mk hr0; have HC0 := Aside0.mk hc0; clear hr0 hc0; have HR1 := Aside0.mk hr1; have HC1 := Aside0.mk hc1; clear hr1 hc1
 have H : (if (l0.length : Int) = (l1.length : Int) then (dowelbook_Nodes.l0 k l0 l1 0) else (some false)) = some r := h
 clear h
 by_cases c3 : (l0.length : Int) = (l1.length : Int)
 ·rw [if_pos c3] at H
  have c3b0 : ((l0.length : Int) == (l1.length : Int)) = true := beq_iff_eq.mpr c3
  have c3b1 : ((l0.length : Int) != (l1.length : Int)) = false := bne_eq_false_iff_eq.mpr c3
  have c3b2 : (l0.length == l1.length) = true := by first | simpa using c3 | (simp at c3 ⊢; omega)
  clear c3
  have H' := Aside0.mk H
  clear H
  go_enter Try.func68, Try.ntmps68
  go_wp2
  repeat (go_quiet (fail); try go_wp2)
  go_loopg [5] k (fun kq v5 w' => ∃ (x5_1 : Int), v5 = .int .i64 x5_1 ∧ Aside0 (dowelbook_Nodes.l0 kq l0 l1 x5_1 = some r) ∧ Aside0 (kq ≤ k) ∧ Drawn0 w w')
  case atStart => exact ⟨(0), q31_2, H', ⟨Nat.le_refl _⟩, q31_1⟩
  case round =>
   clear H'; (try clear c1); (try clear p2); (try clear c3); (try clear c3b0); (try clear c3b1); (try clear c3b2)
   obtain ⟨x5_1, rfl, HA, HK1, ⟨m1, rfl⟩⟩ := hrel
   cases gk with
   | zero => exact absurd HA.out (by simp [dowelbook_Nodes.l0])
   | succ k1 =>
    have H := HA.out
    clear HA
    simp only [dowelbook_Nodes.l0] at H
    by_cases c4 : x5_1 < (l0.length : Int)
    ·rw [if_pos c4] at H
     have c4b0 : decide (x5_1 < (l0.length : Int)) = true := decide_eq_true c4
     clear c4
     by_cases c5 : 0 ≤ x5_1
     ·rw [if_pos c5] at H
      have c5b0 : decide (0 ≤ x5_1) = true := decide_eq_true c5
      clear c5
      by_cases c6 : x5_1 < (l1.length : Int)
      ·rw [if_pos c6] at H
       have c6b0 : decide (x5_1 < (l1.length : Int)) = true := decide_eq_true c6
       clear c6
       by_cases c7 : (!(((rd_T122 l0 x5_1).f0) == ((rd_T122 l1 x5_1).f0)) || (!(((rd_T122 l0 x5_1).f1) == ((rd_T122 l1 x5_1).f1)) || (!((((rd_T122 l0 x5_1).f2).toList) == (((rd_T122 l1 x5_1).f2).toList)) || (!(((rd_T122 l0 x5_1).f3) == ((rd_T122 l1 x5_1).f3)) || ((!(((rd_T122 l0 x5_1).f4.f0) == ((rd_T122 l1 x5_1).f4.f0)) || (!(((rd_T122 l0 x5_1).f4.f1) == ((rd_T122 l1 x5_1).f4.f1)) || (!(((rd_T122 l0 x5_1).f4.f2) == ((rd_T122 l1 x5_1).f4.f2)) || (!(((rd_T122 l0 x5_1).f4.f3) == ((rd_T122 l1 x5_1).f4.f3)))))) || (!(((rd_T122 l0 x5_1).f5) == ((rd_T122 l1 x5_1).f5)) || (!(((rd_T122 l0 x5_1).f6) == ((rd_T122 l1 x5_1).f6))))))))) = true
       ·rw [if_pos c7] at H
        have c7b0 : (!(((rd_T122 l0 x5_1).f0) == ((rd_T122 l1 x5_1).f0)) || (!(((rd_T122 l0 x5_1).f1) == ((rd_T122 l1 x5_1).f1)) || (!((((rd_T122 l0 x5_1).f2).toList) == (((rd_T122 l1 x5_1).f2).toList)) || (!(((rd_T122 l0 x5_1).f3) == ((rd_T122 l1 x5_1).f3)) || ((!(((rd_T122 l0 x5_1).f4.f0) == ((rd_T122 l1 x5_1).f4.f0)) || (!(((rd_T122 l0 x5_1).f4.f1) == ((rd_T122 l1 x5_1).f4.f1)) || (!(((rd_T122 l0 x5_1).f4.f2) == ((rd_T122 l1 x5_1).f4.f2)) || (!(((rd_T122 l0 x5_1).f4.f3) == ((rd_T122 l1 x5_1).f4.f3)))))) || (!(((rd_T122 l0 x5_1).f5) == ((rd_T122 l1 x5_1).f5)) || (!(((rd_T122 l0 x5_1).f6) == ((rd_T122 l1 x5_1).f6))))))))) = true := c7
        clear c7
        obtain rfl := Option.some.inj H
        have p475 : 0 ≤ (x5_1 : Int) := of_decide_eq_true q31_0
        have q475 : x5_1 < (l0.length : Int) := of_decide_eq_true q31_0
        obtain ⟨ad475, e475, hx475_0, hx475_1, hx475_2, hx475_3, hx475_4, hx475_5, hx475_6, hx475_7, hx475_8, hx475_9⟩ := at_T122 HR0.out x5_1 p475 q475
        cases e475
        replace p475 := eq_true p475
        replace q475 := eq_true q475
        have p476 : 0 ≤ (x5_1 : Int) := of_decide_eq_true q31_0
        have q476 : x5_1 < (l1.length : Int) := of_decide_eq_true q31_0
        obtain ⟨ad476, e476, hx476_0, hx476_1, hx476_2, hx476_3, hx476_4, hx476_5, hx476_6, hx476_7, hx476_8, hx476_9⟩ := at_T122 HR1.out x5_1 p476 q476
        cases e476
        replace p476 := eq_true p476
        replace q476 := eq_true q476
        go_wp2
        repeat (go_quiet (fail); try go_wp2)
        go_ret
        exact ⟨q31_2, q31_1⟩
       ·rw [if_neg c7] at H
        have c7b0 : (!(((rd_T122 l0 x5_1).f0) == ((rd_T122 l1 x5_1).f0)) || (!(((rd_T122 l0 x5_1).f1) == ((rd_T122 l1 x5_1).f1)) || (!((((rd_T122 l0 x5_1).f2).toList) == (((rd_T122 l1 x5_1).f2).toList)) || (!(((rd_T122 l0 x5_1).f3) == ((rd_T122 l1 x5_1).f3)) || ((!(((rd_T122 l0 x5_1).f4.f0) == ((rd_T122 l1 x5_1).f4.f0)) || (!(((rd_T122 l0 x5_1).f4.f1) == ((rd_T122 l1 x5_1).f4.f1)) || (!(((rd_T122 l0 x5_1).f4.f2) == ((rd_T122 l1 x5_1).f4.f2)) || (!(((rd_T122 l0 x5_1).f4.f3) == ((rd_T122 l1 x5_1).f4.f3)))))) || (!(((rd_T122 l0 x5_1).f5) == ((rd_T122 l1 x5_1).f5)) || (!(((rd_T122 l0 x5_1).f6) == ((rd_T122 l1 x5_1).f6))))))))) = false := by simpa using c7
        clear c7
        have H' := Aside0.mk H
        clear H
        have p475 : 0 ≤ (x5_1 : Int) := of_decide_eq_true q31_0
        have q475 : x5_1 < (l0.length : Int) := of_decide_eq_true q31_0
        obtain ⟨ad475, e475, hx475_0, hx475_1, hx475_2, hx475_3, hx475_4, hx475_5, hx475_6, hx475_7, hx475_8, hx475_9⟩ := at_T122 HR0.out x5_1 p475 q475
        cases e475
        replace p475 := eq_true p475
        replace q475 := eq_true q475
        have p476 : 0 ≤ (x5_1 : Int) := of_decide_eq_true q31_0
        have q476 : x5_1 < (l1.length : Int) := of_decide_eq_true q31_0
        obtain ⟨ad476, e476, hx476_0, hx476_1, hx476_2, hx476_3, hx476_4, hx476_5, hx476_6, hx476_7, hx476_8, hx476_9⟩ := at_T122 HR1.out x5_1 p476 q476
        cases e476
        replace p476 := eq_true p476
        replace q476 := eq_true q476
        go_wp2
        repeat (go_quiet (fail); try go_wp2)
        go_roundg k1
        case measure => have := HK1.out; omega
        case rel => exact ⟨(wrap64 (x5_1 + 1)), q31_2, H', ⟨by have := HK1.out; omega⟩, q31_1⟩
      ·rw [if_neg c6] at H
       exact absurd H (by simp)
     ·rw [if_neg c5] at H
      exact absurd H (by simp)
    ·rw [if_neg c4] at H
     have c4b0 : decide (x5_1 < (l0.length : Int)) = false := decide_eq_false c4
     clear c4
     obtain rfl := Option.some.inj H
     go_wp2
     repeat (go_quiet (fail); try go_wp2)
     go_ret
     exact ⟨q31_2, q31_1⟩
 ·rw [if_neg c3] at H
  have c3b0 : ((l0.length : Int) == (l1.length : Int)) = false := beq_eq_false_iff_ne.mpr c3
  have c3b1 : ((l0.length : Int) != (l1.length : Int)) = true := bne_iff_ne.mpr c3
  have c3b2 : (l0.length == l1.length) = false := by first | simpa using c3 | (simp at c3 ⊢; omega)
  obtain rfl := Option.some.inj H
  go_enter Try.func68, Try.ntmps68
  go_wp2
  repeat (go_quiet (fail); try go_wp2)
  go_ret
  exact ⟨q31_2, q31_1⟩
end Go.Proofs.Ytebiogaacikphaa.PAll
end
section
namespace Go.Proofs.Ytebiogaacikphaa.PAll
open Go.RowKit Go.Proofs.YtebiogaacikphaaW.PrintWords Go.Proofs.YtebiogaacikphaaW.PrintLast Go.Proofs.YtebiogaacikphaaW.PrintMore
attribute [local go_sem] max2_int max_two
set_option linter.unusedVariables false
set_option linter.unusedSimpArgs false
theorem eqA129 (d : Nat) (w : World) (x0 y0 : ByteArray) (x1 y1 : ByteArray) :
    (Op.equalIn (d + 2) 129 (.agg #[.string x0, .string x1]) (.agg #[.string y0, .string y1])).run Try.prog w = .ok (x0.toList == y0.toList && (x1.toList == y1.toList)) w := by
  refine eqA_of Try.underlying129 (by kernel_rfl) ?_
  refine eqf_cons (by rfl) (by go_simp; rfl) (by go_simp; rfl) (by go_simp) ?_
  exact eqf_last (by rfl) (by go_simp; rfl) (by go_simp; rfl) (by go_simp)
end Go.Proofs.Ytebiogaacikphaa.PAll
end
