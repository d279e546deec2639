/- Parts of the proof of packBack and packOne and packCuts and packSpoilt and packSmall: CodeRight, PackInss, CodeCheck. No condition beyond each lemma's own. -/
import Derived.Test.YtebiogaacikphaaTQ6
import Derived.Test.YtebiogaacikphaaTQ8
import Derived.Test.YtebiogaacikphaaTQ9
section
namespace Go.Proofs.Ytebiogaacikphaa.Pack
open Go.RowKit Go.Proofs.YtebiogaacikphaaW.PrintWords Go.Proofs.Ytebiogaacikphaa.PAll Go.Proofs.Ytebiogaacikphaa.Names Go.Proofs.Ytebiogaacikphaa.Contains
set_option linter.unusedVariables false
set_option linter.unusedSimpArgs false
set_option linter.unnecessarySimpa false
theorem cells7 {W : World} {g : Nat} {e : TypeId} {y : Ins} (h : RowAt W g e (insCells y)) : W.cell? ⟨g, 0, none⟩ = some (.int .i64 y.f0) ∧ W.cell? ⟨g, 1, none⟩ = some (.int .i64 y.f1) ∧ W.cell? ⟨g, 2, none⟩ = some (.int .u64 y.f2.f0) ∧ W.cell? ⟨g, 3, none⟩ = some (.int .u64 y.f2.f1) ∧ W.cell? ⟨g, 4, none⟩ = some (.int .u64 y.f2.f2) ∧ W.cell? ⟨g, 5, none⟩ = some (.int .u64 y.f2.f3) ∧ W.cell? ⟨g, 6, none⟩ = some (.string y.f3) :=
  ⟨h.cell 0, h.cell 1, h.cell 2, h.cell 3, h.cell 4, h.cell 5, h.cell 6⟩
/-- Two instructions are the same, as Go compares them. -/
def eqI (x y : Ins) : Bool := x.f0 == y.f0 && (x.f1 == y.f1 && ((x.f2.f0 == y.f2.f0 && (x.f2.f1 == y.f2.f1 && (x.f2.f2 == y.f2.f2 && (x.f2.f3 == y.f2.f3)))) && (x.f3.toList == y.f3.toList)))
theorem eqI_iff (x y : Ins) : eqI x y = true ↔ x = y := by
  obtain ⟨a0, a1, ⟨a2, a3, a4, a5⟩, a6⟩ := x
  obtain ⟨b0, b1, ⟨b2, b3, b4, b5⟩, b6⟩ := y
  have h6 : a6.toList = b6.toList ↔ a6 = b6 := by
    constructor
    · intro h
      have h' : a6.data = b6.data := by
        have e1 := congrArg List.toArray h
        simpa [ByteArray.toList_eq] using e1
      cases a6; cases b6; simpa using h'
    · intro h; rw [h]
  simp [eqI, h6, and_assoc]
/-- What is left of an instruction that has the operand of its kind alone. -/
def bareI (x : Ins) : Ins := if kindOf x.f0 = 1 then { zIns with f0 := x.f0, f1 := x.f1 } else if kindOf x.f0 = 2 then { zIns with f0 := x.f0, f2 := x.f2 } else if kindOf x.f0 = 3 then { zIns with f0 := x.f0, f3 := x.f3 } else { zIns with f0 := x.f0 }
def rightB (x : Ins) (n : Nat) : Bool := if x.f0 < 0 ∨ 15 < x.f0 then false else if eqI x (bareI x) = false then false else if kindOf x.f0 = 1 then decide (0 ≤ x.f1 ∧ x.f1 < n) else if kindOf x.f0 = 3 then (isOwn x.f3.data.toList && isName x.f3.data.toList) else true
theorem has_ev (a : Int) : Ev (fun k => code_has.f k a) (decide (kindOf a = 1), decide (kindOf a = 2), decide (kindOf a = 3)) := by
  unfold code_has.f
  have j1 : ∀ b : Bool, ¬ (a = 3 ∨ a = 4 ∨ a = 5 ∨ a = 6 ∨ a = 7 ∨ a = 10 ∨ a = 15) → (b = true ↔ (a = 1 ∨ a = 2)) → Ev (fun k => code_has.j1 k a b) (decide (kindOf a = 1), decide (kindOf a = 2), decide (kindOf a = 3)) := by
    intro b h0 hb
    refine Ev.step (fun _ => by rw [code_has.j1]) ?_
    unfold kindOf
    rw [if_neg h0]
    refine Ev.ite (fun h => Ev.some_ (by rw [if_pos (hb.1 h)]; rfl)) (fun h => ?_)
    rw [if_neg (fun h' => h (hb.2 h'))]
    refine Ev.ite (fun h => Ev.some_ (by rw [if_pos (.inl h)]; rfl)) (fun h4 => ?_)
    exact Ev.ite (fun h => Ev.some_ (by rw [if_pos (.inr h)]; rfl)) (fun h5 => Ev.some_ (by rw [if_neg (by omega)]; rfl))
  have j0 : ∀ b : Bool, (b = true ↔ (a = 3 ∨ a = 4 ∨ a = 5 ∨ a = 6 ∨ a = 7 ∨ a = 10 ∨ a = 15)) → Ev (fun k => code_has.j0 k a b) (decide (kindOf a = 1), decide (kindOf a = 2), decide (kindOf a = 3)) := by
    intro b hb
    refine Ev.step (fun _ => by rw [code_has.j0]) ?_
    refine Ev.ite (fun h => Ev.some_ (by rw [kindOf, if_pos (hb.1 h)]; rfl)) (fun h => ?_)
    have h0 : ¬ (a = 3 ∨ a = 4 ∨ a = 5 ∨ a = 6 ∨ a = 7 ∨ a = 10 ∨ a = 15) := fun h' => h (hb.2 h')
    exact Ev.ite (fun h1 => j1 _ h0 (by simp [h1])) (fun h1 => j1 _ h0 (by simp [h1]))
  refine Ev.ite (fun h => j0 _ (by simp [h])) (fun h3 => ?_)
  refine Ev.ite (fun h => j0 _ (by simp [h])) (fun h4 => ?_)
  refine Ev.ite (fun h => j0 _ (by simp [h])) (fun h5 => ?_)
  refine Ev.ite (fun h => j0 _ (by simp [h])) (fun h6 => ?_)
  refine Ev.ite (fun h => j0 _ (by simp [h])) (fun h7 => ?_)
  exact Ev.ite (fun h => j0 _ (by simp [h])) (fun h10 => j0 _ (by simp [h3, h4, h5, h6, h7, h10]))
theorem has_lit (a : Int) (b1 b2 b3 : Bool) (h1 : decide (kindOf a = 1) = b1) (h2 : decide (kindOf a = 2) = b2) (h3 : decide (kindOf a = 3) = b3) (w : World) : Calls Try.prog 101 #[.int .i64 a] w fun e w' => e = .returned (.tuple #[.bool b1, .bool b2, .bool b3]) ∧ Drawn0 w w' := by
  subst h1 h2 h3
  obtain ⟨k, hk⟩ := has_ev a
  exact code_has.calls k a _ _ _ w (hk k (Nat.le_refl _))
theorem kinds (a : Int) : kindOf a = 0 ∨ kindOf a = 1 ∨ kindOf a = 2 ∨ kindOf a = 3 := by
  unfold kindOf
  split
  · exact .inr (.inl rfl)
  · split
    · exact .inr (.inr (.inl rfl))
    · split
      · exact .inr (.inr (.inr rfl))
      · exact .inl rfl
theorem name_lit (s : ByteArray) (hs : s.size ≤ 140737488351232) (v : Bool) (hv : isName s.data.toList = v) (W : World) : Calls Try.prog 47 #[.string s] W fun e w' => e = .returned (.bool v) ∧ Drawn0 W w' := by
  subst hv
  obtain ⟨k, hk⟩ := lexName_ev s hs
  exact lexis_Name.calls k s _ W (hk k (Nat.le_refl _))
section
variable (x : Ins) (n : Nat) (w : World)
set_option maxHeartbeats 4000000 in
set_option maxRecDepth 100000 in
theorem right_calls (hs : x.f3.size ≤ 140737488351232) (r : Bool) (hr : rightB x n = r) :
    Calls Try.prog 81 #[.agg #[.int .i64 x.f0, .int .i64 x.f1, .int .u64 x.f2.f0, .int .u64 x.f2.f1, .int .u64 x.f2.f2, .int .u64 x.f2.f3, .string x.f3], .int .i64 n] w fun e w' => e = .returned (.bool r) ∧ Below w.heap.size w w' := by
  by_cases c0 : x.f0 < 0
  · have k0 : decide (x.f0 < 0) = true := decide_eq_true c0
    rw [rightB, if_pos (.inl c0)] at hr
    subst hr
    clear c0
    go_enter Try.func81, Try.ntmps81
    go_wp2_with (first | ((with_reducible refine gate_dst (N := 2) rfl ?_); refine box_event (N := 2) rfl rfl (cs := #[.int .i64 x.f0, .int .i64 x.f1, .int .u64 x.f2.f0, .int .u64 x.f2.f1, .int .u64 x.f2.f2, .int .u64 x.f2.f3, .string x.f3]) (t := 78) ?hr2 ?_; (case hr2 => first | (go_simp; done) | (go_simp; rfl)); intro g2 hg2 w1 hbox hb1; have H2 := Aside0.mk (show RowAt w1 g2 78 (insCells x) from ⟨_, hbox, rfl⟩); have HB := Aside0.mk hb1; clear hbox hb1 hg2; obtain ⟨x0, x1, x2, x3, x4, x5, x6⟩ := cells7 H2.out))
    go_ret
    exact ⟨rfl, HB.out⟩
  · have k0 : decide (x.f0 < 0) = false := decide_eq_false c0
    by_cases c1 : x.f0 > 15
    · have k1 : decide (x.f0 > 15) = true := decide_eq_true c1
      rw [rightB, if_pos (.inr c1)] at hr
      subst hr
      clear c0 c1
      go_enter Try.func81, Try.ntmps81
      go_wp2_with (first | ((with_reducible refine gate_dst (N := 2) rfl ?_); refine box_event (N := 2) rfl rfl (cs := #[.int .i64 x.f0, .int .i64 x.f1, .int .u64 x.f2.f0, .int .u64 x.f2.f1, .int .u64 x.f2.f2, .int .u64 x.f2.f3, .string x.f3]) (t := 78) ?hr2 ?_; (case hr2 => first | (go_simp; done) | (go_simp; rfl)); intro g2 hg2 w1 hbox hb1; have H2 := Aside0.mk (show RowAt w1 g2 78 (insCells x) from ⟨_, hbox, rfl⟩); have HB := Aside0.mk hb1; clear hbox hb1 hg2; obtain ⟨x0, x1, x2, x3, x4, x5, x6⟩ := cells7 H2.out))
      go_ret
      exact ⟨rfl, HB.out⟩
    · have k1 : decide (x.f0 > 15) = false := decide_eq_false c1
      rw [rightB, if_neg (by omega)] at hr
      obtain ⟨E, hE⟩ : ∃ E, eqI x (bareI x) = E := ⟨_, rfl⟩
      obtain ⟨y, hy⟩ : ∃ y, bareI x = y := ⟨_, rfl⟩
      have heq : ∀ (d : Nat) (W : World), (Op.equalIn (d + 3) 78 (.agg #[.int .i64 x.f0, .int .i64 x.f1, .int .u64 x.f2.f0, .int .u64 x.f2.f1, .int .u64 x.f2.f2, .int .u64 x.f2.f3, .string x.f3]) (.agg #[.int .i64 y.f0, .int .i64 y.f1, .int .u64 y.f2.f0, .int .u64 y.f2.f1, .int .u64 y.f2.f2, .int .u64 y.f2.f3, .string y.f3])).run Try.prog W = .ok E W := fun d W => by
        rw [eqA78, ← hE, hy]
        rfl
      rw [hE] at hr
      have HHAS := fun b1 b2 b3 h1 h2 h3 => Aside0.mk (has_lit x.f0 b1 b2 b3 h1 h2 h3)
      have hsz : x.f3.size ≤ 140737488351232 := hs
      clear c0 c1 hE
      refine (kinds x.f0).elim (fun hk => ?K0) (fun hk => hk.elim (fun hk => ?K1) (fun hk => hk.elim (fun hk => ?K2) (fun hk => ?K3)))
      case' K0 =>
        have HHAS := HHAS false false false (by simp [hk]) (by simp [hk]) (by simp [hk])
        have HYY := Aside0.mk (show y = { zIns with f0 := x.f0 } by rw [← hy, bareI, if_neg (by omega), if_neg (by omega), if_neg (by omega)])
        have MK0 := Aside0.mk hk
        rw [if_neg (show ¬ kindOf x.f0 = 1 by omega), if_neg (show ¬ kindOf x.f0 = 3 by omega)] at hr
        clear hk hy
        cases E <;> simp at hr <;> subst hr
      case' K1 =>
        have HHAS := HHAS true false false (by simp [hk]) (by simp [hk]) (by simp [hk])
        have HYY := Aside0.mk (show y = { zIns with f0 := x.f0, f1 := x.f1 } by rw [← hy, bareI, if_pos hk])
        rw [if_pos hk] at hr
        obtain ⟨b1, k2⟩ : ∃ b1, decide (x.f1 ≥ 0) = b1 := ⟨_, rfl⟩
        obtain ⟨b2, k3⟩ : ∃ b2, decide (x.f1 < (n : Int)) = b2 := ⟨_, rfl⟩
        have hr2 : (if E = false then false else b1 && b2) = r := by rw [← hr, ← k2, ← k3, Bool.decide_and]
        clear hr hk hy
        cases E <;> cases b1 <;> cases b2 <;> simp at hr2 <;> subst hr2
      case' K2 =>
        have HHAS := HHAS false true false (by simp [hk]) (by simp [hk]) (by simp [hk])
        have HYY := Aside0.mk (show y = { zIns with f0 := x.f0, f2 := x.f2 } by rw [← hy, bareI, if_neg (by omega), if_pos hk])
        rw [if_neg (show ¬ kindOf x.f0 = 1 by omega), if_neg (show ¬ kindOf x.f0 = 3 by omega)] at hr
        clear hk hy
        cases E <;> simp at hr <;> subst hr
      case' K3 =>
        have HHAS := HHAS false false true (by simp [hk]) (by simp [hk]) (by simp [hk])
        have HYY := Aside0.mk (show y = { zIns with f0 := x.f0, f3 := x.f3 } by rw [← hy, bareI, if_neg (by omega), if_neg (by omega), if_pos hk])
        rw [if_neg (show ¬ kindOf x.f0 = 1 by omega), if_pos hk] at hr
        have HCA0 := Aside0.mk (fun h => containsAny_some x.f3 h)
        obtain ⟨b1, k2⟩ : ∃ b1, isName x.f3.data.toList = b1 := ⟨_, rfl⟩
        obtain ⟨b2, k3⟩ : ∃ b2, isOwn x.f3.data.toList = b2 := ⟨_, rfl⟩
        have HNM := Aside0.mk (name_lit x.f3 hsz b1 k2)
        have HCA := Aside0.mk (fun W (h : b1 = true) => strings_ContainsAny.calls x.f3 (⟨#[58, 126]⟩ : ByteArray) (!b2) W (by rw [HCA0.out (k2.trans h), k3]))
        rw [k2, k3] at hr
        clear hk hy k2 k3 HCA0
        cases E <;> cases b1 <;> cases b2 <;> simp at hr <;> subst hr
      all_goals
        go_enter Try.func81, Try.ntmps81
        go_wp2_with (first
          | ((with_reducible refine gate_dst (N := 2) rfl ?_); refine box_event (N := 2) rfl rfl (cs := #[.int .i64 x.f0, .int .i64 x.f1, .int .u64 x.f2.f0, .int .u64 x.f2.f1, .int .u64 x.f2.f2, .int .u64 x.f2.f3, .string x.f3]) (t := 78) ?hr2 ?_; (case hr2 => first | (go_simp; done) | (go_simp; rfl)); intro g2 hg2 w1 hbox hb1; have H2 := Aside0.mk (show RowAt w1 g2 78 (insCells x) from ⟨_, hbox, rfl⟩); have HB := Aside0.mk hb1; clear hbox hb1 hg2; obtain ⟨x0, x1, x2, x3, x4, x5, x6⟩ := cells7 H2.out)
          | ((with_reducible refine gate_dst (N := 5) rfl ?_); refine box_event (N := 5) rfl rfl (cs := #[.int .i64 0, .int .i64 0, .int .u64 0, .int .u64 0, .int .u64 0, .int .u64 0, .string (⟨#[]⟩ : ByteArray)]) (t := 78) ?hr2 ?_; (case hr2 => first | (go_simp; done) | (go_simp; rfl)); intro g5 hg5 w1 hbox hb1; have H5 := Aside0.mk (show RowAt w1 g5 78 (insCells zIns) from ⟨_, hbox, rfl⟩); have HG5 := Aside0.mk (show g2 < g5 by have := H2.out.lt; omega); have HG0 := Aside0.mk (show w.heap.size ≤ g5 by have := HB.out.size; omega); have n1_ := Aside0.mk (H2.out.below hb1); have n2_ := Aside0.mk (below_step HB.out hb1); clear H2 HB hbox hb1 hg5 x0 x1 x2 x3 x4 x5 x6; have H2 := n1_; have HB := n2_; clear n1_ n2_; obtain ⟨x0, x1, x2, x3, x4, x5, x6⟩ := cells7 H2.out)
          | ((with_reducible refine gate_store (t := 78) (p := 5) rfl ?_); refine put_event rfl rfl 78 (.tmp 5) (.tmp 19) rfl (off := 0) (u := .agg #[.int .i64 x.f0, .int .i64 0, .int .u64 0, .int .u64 0, .int .u64 0, .int .u64 0, .string (⟨#[]⟩ : ByteArray)]) (seg := insCells { zIns with f0 := x.f0 }) rfl rfl H5.out rfl (by kernel_rfl) (by simp [insCells]) (by simp [insCells, Value.oneCell']) ?_; intro w5 hrow hgr; have n1_ := Aside0.mk (H2.out.grown hgr (by have := HG5.out; simp; omega)); have n2_ := Aside0.mk (pw_below_grown HB.out (some g5) HB.out.size hgr (fun k hk => by injection hk with hk; have := HG0.out; omega)); clear H2 HB H5 hgr x0 x1 x2 x3 x4 x5 x6; have H2 := n1_; have HB := n2_; clear n1_ n2_; obtain ⟨x0, x1, x2, x3, x4, x5, x6⟩ := cells7 H2.out; have H5 := Aside0.mk (show RowAt w5 g5 78 (insCells { zIns with f0 := x.f0 }) from hrow); clear hrow)
          | (go_at_call 101; have hk0 := MK0.out; have hcall := HHAS.out w5; (with_reducible refine hcall.mono ?_); clear hcall; rintro xx w6 ⟨rfl, hd⟩; have n1_ := Aside0.mk (H2.out.below hd.below); have n2_ := Aside0.mk (below_step HB.out hd.below); have n3_ := Aside0.mk (show RowAt w6 g5 78 (insCells y) from by rw [HYY.out]; exact H5.out.below hd.below); clear H2 HB H5 hd x0 x1 x2 x3 x4 x5 x6 hk0; have H2 := n1_; have HB := n2_; have H5 := n3_; clear n1_ n2_ n3_; obtain ⟨x0, x1, x2, x3, x4, x5, x6⟩ := cells7 H2.out; obtain ⟨y0, y1, y2, y3, y4, y5, y6⟩ := cells7 H5.out)
          | (go_at_call 101; have hcall := HHAS.out w5; (with_reducible refine hcall.mono ?_); clear hcall; rintro xx w6 ⟨rfl, hd⟩; have n1_ := Aside0.mk (H2.out.below hd.below); have n2_ := Aside0.mk (below_step HB.out hd.below); have n3_ := Aside0.mk (H5.out.below hd.below); clear H2 HB H5 hd x0 x1 x2 x3 x4 x5 x6; have H2 := n1_; have HB := n2_; have H5 := n3_; clear n1_ n2_ n3_; obtain ⟨x0, x1, x2, x3, x4, x5, x6⟩ := cells7 H2.out)
          | ((with_reducible refine gate_store (t := 3) (p := 31) rfl ?_); refine put_event rfl rfl 3 (.tmp 31) (.tmp 30) rfl (off := 1) (u := .int .i64 x.f1) (seg := [.int .i64 x.f1]) rfl rfl H5.out rfl (by kernel_rfl) (by simp [insCells]) (by simp [Value.oneCell']) ?_; intro w7 hrow hgr; have n1_ := Aside0.mk (H2.out.grown hgr (by have := HG5.out; simp; omega)); have n2_ := Aside0.mk (pw_below_grown HB.out (some g5) HB.out.size hgr (fun k hk => by injection hk with hk; have := HG0.out; omega)); clear H2 HB H5 hgr x0 x1 x2 x3 x4 x5 x6; have H2 := n1_; have HB := n2_; clear n1_ n2_; obtain ⟨x0, x1, x2, x3, x4, x5, x6⟩ := cells7 H2.out; have H5 := Aside0.mk (show RowAt w7 g5 78 (insCells y) from by rw [HYY.out]; exact hrow); clear hrow; obtain ⟨y0, y1, y2, y3, y4, y5, y6⟩ := cells7 H5.out)
          | ((with_reducible refine gate_store (t := 76) (p := 36) rfl ?_); refine put_event rfl rfl 76 (.tmp 36) (.tmp 35) rfl (off := 2) (u := .agg #[.int .u64 x.f2.f0, .int .u64 x.f2.f1, .int .u64 x.f2.f2, .int .u64 x.f2.f3]) (seg := [.int .u64 x.f2.f0, .int .u64 x.f2.f1, .int .u64 x.f2.f2, .int .u64 x.f2.f3]) rfl rfl H5.out rfl (by kernel_rfl) (by simp [insCells]) (by simp [Value.oneCell']) ?_; intro w7 hrow hgr; have n1_ := Aside0.mk (H2.out.grown hgr (by have := HG5.out; simp; omega)); have n2_ := Aside0.mk (pw_below_grown HB.out (some g5) HB.out.size hgr (fun k hk => by injection hk with hk; have := HG0.out; omega)); clear H2 HB H5 hgr x0 x1 x2 x3 x4 x5 x6; have H2 := n1_; have HB := n2_; clear n1_ n2_; obtain ⟨x0, x1, x2, x3, x4, x5, x6⟩ := cells7 H2.out; have H5 := Aside0.mk (show RowAt w7 g5 78 (insCells y) from by rw [HYY.out]; exact hrow); clear hrow; obtain ⟨y0, y1, y2, y3, y4, y5, y6⟩ := cells7 H5.out)
          | ((with_reducible refine gate_store (t := 9) (p := 41) rfl ?_); refine put_event rfl rfl 9 (.tmp 41) (.tmp 40) rfl (off := 6) (u := .string x.f3) (seg := [.string x.f3]) rfl rfl H5.out rfl (by kernel_rfl) (by simp [insCells]) (by simp [Value.oneCell']) ?_; intro w7 hrow hgr; have n1_ := Aside0.mk (H2.out.grown hgr (by have := HG5.out; simp; omega)); have n2_ := Aside0.mk (pw_below_grown HB.out (some g5) HB.out.size hgr (fun k hk => by injection hk with hk; have := HG0.out; omega)); clear H2 HB H5 hgr x0 x1 x2 x3 x4 x5 x6; have H2 := n1_; have HB := n2_; clear n1_ n2_; obtain ⟨x0, x1, x2, x3, x4, x5, x6⟩ := cells7 H2.out; have H5 := Aside0.mk (show RowAt w7 g5 78 (insCells y) from by rw [HYY.out]; exact hrow); clear hrow; obtain ⟨y0, y1, y2, y3, y4, y5, y6⟩ := cells7 H5.out)
          | (go_at_call 47; have hcall := HNM.out w7; (with_reducible refine hcall.mono ?_); clear hcall; rintro xx w8 ⟨rfl, hd⟩; have n1_ := Aside0.mk (H2.out.below hd.below); have n2_ := Aside0.mk (below_step HB.out hd.below); clear H2 HB H5 hd x0 x1 x2 x3 x4 x5 x6 y0 y1 y2 y3 y4 y5 y6; have H2 := n1_; have HB := n2_; clear n1_ n2_; obtain ⟨x0, x1, x2, x3, x4, x5, x6⟩ := cells7 H2.out)
          | (go_at_call 85; have hcall := HCA.out w8 (by simp); (with_reducible refine hcall.mono ?_); clear hcall; rintro xx w9 ⟨rfl, hb⟩; have n2_ := Aside0.mk (below_step HB.out hb); clear HB hb; have HB := n2_; clear n2_))
        go_ret
        exact ⟨rfl, HB.out⟩
end
end Go.Proofs.Ytebiogaacikphaa.Pack
end
section
namespace Go.Proofs.Ytebiogaacikphaa.Pack
open Go.RowKit Go.Proofs.YtebiogaacikphaaW.PrintWords Go.Proofs.Ytebiogaacikphaa.PAll
set_option linter.unusedVariables false
set_option linter.unusedSimpArgs false
theorem insCells_len (x : Ins) : (insCells x).length = 7 := rfl
theorem flat_get : ∀ (l : List Ins) (j : Nat) (x : Ins), l[j]? = some x → ∀ i u, (insCells x)[i]? = some u → (l.flatMap insCells)[j * 7 + i]? = some u
  | [], _, _, h, _, _, _ => by simp at h
  | y :: l, 0, x, h, i, u, hi => by
    simp only [List.getElem?_cons_zero, Option.some.injEq] at h
    subst h
    have hl := (List.getElem?_eq_some_iff.1 hi).1
    rw [List.flatMap_cons, Nat.zero_mul, Nat.zero_add, List.getElem?_append_left hl]
    exact hi
  | y :: l, j + 1, x, h, i, u, hi => by
    have ih := flat_get l j x (by simpa using h) i u hi
    rw [List.flatMap_cons, List.getElem?_append_right (by rw [insCells_len]; omega), insCells_len, show (j + 1) * 7 + i - 7 = j * 7 + i by omega]
    exact ih
theorem ins_reads {W : World} {base : Nat} {v : Value} {l : List Ins} (h : W.ownsRow base 78 7 v l.length (l.flatMap insCells)) (hl : l.length ≤ 9223372036854775807) : ∃ A c, v = .slice A l.length c ∧ l.length ≤ c ∧ Kd.C k78 W A l.length l := by
  rcases h.2 with ⟨hv, h0⟩ | ⟨g, cap, cur, hv, h1, h2, h3, h4, h5, h6⟩
  · exact ⟨none, 0, by rw [hv, h0], by omega, ⟨rfl, hl, fun hp => absurd hp (by omega)⟩⟩
  · refine ⟨some ⟨g, 0, none⟩, cap, hv, h3, ⟨rfl, hl, fun _ => ⟨_, rfl, fun j p hj => ⟨insCells p, rfl, k78_mk W p, fun i u hi => ?_⟩⟩⟩⟩
    have := h.cells (g := g) (by rw [hv]; rfl) (j * 7 + i) u (flat_get l j p hj i u hi)
    exact this
theorem inss_loop (l : List Ins) (hl : l.length ≤ 140737488351232) : ∀ d i : Nat, i + d = l.length → Ev (fun k => dowelbook_Inss.l0 k l l (i : Int)) true
  | 0, i, h => by
    refine Ev.step (fun _ => by rw [dowelbook_Inss.l0]) ?_
    exact Ev.neg (by omega) (Ev.some_ rfl)
  | d + 1, i, h => by
    have ih := inss_loop l hl d (i + 1) (by omega)
    refine Ev.step (fun _ => by rw [dowelbook_Inss.l0]) ?_
    refine Ev.pos (by omega) (Ev.pos (by omega) (Ev.pos (by omega) (Ev.neg (by simp) ?_)))
    rw [show wrap64 ((i : Int) + 1) = ((i + 1 : Nat) : Int) by rw [w64] <;> omega]
    exact ih
theorem inss_ev (l : List Ins) (hl : l.length ≤ 140737488351232) : Ev (fun k => dowelbook_Inss.f k l l) true := by
  unfold dowelbook_Inss.f
  exact Ev.pos rfl (inss_loop l hl l.length 0 (by omega))
theorem inss_lit (A : Option Addr) (c : Nat) (A2 : Option Addr) (c2 : Nat) (l : List Ins) (w : World) (h : Kd.C k78 w A l.length l) (hc : l.length ≤ c) (h2 : Kd.C k78 w A2 l.length l) (hc2 : l.length ≤ c2) (hl : l.length ≤ 140737488351232) :
    Calls Try.prog 26 #[.slice A l.length c, .slice A2 l.length c2] w fun e w' => e = .returned (.bool true) ∧ Drawn0 w w' := by
  obtain ⟨k, hk⟩ := inss_ev l hl
  exact dowelbook_Inss.calls k A c l A2 c2 l true w h hc h2 hc2 (hk k (Nat.le_refl _))
end Go.Proofs.Ytebiogaacikphaa.Pack
end
section
namespace Go.Proofs.Ytebiogaacikphaa.Pack
open Go.RowKit Go.Proofs.YtebiogaacikphaaW.PrintWords Go.Proofs.Ytebiogaacikphaa.PAll Go.Proofs.Ytebiogaacikphaa.Names Go.Proofs.Ytebiogaacikphaa.Contains
set_option linter.unusedVariables false
set_option linter.unusedSimpArgs false
set_option linter.unnecessarySimpa false
/-- The first instruction that isn't right. -/
def checkAt (n : Nat) : Nat → List Ins → Option Nat
  | _, [] => none
  | i, x :: l => if rightB x n = true then checkAt n (i + 1) l else some i
def checkL (l : List Ins) : Int × Int := if 65536 < l.length then (0, 1) else if l.length = 0 then (0, 190) else match checkAt l.length 0 l with
  | some i => (i, 190)
  | none => (0, 0)
section
variable (A : Option Addr) (c : Nat) (l : List Ins) (w : World)
set_option maxHeartbeats 4000000 in
set_option maxRecDepth 100000 in
theorem check_calls (hr : Kd.C k78 w A l.length l) (hc : l.length ≤ c) (hl : l.length ≤ 140737488351232) (hs : ∀ x ∈ l, x.f3.size ≤ 140737488351232) (f : Int × Int) (hf : checkL l = f) :
    Calls Try.prog 41 #[.slice A l.length c] w fun e w' => e = .returned (.agg #[.int .i64 f.1, .int .i64 f.2]) ∧ Below w.heap.size w w' := by
  have HR := Aside0.mk hr
  have HSS := Aside0.mk hs
  clear hr hs hc
  rw [checkL] at hf
  by_cases c0 : 65536 < l.length
  · have k0 : decide ((l.length : Int) > 65536) = true := decide_eq_true (by omega)
    rw [if_pos c0] at hf
    subst hf
    clear c0
    go_enter Try.func41, Try.ntmps41
    go_wp2_with (first | ((with_reducible refine gate_dst (N := 2) rfl ?_); refine box_event (N := 2) rfl rfl (cs := #[.int .i64 0, .int .i64 0]) (t := 42) ?hr2 ?_; (case hr2 => first | (go_simp; done) | (go_simp; rfl)); intro g2 hg2 w1 hbox hb1; have H2 := Aside0.mk (show RowAt w1 g2 42 [.int .i64 0, .int .i64 0] from ⟨_, hbox, rfl⟩); have HB := Aside0.mk hb1; have HG := Aside0.mk (show w.heap.size ≤ g2 by omega); clear hbox hb1 hg2) | ((with_reducible refine gate_store (t := 42) (p := 2) rfl ?_); refine put_event rfl rfl 42 (.tmp 2) (.tmp 9) rfl (off := 0) (u := .agg #[.int .i64 (0), .int .i64 (1)]) (seg := [.int .i64 (0), .int .i64 (1)]) rfl rfl H2.out rfl (by kernel_rfl) (by simp) (by simp [Value.oneCell']) ?_; intro w5 hrow hgr; have n1_ := Aside0.mk (pw_below_grown HB.out (some g2) HB.out.size hgr (fun k hk => by injection hk with hk; have := HG.out; omega)); have HX := Aside0.mk (show RowAt w5 g2 42 [.int .i64 (0), .int .i64 (1)] from hrow); clear H2 HB hrow hgr; have HB := n1_; clear n1_))
    refine bodyPost_ret (results_cell_row rfl _ _ g2 42 #[.int .i64 (0), .int .i64 (1)] (0, 0) _ rfl (by obtain ⟨cur, h1, h2⟩ := HX.out; rw [h1, ← h2]) Try.underlying42 rfl (by kernel_rfl)) rfl ?_
    exact ⟨rfl, HB.out⟩
  · have k0 : decide ((l.length : Int) > 65536) = false := decide_eq_false (by omega)
    rw [if_neg c0] at hf
    by_cases c1 : l.length = 0
    · have k1 : ((l.length : Int) == 0) = true := by simpa using c1
      rw [if_pos c1] at hf
      subst hf
      clear c1
      go_enter Try.func41, Try.ntmps41
      go_wp2_with (first | ((with_reducible refine gate_dst (N := 2) rfl ?_); refine box_event (N := 2) rfl rfl (cs := #[.int .i64 0, .int .i64 0]) (t := 42) ?hr2 ?_; (case hr2 => first | (go_simp; done) | (go_simp; rfl)); intro g2 hg2 w1 hbox hb1; have H2 := Aside0.mk (show RowAt w1 g2 42 [.int .i64 0, .int .i64 0] from ⟨_, hbox, rfl⟩); have HB := Aside0.mk hb1; have HG := Aside0.mk (show w.heap.size ≤ g2 by omega); clear hbox hb1 hg2) | ((with_reducible refine gate_store (t := 42) (p := 2) rfl ?_); refine put_event rfl rfl 42 (.tmp 2) (.tmp 14) rfl (off := 0) (u := .agg #[.int .i64 (0), .int .i64 (190)]) (seg := [.int .i64 (0), .int .i64 (190)]) rfl rfl H2.out rfl (by kernel_rfl) (by simp) (by simp [Value.oneCell']) ?_; intro w5 hrow hgr; have n1_ := Aside0.mk (pw_below_grown HB.out (some g2) HB.out.size hgr (fun k hk => by injection hk with hk; have := HG.out; omega)); have HX := Aside0.mk (show RowAt w5 g2 42 [.int .i64 (0), .int .i64 (190)] from hrow); clear H2 HB hrow hgr; have HB := n1_; clear n1_))
      refine bodyPost_ret (results_cell_row rfl _ _ g2 42 #[.int .i64 (0), .int .i64 (190)] (0, 0) _ rfl (by obtain ⟨cur, h1, h2⟩ := HX.out; rw [h1, ← h2]) Try.underlying42 rfl (by kernel_rfl)) rfl ?_
      exact ⟨rfl, HB.out⟩
    · have k1 : ((l.length : Int) == 0) = false := by simpa using c1
      rw [if_neg c1] at hf
      have HF := Aside0.mk hf
      have HN := Aside0.mk (show l.length ≤ 65536 by omega)
      clear hf c0 c1
      go_enter Try.func41, Try.ntmps41
      go_wp2_with (first | ((with_reducible refine gate_dst (N := 2) rfl ?_); refine box_event (N := 2) rfl rfl (cs := #[.int .i64 0, .int .i64 0]) (t := 42) ?hr2 ?_; (case hr2 => first | (go_simp; done) | (go_simp; rfl)); intro g2 hg2 w1 hbox hb1; have H2 := Aside0.mk (show RowAt w1 g2 42 [.int .i64 0, .int .i64 0] from ⟨_, hbox, rfl⟩); have HB := Aside0.mk hb1; have HG := Aside0.mk (show w.heap.size ≤ g2 by omega); clear hbox hb1 hg2))
      go_loopw [17] (fun v17 wr => ∃ (i : Int), v17 = .int .i64 i ∧ Aside0 (0 ≤ i ∧ i ≤ l.length ∧ checkAt l.length 0 l = checkAt l.length i.toNat (l.drop i.toNat)) ∧ Aside0 (RowAt wr g2 42 [.int .i64 0, .int .i64 0]) ∧ Aside0 (Below w.heap.size w wr)) (fun v17 _ => l.length - (intOf v17).toNat)
      case atStart => exact ⟨0, rfl, ⟨by omega, by omega, rfl⟩, H2, HB⟩
      case round =>
        clear H2 HB
        obtain ⟨i, rfl, HI, H2, HB⟩ := hrel
        by_cases c2 : i < (l.length : Int)
        · have k2 : decide (i < (l.length : Int)) = true := decide_eq_true c2
          have p0 : 0 ≤ i := HI.out.1
          obtain ⟨x, hx⟩ : ∃ x, rd_T78 l i = x := ⟨_, rfl⟩
          have hget : l[i.toNat]? = some x := by
            have h1 : i.toNat < l.length := by omega
            rw [List.getElem?_eq_getElem h1, ← hx, rd_T78, List.getD_eq_getElem?_getD, List.getElem?_eq_getElem h1]
            rfl
          obtain ⟨ad, e, x0, x1, x2, x3, x4, x5, x6⟩ := at_T78 (Kd.C_below HR.out HB.out) i p0 c2
          rw [hx] at x0 x1 x2 x3 x4 x5 x6
          cases e
          have HS := Aside0.mk (HSS.out x (List.mem_of_getElem? hget))
          have HGET := Aside0.mk hget
          obtain ⟨E, hE⟩ : ∃ E, rightB x l.length = E := ⟨_, rfl⟩
          have HE := Aside0.mk hE
          have hw1 : IntKind.i64.wrap (i + 1) = i + 1 := IntWalk.i64_in _ (by have := HN.out; omega)
          replace p0 := eq_true p0
          have q0 := eq_true c2
          clear hx hget hE c2
          cases E with
          | true =>
            go_wp2_with (first
              | ((with_reducible refine gate_dst (N := 4) rfl ?_); refine box_event (N := 4) rfl rfl (cs := #[.int .i64 0, .int .i64 0, .int .u64 0, .int .u64 0, .int .u64 0, .int .u64 0, .string (⟨#[]⟩ : ByteArray)]) (t := 78) ?hr2 ?_; (case hr2 => first | (go_simp; done) | (go_simp; rfl)); intro g4 hg4 w3 hbox hb1; have H4 := Aside0.mk (show RowAt w3 g4 78 (insCells zIns) from ⟨_, hbox, rfl⟩); have HG4 := Aside0.mk (show g2 < g4 ∧ w.heap.size ≤ g4 by have := H2.out.lt; have := HG.out; omega); have n1_ := Aside0.mk (H2.out.below hb1); have n2_ := Aside0.mk (below_step HB.out hb1); clear H2 HB hbox hb1 hg4 x0 x1 x2 x3 x4 x5 x6; have H2 := n1_; have HB := n2_; clear n1_ n2_)
              | ((with_reducible refine gate_store (t := 78) (p := 4) rfl ?_); refine put_event rfl rfl 78 (.tmp 4) (.tmp 21) rfl (off := 0) (u := .agg #[.int .i64 x.f0, .int .i64 x.f1, .int .u64 x.f2.f0, .int .u64 x.f2.f1, .int .u64 x.f2.f2, .int .u64 x.f2.f3, .string x.f3]) (seg := insCells x) rfl rfl H4.out rfl (by kernel_rfl) (by simp [insCells]) (by simp [insCells, Value.oneCell']) ?_; intro w4 hrow hgr; have n1_ := Aside0.mk (H2.out.grown hgr (by have := HG4.out; simp; omega)); have n2_ := Aside0.mk (pw_below_grown HB.out (some g4) HB.out.size hgr (fun k hk => by injection hk with hk; have := HG4.out; omega)); clear H2 HB H4 hgr; have H2 := n1_; have HB := n2_; clear n1_ n2_; have H4 := Aside0.mk (show RowAt w4 g4 78 (insCells x) from hrow); clear hrow; obtain ⟨x0, x1, x2, x3, x4, x5, x6⟩ := cells7 H4.out)
              | (go_at_call 81; have hcall := right_calls x l.length w4 HS.out _ HE.out; (with_reducible refine hcall.mono ?_); clear hcall; rintro xx w6 ⟨rfl, hb⟩; have n1_ := Aside0.mk (H2.out.below hb); have n2_ := Aside0.mk (below_step HB.out hb); clear H2 HB H4 hb x0 x1 x2 x3 x4 x5 x6; have H2 := n1_; have HB := n2_; clear n1_ n2_))
            go_roundw
            case measure => have h1 := HI.out; have h2 := of_eq_true q0; have h3 := of_eq_true p0; show l.length - (i + 1).toNat < l.length - i.toNat; omega
            case rel =>
              have hi := HI.out
              have hlt := (List.getElem?_eq_some_iff.1 HGET.out).1
              refine ⟨i + 1, rfl, ⟨by omega, by omega, ?_⟩, H2, HB⟩
              rw [hi.2.2, List.drop_eq_getElem_cons hlt, checkAt]
              have hxe : l[i.toNat] = x := by have := HGET.out; rw [List.getElem?_eq_getElem hlt] at this; exact Option.some.inj this
              rw [hxe, if_pos HE.out, show (i + 1).toNat = i.toNat + 1 by omega]
          | false =>
            go_wp2_with (first
              | ((with_reducible refine gate_dst (N := 4) rfl ?_); refine box_event (N := 4) rfl rfl (cs := #[.int .i64 0, .int .i64 0, .int .u64 0, .int .u64 0, .int .u64 0, .int .u64 0, .string (⟨#[]⟩ : ByteArray)]) (t := 78) ?hr2 ?_; (case hr2 => first | (go_simp; done) | (go_simp; rfl)); intro g4 hg4 w3 hbox hb1; have H4 := Aside0.mk (show RowAt w3 g4 78 (insCells zIns) from ⟨_, hbox, rfl⟩); have HG4 := Aside0.mk (show g2 < g4 ∧ w.heap.size ≤ g4 by have := H2.out.lt; have := HG.out; omega); have n1_ := Aside0.mk (H2.out.below hb1); have n2_ := Aside0.mk (below_step HB.out hb1); clear H2 HB hbox hb1 hg4 x0 x1 x2 x3 x4 x5 x6; have H2 := n1_; have HB := n2_; clear n1_ n2_)
              | ((with_reducible refine gate_store (t := 78) (p := 4) rfl ?_); refine put_event rfl rfl 78 (.tmp 4) (.tmp 21) rfl (off := 0) (u := .agg #[.int .i64 x.f0, .int .i64 x.f1, .int .u64 x.f2.f0, .int .u64 x.f2.f1, .int .u64 x.f2.f2, .int .u64 x.f2.f3, .string x.f3]) (seg := insCells x) rfl rfl H4.out rfl (by kernel_rfl) (by simp [insCells]) (by simp [insCells, Value.oneCell']) ?_; intro w4 hrow hgr; have n1_ := Aside0.mk (H2.out.grown hgr (by have := HG4.out; simp; omega)); have n2_ := Aside0.mk (pw_below_grown HB.out (some g4) HB.out.size hgr (fun k hk => by injection hk with hk; have := HG4.out; omega)); clear H2 HB H4 hgr; have H2 := n1_; have HB := n2_; clear n1_ n2_; have H4 := Aside0.mk (show RowAt w4 g4 78 (insCells x) from hrow); clear hrow; obtain ⟨x0, x1, x2, x3, x4, x5, x6⟩ := cells7 H4.out)
              | (go_at_call 81; have hcall := right_calls x l.length w4 HS.out _ HE.out; (with_reducible refine hcall.mono ?_); clear hcall; rintro xx w6 ⟨rfl, hb⟩; have n1_ := Aside0.mk (H2.out.below hb); have n2_ := Aside0.mk (below_step HB.out hb); clear H2 HB H4 hb x0 x1 x2 x3 x4 x5 x6; have H2 := n1_; have HB := n2_; clear n1_ n2_)
              | ((with_reducible refine gate_store (t := 42) (p := 2) rfl ?_); refine put_event rfl rfl 42 (.tmp 2) (.tmp 28) rfl (off := 0) (u := .agg #[.int .i64 (i), .int .i64 (190)]) (seg := [.int .i64 (i), .int .i64 (190)]) rfl rfl H2.out rfl (by kernel_rfl) (by simp) (by simp [Value.oneCell']) ?_; intro w5 hrow hgr; have n1_ := Aside0.mk (pw_below_grown HB.out (some g2) HB.out.size hgr (fun k hk => by injection hk with hk; have := HG.out; omega)); have HX := Aside0.mk (show RowAt w5 g2 42 [.int .i64 (i), .int .i64 (190)] from hrow); clear H2 HB hrow hgr; have HB := n1_; clear n1_))
            refine bodyPost_ret (results_cell_row rfl _ _ g2 42 #[.int .i64 (i), .int .i64 (190)] (0, 0) _ rfl (by obtain ⟨cur, h1, h2⟩ := HX.out; rw [h1, ← h2]) Try.underlying42 rfl (by kernel_rfl)) rfl ?_
            have hi := HI.out
            have hlt := (List.getElem?_eq_some_iff.1 HGET.out).1
            have hxe : l[i.toNat] = x := by have := HGET.out; rw [List.getElem?_eq_getElem hlt] at this; exact Option.some.inj this
            have hf := HF.out
            rw [hi.2.2, List.drop_eq_getElem_cons hlt, checkAt, hxe, if_neg (by rw [HE.out]; decide)] at hf
            dsimp only at hf
            rw [Int.toNat_of_nonneg hi.1] at hf
            subst hf
            exact ⟨rfl, HB.out⟩
        · have k2 : decide (i < (l.length : Int)) = false := decide_eq_false c2
          go_wp2_with (first | ((with_reducible refine gate_store (t := 42) (p := 2) rfl ?_); refine put_event rfl rfl 42 (.tmp 2) (.tmp 30) rfl (off := 0) (u := .agg #[.int .i64 (0), .int .i64 (0)]) (seg := [.int .i64 (0), .int .i64 (0)]) rfl rfl H2.out rfl (by kernel_rfl) (by simp) (by simp [Value.oneCell']) ?_; intro w5 hrow hgr; have n1_ := Aside0.mk (pw_below_grown HB.out (some g2) HB.out.size hgr (fun k hk => by injection hk with hk; have := HG.out; omega)); have HX := Aside0.mk (show RowAt w5 g2 42 [.int .i64 (0), .int .i64 (0)] from hrow); clear H2 HB hrow hgr; have HB := n1_; clear n1_))
          refine bodyPost_ret (results_cell_row rfl _ _ g2 42 #[.int .i64 (0), .int .i64 (0)] (0, 0) _ rfl (by obtain ⟨cur, h1, h2⟩ := HX.out; rw [h1, ← h2]) Try.underlying42 rfl (by kernel_rfl)) rfl ?_
          have hi := HI.out
          have hf := HF.out
          rw [hi.2.2, List.drop_of_length_le (by omega), checkAt] at hf
          subst hf
          exact ⟨rfl, HB.out⟩
end
end Go.Proofs.Ytebiogaacikphaa.Pack
end
