/- Parts of the proof of packEncodes: CodeCheck, PAllx3, PAllx6, PAllx18, PAllx19. No condition beyond each lemma's own. -/
import Derived.Test.YtebiogaacikphaaTE3
import Derived.Test.YtebiogaacikphaaTE5
import Derived.Test.YtebiogaacikphaaTE6
import Derived.Test.YtebiogaacikphaaTE7
import Derived.Test.YtebiogaacikphaaTE8
section
namespace Go.Proofs.Ytebiogaacikphaa.Pack
open Go.RowKit Go.Proofs.YtebiogaacikphaaW.PrintWords Go.Proofs.Ytebiogaacikphaa.PAll Go.Proofs.Ytebiogaacikphaa.Names Go.Proofs.Ytebiogaacikphaa.Contains
set_option linter.unusedVariables false
set_option linter.unusedSimpArgs false
set_option linter.unnecessarySimpa false
/-- The first instruction that isn't right. -/
def checkAt (n : Nat) : Nat → List Ins → Option Nat
  | _, [] => none
  | i, x :: l => if rightB x n = true then checkAt n (i + 1) l else some i
def checkL (l : List Ins) : Int × Int := if 65536 < l.length then (0, 1) else if l.length = 0 then (0, 190) else match checkAt l.length 0 l with
  | some i => (i, 190)
  | none => (0, 0)
section
variable (A : Option Addr) (c : Nat) (l : List Ins) (w : World)
set_option maxHeartbeats 4000000 in
set_option maxRecDepth 100000 in
theorem check_calls (hr : Kd.C k78 w A l.length l) (hc : l.length ≤ c) (hl : l.length ≤ 140737488351232) (hs : ∀ x ∈ l, x.f3.size ≤ 140737488351232) (f : Int × Int) (hf : checkL l = f) :
    Calls Try.prog 41 #[.slice A l.length c] w fun e w' => e = .returned (.agg #[.int .i64 f.1, .int .i64 f.2]) ∧ Below w.heap.size w w' := by
  have HR := Aside0.mk hr
  have HSS := Aside0.mk hs
  clear hr hs hc
  rw [checkL] at hf
  by_cases c0 : 65536 < l.length
  · have k0 : decide ((l.length : Int) > 65536) = true := decide_eq_true (by omega)
    rw [if_pos c0] at hf
    subst hf
    clear c0
    go_enter Try.func41, Try.ntmps41
    go_wp2_with (first | ((with_reducible refine gate_dst (N := 2) rfl ?_); refine box_event (N := 2) rfl rfl (cs := #[.int .i64 0, .int .i64 0]) (t := 42) ?hr2 ?_; (case hr2 => first | (go_simp; done) | (go_simp; rfl)); intro g2 hg2 w1 hbox hb1; have H2 := Aside0.mk (show RowAt w1 g2 42 [.int .i64 0, .int .i64 0] from ⟨_, hbox, rfl⟩); have HB := Aside0.mk hb1; have HG := Aside0.mk (show w.heap.size ≤ g2 by omega); clear hbox hb1 hg2) | ((with_reducible refine gate_store (t := 42) (p := 2) rfl ?_); refine put_event rfl rfl 42 (.tmp 2) (.tmp 9) rfl (off := 0) (u := .agg #[.int .i64 (0), .int .i64 (1)]) (seg := [.int .i64 (0), .int .i64 (1)]) rfl rfl H2.out rfl (by kernel_rfl) (by simp) (by simp [Value.oneCell']) ?_; intro w5 hrow hgr; have n1_ := Aside0.mk (pw_below_grown HB.out (some g2) HB.out.size hgr (fun k hk => by injection hk with hk; have := HG.out; omega)); have HX := Aside0.mk (show RowAt w5 g2 42 [.int .i64 (0), .int .i64 (1)] from hrow); clear H2 HB hrow hgr; have HB := n1_; clear n1_))
    refine bodyPost_ret (results_cell_row rfl _ _ g2 42 #[.int .i64 (0), .int .i64 (1)] (0, 0) _ rfl (by obtain ⟨cur, h1, h2⟩ := HX.out; rw [h1, ← h2]) Try.underlying42 rfl (by kernel_rfl)) rfl ?_
    exact ⟨rfl, HB.out⟩
  · have k0 : decide ((l.length : Int) > 65536) = false := decide_eq_false (by omega)
    rw [if_neg c0] at hf
    by_cases c1 : l.length = 0
    · have k1 : ((l.length : Int) == 0) = true := by simpa using c1
      rw [if_pos c1] at hf
      subst hf
      clear c1
      go_enter Try.func41, Try.ntmps41
      go_wp2_with (first | ((with_reducible refine gate_dst (N := 2) rfl ?_); refine box_event (N := 2) rfl rfl (cs := #[.int .i64 0, .int .i64 0]) (t := 42) ?hr2 ?_; (case hr2 => first | (go_simp; done) | (go_simp; rfl)); intro g2 hg2 w1 hbox hb1; have H2 := Aside0.mk (show RowAt w1 g2 42 [.int .i64 0, .int .i64 0] from ⟨_, hbox, rfl⟩); have HB := Aside0.mk hb1; have HG := Aside0.mk (show w.heap.size ≤ g2 by omega); clear hbox hb1 hg2) | ((with_reducible refine gate_store (t := 42) (p := 2) rfl ?_); refine put_event rfl rfl 42 (.tmp 2) (.tmp 14) rfl (off := 0) (u := .agg #[.int .i64 (0), .int .i64 (190)]) (seg := [.int .i64 (0), .int .i64 (190)]) rfl rfl H2.out rfl (by kernel_rfl) (by simp) (by simp [Value.oneCell']) ?_; intro w5 hrow hgr; have n1_ := Aside0.mk (pw_below_grown HB.out (some g2) HB.out.size hgr (fun k hk => by injection hk with hk; have := HG.out; omega)); have HX := Aside0.mk (show RowAt w5 g2 42 [.int .i64 (0), .int .i64 (190)] from hrow); clear H2 HB hrow hgr; have HB := n1_; clear n1_))
      refine bodyPost_ret (results_cell_row rfl _ _ g2 42 #[.int .i64 (0), .int .i64 (190)] (0, 0) _ rfl (by obtain ⟨cur, h1, h2⟩ := HX.out; rw [h1, ← h2]) Try.underlying42 rfl (by kernel_rfl)) rfl ?_
      exact ⟨rfl, HB.out⟩
    · have k1 : ((l.length : Int) == 0) = false := by simpa using c1
      rw [if_neg c1] at hf
      have HF := Aside0.mk hf
      have HN := Aside0.mk (show l.length ≤ 65536 by omega)
      clear hf c0 c1
      go_enter Try.func41, Try.ntmps41
      go_wp2_with (first | ((with_reducible refine gate_dst (N := 2) rfl ?_); refine box_event (N := 2) rfl rfl (cs := #[.int .i64 0, .int .i64 0]) (t := 42) ?hr2 ?_; (case hr2 => first | (go_simp; done) | (go_simp; rfl)); intro g2 hg2 w1 hbox hb1; have H2 := Aside0.mk (show RowAt w1 g2 42 [.int .i64 0, .int .i64 0] from ⟨_, hbox, rfl⟩); have HB := Aside0.mk hb1; have HG := Aside0.mk (show w.heap.size ≤ g2 by omega); clear hbox hb1 hg2))
      go_loopw [17] (fun v17 wr => ∃ (i : Int), v17 = .int .i64 i ∧ Aside0 (0 ≤ i ∧ i ≤ l.length ∧ checkAt l.length 0 l = checkAt l.length i.toNat (l.drop i.toNat)) ∧ Aside0 (RowAt wr g2 42 [.int .i64 0, .int .i64 0]) ∧ Aside0 (Below w.heap.size w wr)) (fun v17 _ => l.length - (intOf v17).toNat)
      case atStart => exact ⟨0, rfl, ⟨by omega, by omega, rfl⟩, H2, HB⟩
      case round =>
        clear H2 HB
        obtain ⟨i, rfl, HI, H2, HB⟩ := hrel
        by_cases c2 : i < (l.length : Int)
        · have k2 : decide (i < (l.length : Int)) = true := decide_eq_true c2
          have p0 : 0 ≤ i := HI.out.1
          obtain ⟨x, hx⟩ : ∃ x, rd_T78 l i = x := ⟨_, rfl⟩
          have hget : l[i.toNat]? = some x := by
            have h1 : i.toNat < l.length := by omega
            rw [List.getElem?_eq_getElem h1, ← hx, rd_T78, List.getD_eq_getElem?_getD, List.getElem?_eq_getElem h1]
            rfl
          obtain ⟨ad, e, x0, x1, x2, x3, x4, x5, x6⟩ := at_T78 (Kd.C_below HR.out HB.out) i p0 c2
          rw [hx] at x0 x1 x2 x3 x4 x5 x6
          cases e
          have HS := Aside0.mk (HSS.out x (List.mem_of_getElem? hget))
          have HGET := Aside0.mk hget
          obtain ⟨E, hE⟩ : ∃ E, rightB x l.length = E := ⟨_, rfl⟩
          have HE := Aside0.mk hE
          have hw1 : IntKind.i64.wrap (i + 1) = i + 1 := IntWalk.i64_in _ (by have := HN.out; omega)
          replace p0 := eq_true p0
          have q0 := eq_true c2
          clear hx hget hE c2
          cases E with
          | true =>
            go_wp2_with (first
              | ((with_reducible refine gate_dst (N := 4) rfl ?_); refine box_event (N := 4) rfl rfl (cs := #[.int .i64 0, .int .i64 0, .int .u64 0, .int .u64 0, .int .u64 0, .int .u64 0, .string (⟨#[]⟩ : ByteArray)]) (t := 78) ?hr2 ?_; (case hr2 => first | (go_simp; done) | (go_simp; rfl)); intro g4 hg4 w3 hbox hb1; have H4 := Aside0.mk (show RowAt w3 g4 78 (insCells zIns) from ⟨_, hbox, rfl⟩); have HG4 := Aside0.mk (show g2 < g4 ∧ w.heap.size ≤ g4 by have := H2.out.lt; have := HG.out; omega); have n1_ := Aside0.mk (H2.out.below hb1); have n2_ := Aside0.mk (below_step HB.out hb1); clear H2 HB hbox hb1 hg4 x0 x1 x2 x3 x4 x5 x6; have H2 := n1_; have HB := n2_; clear n1_ n2_)
              | ((with_reducible refine gate_store (t := 78) (p := 4) rfl ?_); refine put_event rfl rfl 78 (.tmp 4) (.tmp 21) rfl (off := 0) (u := .agg #[.int .i64 x.f0, .int .i64 x.f1, .int .u64 x.f2.f0, .int .u64 x.f2.f1, .int .u64 x.f2.f2, .int .u64 x.f2.f3, .string x.f3]) (seg := insCells x) rfl rfl H4.out rfl (by kernel_rfl) (by simp [insCells]) (by simp [insCells, Value.oneCell']) ?_; intro w4 hrow hgr; have n1_ := Aside0.mk (H2.out.grown hgr (by have := HG4.out; simp; omega)); have n2_ := Aside0.mk (pw_below_grown HB.out (some g4) HB.out.size hgr (fun k hk => by injection hk with hk; have := HG4.out; omega)); clear H2 HB H4 hgr; have H2 := n1_; have HB := n2_; clear n1_ n2_; have H4 := Aside0.mk (show RowAt w4 g4 78 (insCells x) from hrow); clear hrow; obtain ⟨x0, x1, x2, x3, x4, x5, x6⟩ := cells7 H4.out)
              | (go_at_call 81; have hcall := right_calls x l.length w4 HS.out _ HE.out; (with_reducible refine hcall.mono ?_); clear hcall; rintro xx w6 ⟨rfl, hb⟩; have n1_ := Aside0.mk (H2.out.below hb); have n2_ := Aside0.mk (below_step HB.out hb); clear H2 HB H4 hb x0 x1 x2 x3 x4 x5 x6; have H2 := n1_; have HB := n2_; clear n1_ n2_))
            go_roundw
            case measure => have h1 := HI.out; have h2 := of_eq_true q0; have h3 := of_eq_true p0; show l.length - (i + 1).toNat < l.length - i.toNat; omega
            case rel =>
              have hi := HI.out
              have hlt := (List.getElem?_eq_some_iff.1 HGET.out).1
              refine ⟨i + 1, rfl, ⟨by omega, by omega, ?_⟩, H2, HB⟩
              rw [hi.2.2, List.drop_eq_getElem_cons hlt, checkAt]
              have hxe : l[i.toNat] = x := by have := HGET.out; rw [List.getElem?_eq_getElem hlt] at this; exact Option.some.inj this
              rw [hxe, if_pos HE.out, show (i + 1).toNat = i.toNat + 1 by omega]
          | false =>
            go_wp2_with (first
              | ((with_reducible refine gate_dst (N := 4) rfl ?_); refine box_event (N := 4) rfl rfl (cs := #[.int .i64 0, .int .i64 0, .int .u64 0, .int .u64 0, .int .u64 0, .int .u64 0, .string (⟨#[]⟩ : ByteArray)]) (t := 78) ?hr2 ?_; (case hr2 => first | (go_simp; done) | (go_simp; rfl)); intro g4 hg4 w3 hbox hb1; have H4 := Aside0.mk (show RowAt w3 g4 78 (insCells zIns) from ⟨_, hbox, rfl⟩); have HG4 := Aside0.mk (show g2 < g4 ∧ w.heap.size ≤ g4 by have := H2.out.lt; have := HG.out; omega); have n1_ := Aside0.mk (H2.out.below hb1); have n2_ := Aside0.mk (below_step HB.out hb1); clear H2 HB hbox hb1 hg4 x0 x1 x2 x3 x4 x5 x6; have H2 := n1_; have HB := n2_; clear n1_ n2_)
              | ((with_reducible refine gate_store (t := 78) (p := 4) rfl ?_); refine put_event rfl rfl 78 (.tmp 4) (.tmp 21) rfl (off := 0) (u := .agg #[.int .i64 x.f0, .int .i64 x.f1, .int .u64 x.f2.f0, .int .u64 x.f2.f1, .int .u64 x.f2.f2, .int .u64 x.f2.f3, .string x.f3]) (seg := insCells x) rfl rfl H4.out rfl (by kernel_rfl) (by simp [insCells]) (by simp [insCells, Value.oneCell']) ?_; intro w4 hrow hgr; have n1_ := Aside0.mk (H2.out.grown hgr (by have := HG4.out; simp; omega)); have n2_ := Aside0.mk (pw_below_grown HB.out (some g4) HB.out.size hgr (fun k hk => by injection hk with hk; have := HG4.out; omega)); clear H2 HB H4 hgr; have H2 := n1_; have HB := n2_; clear n1_ n2_; have H4 := Aside0.mk (show RowAt w4 g4 78 (insCells x) from hrow); clear hrow; obtain ⟨x0, x1, x2, x3, x4, x5, x6⟩ := cells7 H4.out)
              | (go_at_call 81; have hcall := right_calls x l.length w4 HS.out _ HE.out; (with_reducible refine hcall.mono ?_); clear hcall; rintro xx w6 ⟨rfl, hb⟩; have n1_ := Aside0.mk (H2.out.below hb); have n2_ := Aside0.mk (below_step HB.out hb); clear H2 HB H4 hb x0 x1 x2 x3 x4 x5 x6; have H2 := n1_; have HB := n2_; clear n1_ n2_)
              | ((with_reducible refine gate_store (t := 42) (p := 2) rfl ?_); refine put_event rfl rfl 42 (.tmp 2) (.tmp 28) rfl (off := 0) (u := .agg #[.int .i64 (i), .int .i64 (190)]) (seg := [.int .i64 (i), .int .i64 (190)]) rfl rfl H2.out rfl (by kernel_rfl) (by simp) (by simp [Value.oneCell']) ?_; intro w5 hrow hgr; have n1_ := Aside0.mk (pw_below_grown HB.out (some g2) HB.out.size hgr (fun k hk => by injection hk with hk; have := HG.out; omega)); have HX := Aside0.mk (show RowAt w5 g2 42 [.int .i64 (i), .int .i64 (190)] from hrow); clear H2 HB hrow hgr; have HB := n1_; clear n1_))
            refine bodyPost_ret (results_cell_row rfl _ _ g2 42 #[.int .i64 (i), .int .i64 (190)] (0, 0) _ rfl (by obtain ⟨cur, h1, h2⟩ := HX.out; rw [h1, ← h2]) Try.underlying42 rfl (by kernel_rfl)) rfl ?_
            have hi := HI.out
            have hlt := (List.getElem?_eq_some_iff.1 HGET.out).1
            have hxe : l[i.toNat] = x := by have := HGET.out; rw [List.getElem?_eq_getElem hlt] at this; exact Option.some.inj this
            have hf := HF.out
            rw [hi.2.2, List.drop_eq_getElem_cons hlt, checkAt, hxe, if_neg (by rw [HE.out]; decide)] at hf
            dsimp only at hf
            rw [Int.toNat_of_nonneg hi.1] at hf
            subst hf
            exact ⟨rfl, HB.out⟩
        · have k2 : decide (i < (l.length : Int)) = false := decide_eq_false c2
          go_wp2_with (first | ((with_reducible refine gate_store (t := 42) (p := 2) rfl ?_); refine put_event rfl rfl 42 (.tmp 2) (.tmp 30) rfl (off := 0) (u := .agg #[.int .i64 (0), .int .i64 (0)]) (seg := [.int .i64 (0), .int .i64 (0)]) rfl rfl H2.out rfl (by kernel_rfl) (by simp) (by simp [Value.oneCell']) ?_; intro w5 hrow hgr; have n1_ := Aside0.mk (pw_below_grown HB.out (some g2) HB.out.size hgr (fun k hk => by injection hk with hk; have := HG.out; omega)); have HX := Aside0.mk (show RowAt w5 g2 42 [.int .i64 (0), .int .i64 (0)] from hrow); clear H2 HB hrow hgr; have HB := n1_; clear n1_))
          refine bodyPost_ret (results_cell_row rfl _ _ g2 42 #[.int .i64 (0), .int .i64 (0)] (0, 0) _ rfl (by obtain ⟨cur, h1, h2⟩ := HX.out; rw [h1, ← h2]) Try.underlying42 rfl (by kernel_rfl)) rfl ?_
          have hi := HI.out
          have hf := HF.out
          rw [hi.2.2, List.drop_of_length_le (by omega), checkAt] at hf
          subst hf
          exact ⟨rfl, HB.out⟩
end
end Go.Proofs.Ytebiogaacikphaa.Pack
end
section
namespace Go.Proofs.Ytebiogaacikphaa.PAll
open Go.RowKit Go.Proofs.YtebiogaacikphaaW.PrintWords Go.Proofs.YtebiogaacikphaaW.PrintLast Go.Proofs.YtebiogaacikphaaW.PrintMore
set_option linter.unusedVariables false
set_option linter.unusedSimpArgs false
theorem eqA90 (d : Nat) (w : World) (x0 y0 : Int) (x1 y1 : Int) (x2 y2 : Int) (x3 y3 : Int) (x4 y4 : Int) (x5 y5 : Int) (x6 y6 : ByteArray) :
    (Op.equalIn (d + 3) 90 (.agg #[.int .i64 x0, .int .u64 x1, .int .u64 x2, .int .u64 x3, .int .u64 x4, .int .i64 x5, .string x6]) (.agg #[.int .i64 y0, .int .u64 y1, .int .u64 y2, .int .u64 y3, .int .u64 y4, .int .i64 y5, .string y6])).run Try.prog w = .ok (x0 == y0 && ((x1 == y1 && (x2 == y2 && (x3 == y3 && (x4 == y4)))) && (x5 == y5 && (x6.toList == y6.toList)))) w := by
  refine eqA_of Try.underlying90 (by kernel_rfl) ?_
  refine eqf_cons (by rfl) (by go_simp; rfl) (by go_simp; rfl) (by go_simp) ?_
  refine eqf_cons (by rfl) (by go_simp) (by go_simp) (eqA76 (d + 0) w _ _ _ _ _ _ _ _) ?_
  refine eqf_cons (by rfl) (by go_simp; rfl) (by go_simp; rfl) (by go_simp) ?_
  exact eqf_last (by rfl) (by go_simp; rfl) (by go_simp; rfl) (by go_simp)
end Go.Proofs.Ytebiogaacikphaa.PAll
end
section
namespace Go.Proofs.Ytebiogaacikphaa.PAll
open Go.RowKit Go.Proofs.YtebiogaacikphaaW.PrintWords Go.Proofs.YtebiogaacikphaaW.PrintLast Go.Proofs.YtebiogaacikphaaW.PrintMore
set_option linter.unusedVariables false
set_option linter.unusedSimpArgs false
def core_arity.j0 : Nat → Int → Bool → Option (Int)
  | 0, _, _ => none
  | k + 1, x3, x4 => if x4 = true then (some 2) else (if x3 = 6 then (some 1) else (if x3 = 7 then (some 1) else (if x3 = 8 then (some 1) else (some 0))))
def core_arity.f (k : Nat) (a0 : Int) : Option (Int) := if a0 = 4 then (core_arity.j0 k a0 (a0 == 4)) else (core_arity.j0 k a0 (a0 == 5))
theorem core_arity.mono_l : ∀ k, (∀ y0 y1, LeO (core_arity.j0 k y0 y1) (core_arity.j0 (k + 1) y0 y1))
  | 0 => fun _ _ r h => by simp [core_arity.j0] at h
  | k + 1 => by
    have ih0 := core_arity.mono_l k
    · intro y0 y1
      unfold core_arity.j0
      repeat' first
      | (with_reducible exact ih0 _ _)
      | (with_reducible exact LeO.refl _)
      | (with_reducible exact LeO.none _)
      | (with_reducible refine LeO.ite ?_ ?_)
      | (with_reducible refine LeO.bind ?_ (fun _ => ?_))
      | exact ih0 _ _
      | exact LeO.none _
      | refine LeO.ite ?_ ?_
      | refine LeO.bind ?_ (fun _ => ?_)
theorem core_arity.mono : ∀ a0 k, LeO (core_arity.f k a0) (core_arity.f (k + 1) a0) := by
  intro a0 k
  have ih0 := core_arity.mono_l k
  unfold core_arity.f
  repeat' first
      | (with_reducible exact ih0 _ _)
      | (with_reducible exact LeO.refl _)
      | (with_reducible exact LeO.none _)
      | (with_reducible refine LeO.ite ?_ ?_)
      | (with_reducible refine LeO.bind ?_ (fun _ => ?_))
      | exact ih0 _ _
      | exact LeO.none _
      | refine LeO.ite ?_ ?_
      | refine LeO.bind ?_ (fun _ => ?_)
end Go.Proofs.Ytebiogaacikphaa.PAll
end
section
namespace Go.Proofs.Ytebiogaacikphaa.PAll
open Go.RowKit Go.Proofs.YtebiogaacikphaaW.PrintWords Go.Proofs.YtebiogaacikphaaW.PrintLast Go.Proofs.YtebiogaacikphaaW.PrintMore
set_option linter.unusedVariables false
set_option linter.unusedSimpArgs false
attribute [local go_sem high] eqA90
mutual
def core_right.l0 : Nat → Int → Int → List (S90) → Int → Int → Option (Bool)
  | 0, _, _, _, _, _ => none
  | k + 1, x1, x5, x11, x12, x13 => if x13 < x12 then (if 0 ≤ x13 then (if x13 < (x11.length : Int) then ((core_arity.f k ((rd_T90 x11 x13).f0)).bind fun t174 => (if t174 ≤ x5 then (if ((rd_T90 x11 x13).f0) ≥ 0 then (core_right.j1 k x1 x5 t174 (decide (((rd_T90 x11 x13).f0) ≤ 8)) x11 x12 x13 ((rd_T90 x11 x13).f0) ((rd_T90 x11 x13).f1.f0) ((rd_T90 x11 x13).f1.f1) ((rd_T90 x11 x13).f1.f2) ((rd_T90 x11 x13).f1.f3) ((rd_T90 x11 x13).f2) ((rd_T90 x11 x13).f3) ((rd_T90 x11 x13).f0) 0 0 0 0 0 (⟨#[]⟩ : ByteArray)) else (core_right.j1 k x1 x5 t174 false x11 x12 x13 ((rd_T90 x11 x13).f0) ((rd_T90 x11 x13).f1.f0) ((rd_T90 x11 x13).f1.f1) ((rd_T90 x11 x13).f1.f2) ((rd_T90 x11 x13).f1.f3) ((rd_T90 x11 x13).f2) ((rd_T90 x11 x13).f3) ((rd_T90 x11 x13).f0) 0 0 0 0 0 (⟨#[]⟩ : ByteArray))) else (core_right.j1 k x1 x5 t174 false x11 x12 x13 ((rd_T90 x11 x13).f0) ((rd_T90 x11 x13).f1.f0) ((rd_T90 x11 x13).f1.f1) ((rd_T90 x11 x13).f1.f2) ((rd_T90 x11 x13).f1.f3) ((rd_T90 x11 x13).f2) ((rd_T90 x11 x13).f3) ((rd_T90 x11 x13).f0) 0 0 0 0 0 (⟨#[]⟩ : ByteArray)))) else (none)) else (none)) else (some (x5 == 1))
def core_right.j1 : Nat → Int → Int → Int → Bool → List (S90) → Int → Int → Int → Int → Int → Int → Int → Int → ByteArray → Int → Int → Int → Int → Int → Int → ByteArray → Option (Bool)
  | 0, _, _, _, _, _, _, _, _, _, _, _, _, _, _, _, _, _, _, _, _, _ => none
  | k + 1, x1, x5, x8, x10, x11, x12, x13, x174000, x174001, x174002, x174003, x174004, x174005, x174006, x176000, x176001, x176002, x176003, x176004, x176005, x176006 => if x174000 = 1 then (if x10 = true then (if (!(x174000 == x176000) || (!(x174005 == x176005) || (!(x174006.toList == x176006.toList)))) = true then (some false) else (core_right.l0 k x1 (wrap64 (x5 + (wrap64 (1 - x8)))) x11 x12 (wrap64 (x13 + 1)))) else (some false)) else (if x174000 = 2 then (if x10 = true then (if x174005 ≥ 0 then (if x174005 < x1 then (if (!(x174000 == x176000) || ((!(x174001 == x176001) || (!(x174002 == x176002) || (!(x174003 == x176003) || (!(x174004 == x176004))))) || (!(x174006.toList == x176006.toList)))) = true then (some false) else (core_right.l0 k x1 (wrap64 (x5 + (wrap64 (1 - x8)))) x11 x12 (wrap64 (x13 + 1)))) else (some false)) else (some false)) else (some false)) else (if x174000 = 3 then (core_right.j2 k x1 x5 x8 x10 x11 x12 x13 (x174000 == 3) x174000 x174001 x174002 x174003 x174004 x174005 x174006 x176000 x176001 x176002 x176003 x176004 x176005 x176006) else (core_right.j2 k x1 x5 x8 x10 x11 x12 x13 (x174000 == 8) x174000 x174001 x174002 x174003 x174004 x174005 x174006 x176000 x176001 x176002 x176003 x176004 x176005 x176006)))
def core_right.j2 : Nat → Int → Int → Int → Bool → List (S90) → Int → Int → Bool → Int → Int → Int → Int → Int → Int → ByteArray → Int → Int → Int → Int → Int → Int → ByteArray → Option (Bool)
  | 0, _, _, _, _, _, _, _, _, _, _, _, _, _, _, _, _, _, _, _, _, _, _ => none
  | k + 1, x1, x5, x8, x10, x11, x12, x13, x60, x174000, x174001, x174002, x174003, x174004, x174005, x174006, x176000, x176001, x176002, x176003, x176004, x176005, x176006 => if x60 = true then (if x10 = true then ((lexis_Name.f k x174006).bind fun t176 => (if t176 = true then ((strings_ContainsAny.f x174006 (⟨#[58, 126]⟩ : ByteArray)).bind fun t177 => (if t177 = true then (some false) else (if (!(x174000 == x176000) || ((!(x174001 == x176001) || (!(x174002 == x176002) || (!(x174003 == x176003) || (!(x174004 == x176004))))) || (!(x174005 == x176005)))) = true then (some false) else (core_right.l0 k x1 (wrap64 (x5 + (wrap64 (1 - x8)))) x11 x12 (wrap64 (x13 + 1)))))) else (some false))) else (some false)) else (if x10 = true then (if (!(x174000 == x176000) || ((!(x174001 == x176001) || (!(x174002 == x176002) || (!(x174003 == x176003) || (!(x174004 == x176004))))) || (!(x174005 == x176005) || (!(x174006.toList == x176006.toList))))) = true then (some false) else (core_right.l0 k x1 (wrap64 (x5 + (wrap64 (1 - x8)))) x11 x12 (wrap64 (x13 + 1)))) else (some false))
end
def core_right.f (k : Nat) (l0 : List (S90)) (a1 : Int) : Option (Bool) := core_right.l0 k a1 0 l0 (l0.length : Int) 0
theorem core_right.mono_l : ∀ k, (∀ y0 y1 y2 y3 y4, LeO (core_right.l0 k y0 y1 y2 y3 y4) (core_right.l0 (k + 1) y0 y1 y2 y3 y4)) ∧ (∀ y0 y1 y2 y3 y4 y5 y6 y7 y8 y9 y10 y11 y12 y13 y14 y15 y16 y17 y18 y19 y20, LeO (core_right.j1 k y0 y1 y2 y3 y4 y5 y6 y7 y8 y9 y10 y11 y12 y13 y14 y15 y16 y17 y18 y19 y20) (core_right.j1 (k + 1) y0 y1 y2 y3 y4 y5 y6 y7 y8 y9 y10 y11 y12 y13 y14 y15 y16 y17 y18 y19 y20)) ∧ (∀ y0 y1 y2 y3 y4 y5 y6 y7 y8 y9 y10 y11 y12 y13 y14 y15 y16 y17 y18 y19 y20 y21, LeO (core_right.j2 k y0 y1 y2 y3 y4 y5 y6 y7 y8 y9 y10 y11 y12 y13 y14 y15 y16 y17 y18 y19 y20 y21) (core_right.j2 (k + 1) y0 y1 y2 y3 y4 y5 y6 y7 y8 y9 y10 y11 y12 y13 y14 y15 y16 y17 y18 y19 y20 y21))
  | 0 => ⟨fun _ _ _ _ _ r h => by simp [core_right.l0] at h, fun _ _ _ _ _ _ _ _ _ _ _ _ _ _ _ _ _ _ _ _ _ r h => by simp [core_right.j1] at h, fun _ _ _ _ _ _ _ _ _ _ _ _ _ _ _ _ _ _ _ _ _ _ r h => by simp [core_right.j2] at h⟩
  | k + 1 => by
    obtain ⟨ih0, ih1, ih2⟩ := core_right.mono_l k
    refine ⟨?_, ?_, ?_⟩
    · intro y0 y1 y2 y3 y4
      unfold core_right.l0
      repeat' first
      | (with_reducible exact ih0 _ _ _ _ _)
      | (with_reducible exact ih1 _ _ _ _ _ _ _ _ _ _ _ _ _ _ _ _ _ _ _ _ _)
      | (with_reducible exact ih2 _ _ _ _ _ _ _ _ _ _ _ _ _ _ _ _ _ _ _ _ _ _)
      | (with_reducible exact core_arity.mono _ _)
      | (with_reducible exact lexis_Name.mono _ _)
      | (with_reducible exact LeO.refl _)
      | (with_reducible exact LeO.none _)
      | (with_reducible refine LeO.ite ?_ ?_)
      | (with_reducible refine LeO.bind ?_ (fun _ => ?_))
      | exact ih0 _ _ _ _ _
      | exact ih1 _ _ _ _ _ _ _ _ _ _ _ _ _ _ _ _ _ _ _ _ _
      | exact ih2 _ _ _ _ _ _ _ _ _ _ _ _ _ _ _ _ _ _ _ _ _ _
      | exact core_arity.mono _ _
      | exact lexis_Name.mono _ _
      | exact LeO.none _
      | refine LeO.ite ?_ ?_
      | refine LeO.bind ?_ (fun _ => ?_)
    · intro y0 y1 y2 y3 y4 y5 y6 y7 y8 y9 y10 y11 y12 y13 y14 y15 y16 y17 y18 y19 y20
      unfold core_right.j1
      repeat' first
      | (with_reducible exact ih0 _ _ _ _ _)
      | (with_reducible exact ih1 _ _ _ _ _ _ _ _ _ _ _ _ _ _ _ _ _ _ _ _ _)
      | (with_reducible exact ih2 _ _ _ _ _ _ _ _ _ _ _ _ _ _ _ _ _ _ _ _ _ _)
      | (with_reducible exact core_arity.mono _ _)
      | (with_reducible exact lexis_Name.mono _ _)
      | (with_reducible exact LeO.refl _)
      | (with_reducible exact LeO.none _)
      | (with_reducible refine LeO.ite ?_ ?_)
      | (with_reducible refine LeO.bind ?_ (fun _ => ?_))
      | exact ih0 _ _ _ _ _
      | exact ih1 _ _ _ _ _ _ _ _ _ _ _ _ _ _ _ _ _ _ _ _ _
      | exact ih2 _ _ _ _ _ _ _ _ _ _ _ _ _ _ _ _ _ _ _ _ _ _
      | exact core_arity.mono _ _
      | exact lexis_Name.mono _ _
      | exact LeO.none _
      | refine LeO.ite ?_ ?_
      | refine LeO.bind ?_ (fun _ => ?_)
    · intro y0 y1 y2 y3 y4 y5 y6 y7 y8 y9 y10 y11 y12 y13 y14 y15 y16 y17 y18 y19 y20 y21
      unfold core_right.j2
      repeat' first
      | (with_reducible exact ih0 _ _ _ _ _)
      | (with_reducible exact ih1 _ _ _ _ _ _ _ _ _ _ _ _ _ _ _ _ _ _ _ _ _)
      | (with_reducible exact ih2 _ _ _ _ _ _ _ _ _ _ _ _ _ _ _ _ _ _ _ _ _ _)
      | (with_reducible exact core_arity.mono _ _)
      | (with_reducible exact lexis_Name.mono _ _)
      | (with_reducible exact LeO.refl _)
      | (with_reducible exact LeO.none _)
      | (with_reducible refine LeO.ite ?_ ?_)
      | (with_reducible refine LeO.bind ?_ (fun _ => ?_))
      | exact ih0 _ _ _ _ _
      | exact ih1 _ _ _ _ _ _ _ _ _ _ _ _ _ _ _ _ _ _ _ _ _
      | exact ih2 _ _ _ _ _ _ _ _ _ _ _ _ _ _ _ _ _ _ _ _ _ _
      | exact core_arity.mono _ _
      | exact lexis_Name.mono _ _
      | exact LeO.none _
      | refine LeO.ite ?_ ?_
      | refine LeO.bind ?_ (fun _ => ?_)
theorem core_right.mono : ∀ a0 a1 k, LeO (core_right.f k a0 a1) (core_right.f (k + 1) a0 a1) := by
  intro a0 a1 k
  obtain ⟨ih0, ih1, ih2⟩ := core_right.mono_l k
  unfold core_right.f
  repeat' first
      | (with_reducible exact ih0 _ _ _ _ _)
      | (with_reducible exact ih1 _ _ _ _ _ _ _ _ _ _ _ _ _ _ _ _ _ _ _ _ _)
      | (with_reducible exact ih2 _ _ _ _ _ _ _ _ _ _ _ _ _ _ _ _ _ _ _ _ _ _)
      | (with_reducible exact core_arity.mono _ _)
      | (with_reducible exact lexis_Name.mono _ _)
      | (with_reducible exact LeO.refl _)
      | (with_reducible exact LeO.none _)
      | (with_reducible refine LeO.ite ?_ ?_)
      | (with_reducible refine LeO.bind ?_ (fun _ => ?_))
      | exact ih0 _ _ _ _ _
      | exact ih1 _ _ _ _ _ _ _ _ _ _ _ _ _ _ _ _ _ _ _ _ _
      | exact ih2 _ _ _ _ _ _ _ _ _ _ _ _ _ _ _ _ _ _ _ _ _ _
      | exact core_arity.mono _ _
      | exact lexis_Name.mono _ _
      | exact LeO.none _
      | refine LeO.ite ?_ ?_
      | refine LeO.bind ?_ (fun _ => ?_)
end Go.Proofs.Ytebiogaacikphaa.PAll
end
section
namespace Go.Proofs.Ytebiogaacikphaa.PAll
open Go.RowKit Go.Proofs.YtebiogaacikphaaW.PrintWords Go.Proofs.YtebiogaacikphaaW.PrintLast Go.Proofs.YtebiogaacikphaaW.PrintMore
set_option linter.unusedVariables false
set_option linter.unusedSimpArgs false
attribute [local go_sem high] eqA90
/-- From rule i on; the names of the rules ahead are in the map. -/
def core_Check.l0 : Nat → List (S30) → Int → Option Int
  | 0, _, _ => none
  | k + 1, l, i => if i < (l.length : Int) then (if 0 ≤ i then (if ((l.take i.toNat).any fun r => r.f0.data.toList == (rd_T30 l i).f0.data.toList) = true then (some 6) else ((lexis_Name.f k (rd_T30 l i).f0).bind fun b => if b = true then ((core_right.f k (rd_T30 l i).f1 (l.length : Int)).bind fun b2 => if b2 = true then (core_Check.l0 k l (i + 1)) else (some 6)) else (some 6))) else (none)) else (some 0)
theorem core_Check.mono_l : ∀ k y0 y1, LeO (core_Check.l0 k y0 y1) (core_Check.l0 (k + 1) y0 y1)
  | 0 => fun _ _ r h => by simp [core_Check.l0] at h
  | k + 1 => fun y0 y1 => by
    unfold core_Check.l0
    refine LeO.ite (LeO.ite (LeO.ite (LeO.refl _) (LeO.bind (lexis_Name.mono _ _) fun (b : Bool) => LeO.ite (LeO.bind (core_right.mono _ _ _) fun (b2 : Bool) => LeO.ite (core_Check.mono_l k _ _) (LeO.refl _)) (LeO.refl _))) (LeO.none _)) (LeO.refl _)
def dowelbook_CoreBodies.l0 : Nat → List (S90) → List (S90) → Int → Option (Bool)
  | 0, _, _, _ => none
  | k + 1, x0, x1, x5 => if x5 < (x0.length : Int) then (if 0 ≤ x5 then (if x5 < (x1.length : Int) then (if (!(((rd_T90 x0 x5).f0) == ((rd_T90 x1 x5).f0)) || ((!(((rd_T90 x0 x5).f1.f0) == ((rd_T90 x1 x5).f1.f0)) || (!(((rd_T90 x0 x5).f1.f1) == ((rd_T90 x1 x5).f1.f1)) || (!(((rd_T90 x0 x5).f1.f2) == ((rd_T90 x1 x5).f1.f2)) || (!(((rd_T90 x0 x5).f1.f3) == ((rd_T90 x1 x5).f1.f3)))))) || (!(((rd_T90 x0 x5).f2) == ((rd_T90 x1 x5).f2)) || (!((((rd_T90 x0 x5).f3).toList) == (((rd_T90 x1 x5).f3).toList)))))) = true then (some false) else (dowelbook_CoreBodies.l0 k x0 x1 (wrap64 (x5 + 1)))) else (none)) else (none)) else (some true)
def dowelbook_CoreBodies.f (k : Nat) (l0 : List (S90)) (l1 : List (S90)) : Option (Bool) := if (l0.length : Int) = (l1.length : Int) then (dowelbook_CoreBodies.l0 k l0 l1 0) else (some false)
theorem dowelbook_CoreBodies.mono_l : ∀ k, (∀ y0 y1 y2, LeO (dowelbook_CoreBodies.l0 k y0 y1 y2) (dowelbook_CoreBodies.l0 (k + 1) y0 y1 y2))
  | 0 => fun _ _ _ r h => by simp [dowelbook_CoreBodies.l0] at h
  | k + 1 => by
    have ih0 := dowelbook_CoreBodies.mono_l k
    · intro y0 y1 y2
      unfold dowelbook_CoreBodies.l0
      repeat' first
      | (with_reducible exact ih0 _ _ _)
      | (with_reducible exact LeO.refl _)
      | (with_reducible exact LeO.none _)
      | (with_reducible refine LeO.ite ?_ ?_)
      | (with_reducible refine LeO.bind ?_ (fun _ => ?_))
      | exact ih0 _ _ _
      | exact LeO.none _
      | refine LeO.ite ?_ ?_
      | refine LeO.bind ?_ (fun _ => ?_)
theorem dowelbook_CoreBodies.mono : ∀ a0 a1 k, LeO (dowelbook_CoreBodies.f k a0 a1) (dowelbook_CoreBodies.f (k + 1) a0 a1) := by
  intro a0 a1 k
  have ih0 := dowelbook_CoreBodies.mono_l k
  unfold dowelbook_CoreBodies.f
  repeat' first
      | (with_reducible exact ih0 _ _ _)
      | (with_reducible exact LeO.refl _)
      | (with_reducible exact LeO.none _)
      | (with_reducible refine LeO.ite ?_ ?_)
      | (with_reducible refine LeO.bind ?_ (fun _ => ?_))
      | exact ih0 _ _ _
      | exact LeO.none _
      | refine LeO.ite ?_ ?_
      | refine LeO.bind ?_ (fun _ => ?_)
set_option maxHeartbeats 8000000 in
set_option maxRecDepth 100000 in
theorem dowelbook_CoreBodies.calls (k : Nat) (A0 : Option Addr) (c0 : Nat) (l0 : List (S90)) (A1 : Option Addr) (c1 : Nat) (l1 : List (S90)) (r : Bool) (w : World) (hr0 : Kd.C k90 w A0 l0.length l0) (hc0 : l0.length ≤ c0) (hr1 : Kd.C k90 w A1 l1.length l1) (hc1 : l1.length ≤ c1) (h : dowelbook_CoreBodies.f k l0 l1 = some r) :
    Calls Try.prog 86 #[.slice A0 l0.length c0, .slice A1 l1.length c1] w fun e w' => e = .returned (.bool r) ∧ Drawn0 w w' := by
  have hu90 := Try.underlying90
  have HR0 := Aside0.mk hr0
  have HC0 := Aside0.mk hc0
  clear hr0 hc0
  have HR1 := Aside0.mk hr1
  have HC1 := Aside0.mk hc1
  clear hr1 hc1
  have H : (if (l0.length : Int) = (l1.length : Int) then (dowelbook_CoreBodies.l0 k l0 l1 0) else (some false)) = some r := h
  clear h
  by_cases c3 : (l0.length : Int) = (l1.length : Int)
  · rw [if_pos c3] at H
    have c3b0 : ((l0.length : Int) == (l1.length : Int)) = true := beq_iff_eq.mpr c3
    have c3b1 : ((l0.length : Int) != (l1.length : Int)) = false := bne_eq_false_iff_eq.mpr c3
    have c3b2 : (l0.length == l1.length) = true := by first | simpa using c3 | (simp at c3 ⊢; omega)
    clear c3
    have H' := Aside0.mk H
    clear H
    go_enter Try.func86, Try.ntmps86
    go_wp2
    repeat (go_quiet (fail); try go_wp2)
    go_loopg [5] k (fun kq v5 w' => ∃ (x5_1 : Int), v5 = .int .i64 x5_1 ∧ Aside0 (dowelbook_CoreBodies.l0 kq l0 l1 x5_1 = some r) ∧ Aside0 (kq ≤ k) ∧ Drawn0 w w')
    case atStart => exact ⟨(0), (by first | rfl | (simp; done) | (simp [*]; done)), H', ⟨Nat.le_refl _⟩, by repeat (first | exact Drawn0.refl _ | apply Drawn0.step)⟩
    case round =>
      clear H'
      try clear c1
      try clear p2
      try clear c3
      try clear c3b0
      try clear c3b1
      try clear c3b2
      obtain ⟨x5_1, rfl, HA, HK1, ⟨m1, rfl⟩⟩ := hrel
      cases gk with
      | zero => exact absurd HA.out (by simp [dowelbook_CoreBodies.l0])
      | succ k1 =>
        have H := HA.out
        clear HA
        simp only [dowelbook_CoreBodies.l0] at H
        by_cases c4 : x5_1 < (l0.length : Int)
        · rw [if_pos c4] at H
          have c4b0 : decide (x5_1 < (l0.length : Int)) = true := decide_eq_true c4
          clear c4
          by_cases c5 : 0 ≤ x5_1
          · rw [if_pos c5] at H
            have c5b0 : decide (0 ≤ x5_1) = true := decide_eq_true c5
            clear c5
            by_cases c6 : x5_1 < (l1.length : Int)
            · rw [if_pos c6] at H
              have c6b0 : decide (x5_1 < (l1.length : Int)) = true := decide_eq_true c6
              clear c6
              by_cases c7 : (!(((rd_T90 l0 x5_1).f0) == ((rd_T90 l1 x5_1).f0)) || ((!(((rd_T90 l0 x5_1).f1.f0) == ((rd_T90 l1 x5_1).f1.f0)) || (!(((rd_T90 l0 x5_1).f1.f1) == ((rd_T90 l1 x5_1).f1.f1)) || (!(((rd_T90 l0 x5_1).f1.f2) == ((rd_T90 l1 x5_1).f1.f2)) || (!(((rd_T90 l0 x5_1).f1.f3) == ((rd_T90 l1 x5_1).f1.f3)))))) || (!(((rd_T90 l0 x5_1).f2) == ((rd_T90 l1 x5_1).f2)) || (!((((rd_T90 l0 x5_1).f3).toList) == (((rd_T90 l1 x5_1).f3).toList)))))) = true
              · rw [if_pos c7] at H
                have c7b0 : (!(((rd_T90 l0 x5_1).f0) == ((rd_T90 l1 x5_1).f0)) || ((!(((rd_T90 l0 x5_1).f1.f0) == ((rd_T90 l1 x5_1).f1.f0)) || (!(((rd_T90 l0 x5_1).f1.f1) == ((rd_T90 l1 x5_1).f1.f1)) || (!(((rd_T90 l0 x5_1).f1.f2) == ((rd_T90 l1 x5_1).f1.f2)) || (!(((rd_T90 l0 x5_1).f1.f3) == ((rd_T90 l1 x5_1).f1.f3)))))) || (!(((rd_T90 l0 x5_1).f2) == ((rd_T90 l1 x5_1).f2)) || (!((((rd_T90 l0 x5_1).f3).toList) == (((rd_T90 l1 x5_1).f3).toList)))))) = true := c7
                clear c7
                obtain rfl := Option.some.inj H
                have p178 : 0 ≤ (x5_1 : Int) := of_decide_eq_true (by first | (with_reducible assumption) | assumption)
                have q178 : x5_1 < (l0.length : Int) := of_decide_eq_true (by first | (with_reducible assumption) | assumption)
                obtain ⟨ad178, e178, hx178_0, hx178_1, hx178_2, hx178_3, hx178_4, hx178_5, hx178_6⟩ := at_T90 HR0.out x5_1 p178 q178
                cases e178
                replace p178 := eq_true p178
                replace q178 := eq_true q178
                have p179 : 0 ≤ (x5_1 : Int) := of_decide_eq_true (by first | (with_reducible assumption) | assumption)
                have q179 : x5_1 < (l1.length : Int) := of_decide_eq_true (by first | (with_reducible assumption) | assumption)
                obtain ⟨ad179, e179, hx179_0, hx179_1, hx179_2, hx179_3, hx179_4, hx179_5, hx179_6⟩ := at_T90 HR1.out x5_1 p179 q179
                cases e179
                replace p179 := eq_true p179
                replace q179 := eq_true q179
                go_wp2
                repeat (go_quiet (fail); try go_wp2)
                go_ret
                exact ⟨by first | rfl | (simp; done) | (simp [*]; done), by repeat (first | exact Drawn0.refl _ | apply Drawn0.step)⟩
              · rw [if_neg c7] at H
                have c7b0 : (!(((rd_T90 l0 x5_1).f0) == ((rd_T90 l1 x5_1).f0)) || ((!(((rd_T90 l0 x5_1).f1.f0) == ((rd_T90 l1 x5_1).f1.f0)) || (!(((rd_T90 l0 x5_1).f1.f1) == ((rd_T90 l1 x5_1).f1.f1)) || (!(((rd_T90 l0 x5_1).f1.f2) == ((rd_T90 l1 x5_1).f1.f2)) || (!(((rd_T90 l0 x5_1).f1.f3) == ((rd_T90 l1 x5_1).f1.f3)))))) || (!(((rd_T90 l0 x5_1).f2) == ((rd_T90 l1 x5_1).f2)) || (!((((rd_T90 l0 x5_1).f3).toList) == (((rd_T90 l1 x5_1).f3).toList)))))) = false := by simpa using c7
                clear c7
                have H' := Aside0.mk H
                clear H
                have p178 : 0 ≤ (x5_1 : Int) := of_decide_eq_true (by first | (with_reducible assumption) | assumption)
                have q178 : x5_1 < (l0.length : Int) := of_decide_eq_true (by first | (with_reducible assumption) | assumption)
                obtain ⟨ad178, e178, hx178_0, hx178_1, hx178_2, hx178_3, hx178_4, hx178_5, hx178_6⟩ := at_T90 HR0.out x5_1 p178 q178
                cases e178
                replace p178 := eq_true p178
                replace q178 := eq_true q178
                have p179 : 0 ≤ (x5_1 : Int) := of_decide_eq_true (by first | (with_reducible assumption) | assumption)
                have q179 : x5_1 < (l1.length : Int) := of_decide_eq_true (by first | (with_reducible assumption) | assumption)
                obtain ⟨ad179, e179, hx179_0, hx179_1, hx179_2, hx179_3, hx179_4, hx179_5, hx179_6⟩ := at_T90 HR1.out x5_1 p179 q179
                cases e179
                replace p179 := eq_true p179
                replace q179 := eq_true q179
                go_wp2
                repeat (go_quiet (fail); try go_wp2)
                go_roundg k1
                case measure => have := HK1.out; omega
                case rel => exact ⟨(wrap64 (x5_1 + 1)), (by first | rfl | (simp; done) | (simp [*]; done)), H', ⟨by have := HK1.out; omega⟩, by repeat (first | exact Drawn0.refl _ | apply Drawn0.step)⟩
            · rw [if_neg c6] at H
              exact absurd H (by simp)
          · rw [if_neg c5] at H
            exact absurd H (by simp)
        · rw [if_neg c4] at H
          have c4b0 : decide (x5_1 < (l0.length : Int)) = false := decide_eq_false c4
          clear c4
          obtain rfl := Option.some.inj H
          go_wp2
          repeat (go_quiet (fail); try go_wp2)
          go_ret
          exact ⟨by first | rfl | (simp; done) | (simp [*]; done), by repeat (first | exact Drawn0.refl _ | apply Drawn0.step)⟩
  · rw [if_neg c3] at H
    have c3b0 : ((l0.length : Int) == (l1.length : Int)) = false := beq_eq_false_iff_ne.mpr c3
    have c3b1 : ((l0.length : Int) != (l1.length : Int)) = true := bne_iff_ne.mpr c3
    have c3b2 : (l0.length == l1.length) = false := by first | simpa using c3 | (simp at c3 ⊢; omega)
    obtain rfl := Option.some.inj H
    go_enter Try.func86, Try.ntmps86
    go_wp2
    repeat (go_quiet (fail); try go_wp2)
    go_ret
    exact ⟨by first | rfl | (simp; done) | (simp [*]; done), by repeat (first | exact Drawn0.refl _ | apply Drawn0.step)⟩
end Go.Proofs.Ytebiogaacikphaa.PAll
end
