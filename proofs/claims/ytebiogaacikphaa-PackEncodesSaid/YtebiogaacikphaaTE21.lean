/- Parts of the proof of packEncodes: KeptInss. No condition beyond each lemma's own. -/
import Derived.Test.YtebiogaacikphaaTE11
import Derived.Test.YtebiogaacikphaaTE15
import Derived.Test.YtebiogaacikphaaTE16
section
namespace Go.Proofs.Ytebiogaacikphaa.Pack
open Go.RowKit Go.Proofs.YtebiogaacikphaaW.PrintWords Go.Proofs.Ytebiogaacikphaa.PAll
set_option linter.unusedVariables false
set_option linter.unusedSimpArgs false
set_option linter.unnecessarySimpa false
attribute [local go_sem high] eqA78
theorem cut_inss_more (g n : Nat) (W : World) : (Instr.slice 39 (.slice (some ⟨g, 0, none⟩) n (n + 2)) none (some (.int .i64 ((n + 2 : Nat) : Int))) none).run Try.prog W = .ok (.slice (some ⟨g, 0, none⟩) (n + 2) (n + 2)) W :=
  run_slice_own (P := Try.prog) (t := 39) (size := 7) (by kernel_rfl) szIns g n (n + 2) (n + 2) (Nat.le_refl _) W
/-- The k-th of instructions in a block. -/
theorem ins_cells {W : World} {g : Nat} {e : TypeId} {l : List Ins} {k : Nat} {y : Ins} (h : RowAt W g e (l.flatMap insCells)) (hy : l[k]? = some y) : W.cell? ⟨g, k * 7, none⟩ = some (.int .i64 y.f0) ∧ W.cell? ⟨g, k * 7 + 1, none⟩ = some (.int .i64 y.f1) ∧ W.cell? ⟨g, k * 7 + 2, none⟩ = some (.int .u64 y.f2.f0) ∧ W.cell? ⟨g, k * 7 + 3, none⟩ = some (.int .u64 y.f2.f1) ∧ W.cell? ⟨g, k * 7 + 4, none⟩ = some (.int .u64 y.f2.f2) ∧ W.cell? ⟨g, k * 7 + 5, none⟩ = some (.int .u64 y.f2.f3) ∧ W.cell? ⟨g, k * 7 + 6, none⟩ = some (.string y.f3) := by
  have hc : ∀ i u, (insCells y)[i]? = some u → W.cell? ⟨g, k * 7 + i, none⟩ = some u := fun i u hi => (h.cell _).trans (flat_get l k y hy i u hi)
  exact ⟨hc 0 _ rfl, hc 1 _ rfl, hc 2 _ rfl, hc 3 _ rfl, hc 4 _ rfl, hc 5 _ rfl, hc 6 _ rfl⟩
section
variable (w : World) (g : Nat) (A : Option Addr) (c : Nat) (l : List Ins)
set_option maxHeartbeats 4000000 in
set_option maxRecDepth 100000 in
theorem keptInss_calls (hrow : RowAt w g 78 ((l ++ [markI 77, moreI 77]).flatMap insCells)) (hr : Kd.C k78 w A l.length l) (hc : l.length ≤ c) (hl : l.length ≤ 16777216) :
    Calls Try.prog 38 #[.slice (some ⟨g, 0, none⟩) l.length (l.length + 2), .slice A l.length c] w fun e w' => e = .returned (.bool true) ∧ Below w.heap.size w w' := by
  have HR := Aside0.mk hr
  have HC := Aside0.mk hc
  have HD := Aside0.mk (ins_row hrow (by omega))
  have HROW := Aside0.mk hrow
  have h1 : (l ++ [markI 77, moreI 77])[l.length]? = some (markI 77) := by rw [List.getElem?_append_right (Nat.le_refl _), Nat.sub_self]; rfl
  have h2 : (l ++ [markI 77, moreI 77])[l.length + 1]? = some (moreI 77) := by rw [List.getElem?_append_right (by omega), Nat.add_sub_cancel_left]; rfl
  have H1 := Aside0.mk h1
  have H2 := Aside0.mk h2
  have HL := Aside0.mk hl
  have hw1 : IntKind.i64.wrap ((l.length : Int) + 1) = ((l.length + 1 : Nat) : Int) := by rw [IntWalk.i64_in _ (by omega)]; omega
  have hw2 : IntKind.i64.wrap ((l.length : Int) + 2) = ((l.length + 2 : Nat) : Int) := by rw [IntWalk.i64_in _ (by omega)]; omega
  have hcut := cut_inss_more g l.length
  have hi1 := idx_inss g (l.length + 2) (l.length + 2) l.length (by omega)
  have hi2 := idx_inss g (l.length + 2) (l.length + 2) (l.length + 1) (by omega)
  have HM1 := Aside0.mk (fun W => mark77_lit W)
  have HM2 := Aside0.mk (fun W => more77_lit W)
  generalize hm1 : markI 77 = y1 at *
  generalize hm2 : moreI 77 = y2 at *
  clear hrow hr hc h1 h2 hm1 hm2 hl
  go_enter Try.func38, Try.ntmps38
  go_wp2
  refine wp_region_held_drew (S := fun W => Below w.heap.size w W) (by kernel_rfl) (below_drew (Below.refl _ _)) (fun hH => ?_)
  generalize w.drew = w5 at *
  refine wpAnyH_take (i := 0) (oi := _) (v := .slice (some ⟨g, 0, none⟩) l.length (l.length + 2)) rfl (by kernel_rfl) (by kernel_rfl) (by kernel_rfl) (fun _ _ _ h => h) (Or.inl ⟨by rfl, fun w hw => by go_simp⟩) hH ?_; simp only [List.getElem_toArray, List.getElem_cons_zero, List.getElem_cons_succ, Act.put, List.setIfInBounds_toArray, List.set_cons_zero, List.set_cons_succ]
  refine wpAnyH_take (i := 1) (oi := _) (v := .slice A l.length c) rfl (by kernel_rfl) (by kernel_rfl) (by kernel_rfl) (fun _ _ _ h => h) (Or.inl ⟨by rfl, fun w hw => by go_simp⟩) hH ?_; simp only [List.getElem_toArray, List.getElem_cons_zero, List.getElem_cons_succ, Act.put, List.setIfInBounds_toArray, List.set_cons_zero, List.set_cons_succ]
  refine wpAnyH_ready (rs := [2]) (by kernel_rfl) (by simp) ?_; refine AllReadyH.cons (o := _) rfl (fun K hK => ?_) AllReadyH.nil
  refine rstep_call (w1 := w5) (by rfl) (by go_simp) (inss_lit (some ⟨g, 0, none⟩) (l.length + 2) A c l w5 (Kd.C_below HD.out hH) (by omega) (Kd.C_below HR.out hH) HC.out (by have := HL.out; omega)) ?_
  rintro _ w6 ⟨rfl, hd⟩
  refine ⟨_, rfl, ?_⟩
  have hH6 := below_step hH hd.below
  refine hK.out _ _ hH6 (fun _ => ?_)
  clear hK K hH hd
  have hH := hH6
  clear hH6
  simp only [List.getElem_toArray, List.getElem_cons_zero, List.getElem_cons_succ, Act.put, List.setIfInBounds_toArray, List.set_cons_zero, List.set_cons_succ]
  refine wpAnyH_take (i := 3) (oi := _) (v := .bool true) rfl (by kernel_rfl) (by kernel_rfl) (by kernel_rfl) (fun _ _ _ h => h) (Or.inl ⟨by rfl, fun w hw => by go_simp⟩) hH ?_; simp only [List.getElem_toArray, List.getElem_cons_zero, List.getElem_cons_succ, Act.put, List.setIfInBounds_toArray, List.set_cons_zero, List.set_cons_succ]
  refine wpAnyH_take (i := 4) (oi := _) (v := .slice (some ⟨g, 0, none⟩) (l.length + 2) (l.length + 2)) rfl (by kernel_rfl) (by kernel_rfl) (by kernel_rfl) (fun _ _ _ h => h) (Or.inl ⟨by rfl, fun w hw => by go_simp⟩) hH ?_; simp only [List.getElem_toArray, List.getElem_cons_zero, List.getElem_cons_succ, Act.put, List.setIfInBounds_toArray, List.set_cons_zero, List.set_cons_succ]
  refine wpAnyH_take (i := 5) (oi := _) (v := .slice A l.length c) rfl (by kernel_rfl) (by kernel_rfl) (by kernel_rfl) (fun _ _ _ h => h) (Or.inl ⟨by rfl, fun w hw => by go_simp⟩) hH ?_; simp only [List.getElem_toArray, List.getElem_cons_zero, List.getElem_cons_succ, Act.put, List.setIfInBounds_toArray, List.set_cons_zero, List.set_cons_succ]
  refine wpAnyH_take (i := 6) (oi := _) (v := .int .i64 (l.length : Int)) rfl (by kernel_rfl) (by kernel_rfl) (by kernel_rfl) (fun _ _ _ h => h) (Or.inl ⟨by rfl, fun w hw => by go_simp⟩) hH ?_; simp only [List.getElem_toArray, List.getElem_cons_zero, List.getElem_cons_succ, Act.put, List.setIfInBounds_toArray, List.set_cons_zero, List.set_cons_succ]
  refine wpAnyH_take (i := 7) (oi := _) (v := .pointer (some ⟨g, l.length * 7, none⟩)) rfl (by kernel_rfl) (by kernel_rfl) (by kernel_rfl) (fun _ _ _ h => h) (Or.inl ⟨by rfl, fun w hw => by (have := hi1 w; go_simp)⟩) hH ?_; simp only [List.getElem_toArray, List.getElem_cons_zero, List.getElem_cons_succ, Act.put, List.setIfInBounds_toArray, List.set_cons_zero, List.set_cons_succ]
  refine wpAnyH_take (i := 8) (oi := _) (v := .agg #[.int .i64 y1.f0, .int .i64 y1.f1, .int .u64 y1.f2.f0, .int .u64 y1.f2.f1, .int .u64 y1.f2.f2, .int .u64 y1.f2.f3, .string y1.f3]) rfl (by kernel_rfl) (by kernel_rfl) (by kernel_rfl) (fun _ _ _ h => h) (Or.inl ⟨by rfl, fun w hw => by (obtain ⟨x0, x1, x2, x3, x4, x5, x6⟩ := ins_cells (HROW.out.below hw) H1.out; go_simp)⟩) hH ?_; simp only [List.getElem_toArray, List.getElem_cons_zero, List.getElem_cons_succ, Act.put, List.setIfInBounds_toArray, List.set_cons_zero, List.set_cons_succ]
  refine wpAnyH_ready (rs := [9]) (by kernel_rfl) (by simp) ?_; refine AllReadyH.cons (o := _) rfl (fun K hK => ?_) AllReadyH.nil
  refine rstep_call (w1 := w6) (by rfl) (by go_simp) (HM1.out w6) ?_
  rintro _ w7 ⟨rfl, hb⟩
  refine ⟨_, rfl, ?_⟩
  have hH7 := below_step hH hb
  refine hK.out _ _ hH7 (fun _ => ?_)
  clear hK K hH hb
  have hH := hH7
  clear hH7
  simp only [List.getElem_toArray, List.getElem_cons_zero, List.getElem_cons_succ, Act.put, List.setIfInBounds_toArray, List.set_cons_zero, List.set_cons_succ]
  refine wpAnyH_take (i := 10) (oi := _) (v := .bool true) rfl (by kernel_rfl) (by kernel_rfl) (by kernel_rfl) (fun _ _ _ h => h) (Or.inl ⟨by rfl, fun w hw => by go_simp⟩) hH ?_; simp only [List.getElem_toArray, List.getElem_cons_zero, List.getElem_cons_succ, Act.put, List.setIfInBounds_toArray, List.set_cons_zero, List.set_cons_succ]
  refine wpAnyH_take (i := 11) (oi := _) (v := .bool true) rfl (by kernel_rfl) (by kernel_rfl) (by kernel_rfl) (fun _ _ _ h => h) (Or.inl ⟨by rfl, fun w hw => by go_simp⟩) hH ?_; simp only [List.getElem_toArray, List.getElem_cons_zero, List.getElem_cons_succ, Act.put, List.setIfInBounds_toArray, List.set_cons_zero, List.set_cons_succ]
  refine wpAnyH_take (i := 12) (oi := _) (v := .bool true) rfl (by kernel_rfl) (by kernel_rfl) (by kernel_rfl) (fun _ _ _ h => h) (Or.inl ⟨by rfl, fun w hw => by go_simp⟩) hH ?_; simp only [List.getElem_toArray, List.getElem_cons_zero, List.getElem_cons_succ, Act.put, List.setIfInBounds_toArray, List.set_cons_zero, List.set_cons_succ]
  refine wpAnyH_take (i := 13) (oi := _) (v := .slice (some ⟨g, 0, none⟩) (l.length + 2) (l.length + 2)) rfl (by kernel_rfl) (by kernel_rfl) (by kernel_rfl) (fun _ _ _ h => h) (Or.inl ⟨by rfl, fun w hw => by go_simp⟩) hH ?_; simp only [List.getElem_toArray, List.getElem_cons_zero, List.getElem_cons_succ, Act.put, List.setIfInBounds_toArray, List.set_cons_zero, List.set_cons_succ]
  refine wpAnyH_take (i := 14) (oi := _) (v := .slice A l.length c) rfl (by kernel_rfl) (by kernel_rfl) (by kernel_rfl) (fun _ _ _ h => h) (Or.inl ⟨by rfl, fun w hw => by go_simp⟩) hH ?_; simp only [List.getElem_toArray, List.getElem_cons_zero, List.getElem_cons_succ, Act.put, List.setIfInBounds_toArray, List.set_cons_zero, List.set_cons_succ]
  refine wpAnyH_take (i := 15) (oi := _) (v := .int .i64 (l.length : Int)) rfl (by kernel_rfl) (by kernel_rfl) (by kernel_rfl) (fun _ _ _ h => h) (Or.inl ⟨by rfl, fun w hw => by go_simp⟩) hH ?_; simp only [List.getElem_toArray, List.getElem_cons_zero, List.getElem_cons_succ, Act.put, List.setIfInBounds_toArray, List.set_cons_zero, List.set_cons_succ]
  refine wpAnyH_take (i := 16) (oi := _) (v := .int .i64 ((l.length + 1 : Nat) : Int)) rfl (by kernel_rfl) (by kernel_rfl) (by kernel_rfl) (fun _ _ _ h => h) (Or.inl ⟨by rfl, fun w hw => by go_simp⟩) hH ?_; simp only [List.getElem_toArray, List.getElem_cons_zero, List.getElem_cons_succ, Act.put, List.setIfInBounds_toArray, List.set_cons_zero, List.set_cons_succ]
  refine wpAnyH_take (i := 17) (oi := _) (v := .pointer (some ⟨g, (l.length + 1) * 7, none⟩)) rfl (by kernel_rfl) (by kernel_rfl) (by kernel_rfl) (fun _ _ _ h => h) (Or.inl ⟨by rfl, fun w hw => by (have := hi2 w; push_cast at this; go_simp)⟩) hH ?_; simp only [List.getElem_toArray, List.getElem_cons_zero, List.getElem_cons_succ, Act.put, List.setIfInBounds_toArray, List.set_cons_zero, List.set_cons_succ]
  refine wpAnyH_take (i := 18) (oi := _) (v := .agg #[.int .i64 y2.f0, .int .i64 y2.f1, .int .u64 y2.f2.f0, .int .u64 y2.f2.f1, .int .u64 y2.f2.f2, .int .u64 y2.f2.f3, .string y2.f3]) rfl (by kernel_rfl) (by kernel_rfl) (by kernel_rfl) (fun _ _ _ h => h) (Or.inl ⟨by rfl, fun w hw => by (obtain ⟨x0, x1, x2, x3, x4, x5, x6⟩ := ins_cells (HROW.out.below hw) H2.out; go_simp)⟩) hH ?_; simp only [List.getElem_toArray, List.getElem_cons_zero, List.getElem_cons_succ, Act.put, List.setIfInBounds_toArray, List.set_cons_zero, List.set_cons_succ]
  refine wpAnyH_ready (rs := [19]) (by kernel_rfl) (by simp) ?_; refine AllReadyH.cons (o := _) rfl (fun K hK => ?_) AllReadyH.nil
  refine rstep_call (w1 := w7) (by rfl) (by go_simp) (HM2.out w7) ?_
  rintro _ w8 ⟨rfl, hb⟩
  refine ⟨_, rfl, ?_⟩
  have hH8 := below_step hH hb
  refine hK.out _ _ hH8 (fun _ => ?_)
  clear hK K hH hb
  have hH := hH8
  clear hH8
  simp only [List.getElem_toArray, List.getElem_cons_zero, List.getElem_cons_succ, Act.put, List.setIfInBounds_toArray, List.set_cons_zero, List.set_cons_succ]
  refine wpAnyH_take (i := 20) (oi := _) (v := .bool true) rfl (by kernel_rfl) (by kernel_rfl) (by kernel_rfl) (fun _ _ _ h => h) (Or.inl ⟨by rfl, fun w hw => by go_simp⟩) hH ?_; simp only [List.getElem_toArray, List.getElem_cons_zero, List.getElem_cons_succ, Act.put, List.setIfInBounds_toArray, List.set_cons_zero, List.set_cons_succ]
  refine wpAnyH_take (i := 21) (oi := _) (v := .bool true) rfl (by kernel_rfl) (by kernel_rfl) (by kernel_rfl) (fun _ _ _ h => h) (Or.inl ⟨by rfl, fun w hw => by go_simp⟩) hH ?_; simp only [List.getElem_toArray, List.getElem_cons_zero, List.getElem_cons_succ, Act.put, List.setIfInBounds_toArray, List.set_cons_zero, List.set_cons_succ]
  refine wpAnyH_take (i := 22) (oi := _) (v := .bool true) rfl (by kernel_rfl) (by kernel_rfl) (by kernel_rfl) (fun _ _ _ h => h) (Or.inl ⟨by rfl, fun w hw => by go_simp⟩) hH ?_; simp only [List.getElem_toArray, List.getElem_cons_zero, List.getElem_cons_succ, Act.put, List.setIfInBounds_toArray, List.set_cons_zero, List.set_cons_succ]
  refine wpAnyH_done (by kernel_rfl) ?_ _
  have HB := Aside0.mk hH
  clear hH
  go_wp2
  go_ret
  exact ⟨rfl, HB.out⟩
end
end Go.Proofs.Ytebiogaacikphaa.Pack
end
