/- Parts of the proof of coreOrder: Works9. No condition beyond each lemma's own. -/
import Derived.Test.YtihiicjnjhideaaDoorTO37
section
namespace Go.Proofs.YtihiicjnjhideaaDoor.Build
open Go.RowKit Go.Proofs.YtihiicjnjhideaaDoorW.PrintWords Go.Proofs.YtihiicjnjhideaaDoor.PAll Go.Proofs.YtihiicjnjhideaaDoor.Core Go.Proofs.YtihiicjnjhideaaDoor.Names
set_option linter.unusedVariables false
set_option linter.unusedSimpArgs false
abbrev csR (gA gB : Nat) : List Value := [.string nmA, .slice none 0 0, .slice (some ⟨gA, 0, none⟩) 4 4, .string nmB, .slice none 0 0, .slice (some ⟨gB, 0, none⟩) 1 1]
/-- The example's rows. -/
structure RowsW (w : World) (gR gA gB : Nat) : Prop where
 r : RowAt w gR 40 (csR gA gB)
 a : RowAt w gA 51 ([n1, n2, n3, n4].flatMap enCells)
 b : RowAt w gB 51 ([n5].flatMap enCells)
theorem RowsW.below {w w' : World} {gR gA gB : Nat} (h : RowsW w gR gA gB) (hb : Below w.heap.size w w') : RowsW w' gR gA gB := ⟨h.r.below hb, h.a.below hb, h.b.below hb⟩
theorem RowsW.grown {w w' : World} {gR gA gB g : Nat} (h : RowsW w gR gA gB) (hg : w.grownBy w' (some g)) (h1 : gR < g) (h2 : gA < g) (h3 : gB < g) : RowsW w' gR gA gB := ⟨h.r.grown hg (by simp; omega), h.a.grown hg (by simp; omega), h.b.grown hg (by simp; omega)⟩
theorem RowsW.C {w : World} {gR gA gB : Nat} (h : RowsW w gR gA gB) : Kd.C kER w (some ⟨gR, 0, none⟩) rsW.length rsW :=
 C_of_row h.r (by decide) (fun j x hj => by
  match j, hj with
  | 0, hj => cases hj; exact ⟨_, rfl, k40_mk w ⟨nmA, [], [n1, n2, n3, n4]⟩ (Nat.le_refl _) (Kd.C_nil _ _) (c2 := 4) (Nat.le_refl _) (nodes_C h.a (by decide)), fun i u hu => by
   match i, hu with
   | 0, hu => exact hu
   | 1, hu => exact hu
   | 2, hu => exact hu
   | i + 3, hu => cases hu⟩
  | 1, hj => cases hj; exact ⟨_, rfl, k40_mk w ⟨nmB, [], [n5]⟩ (Nat.le_refl _) (Kd.C_nil _ _) (c2 := 1) (Nat.le_refl _) (nodes_C h.b (by decide)), fun i u hu => by
   match i, hu with
   | 0, hu => exact hu
   | 1, hu => exact hu
   | 2, hu => exact hu
   | i + 3, hu => cases hu⟩
  | j + 2, hj => cases hj)
theorem buildW (w0 w : World) (gR gA gB : Nat) (h : RowsW w gR gA gB) (hw : Below w0.heap.size w0 w) (hall : ∀ i, i < 4 → w0.cell? ⟨0, i, none⟩ = some (.int .u64 ff64)) :
  Calls Tryd.prog 8 #[.agg #[.slice none 0 0, .slice (some ⟨gR, 0, none⟩) 2 2], .string ⟨#[66]⟩] w fun e w' => ∃ adC c, e = .returned (.tuple #[.agg #[.slice (some adC) 2 c, .int .i64 1], .agg #[.int .i64 0, .int .i64 0]]) ∧ 2 ≤ c ∧ Kd.C kCR w' (some adC) 2 lW ∧ Below w.heap.size w w' := by
 have hcall := build_calls [] rsW nmB tsW none (some ⟨gR, 0, none⟩) 0 2 w (Kd.C_nil _ _) (Nat.le_refl _) h.C (by decide) (by simp) fitW (fun _ => treesW) (fun i hi => cell_below (hall i hi) hw)
 refine Calls.mono (show Calls Tryd.prog 8 #[.agg #[.slice none 0 0, .slice (some ⟨gR, 0, none⟩) 2 2], .string ⟨#[66]⟩] w _ from hcall) ?_
 rintro e w' ⟨⟨l, A, c, s, at_, code, rfl, hlc, hC, hout⟩, hb⟩
 obtain ⟨rfl, rfl, rfl, rfl⟩ := outW hout
 obtain ⟨adC, rfl, _⟩ := hC.2.2 (by decide)
 exact ⟨adC, c, rfl, hlc, hC, hb⟩
section
variable (w : World)
set_option maxHeartbeats 8000000 in
set_option maxRecDepth 100000 in
theorem works_calls (hall : ∀ i, i < 4 → w.cell? ⟨0, i, none⟩ = some (.int .u64 ff64)) : Calls Tryd.prog 7 #[] w fun e w' => e = .returned (.bool true) ∧ Below w.heap.size w w' := by
 have HALL := aK hall
 clear hall
 go_enter Tryd.func7, Tryd.ntmps7
 go_upto_region 3 with (first
  | ((with_reducible refine gate_dst (N := 11) rfl ?_); refine lit_event rfl (cs := (([n1, n2, n3, n4].flatMap enCells).toArray)) (t := 51) 4 (by first | (go_simp; done) | (go_simp; rfl)) ?_; intro gA hg w1 hbox hb; have RgA := aK (show RowAt w1 gA 51 (((([n1, n2, n3, n4].flatMap enCells).toArray)).toList) from ⟨_, hbox, rfl⟩); (have HW := aK hb); clear hbox hb hg)
  | ((with_reducible refine gate_dst (N := 14) rfl ?_); refine lit_event rfl (cs := (([n5].flatMap enCells).toArray)) (t := 51) 1 (by first | (go_simp; done) | (go_simp; rfl)) ?_; intro gB hg w2 hbox hb; have RgB := aK (show RowAt w2 gB 51 (((([n5].flatMap enCells).toArray)).toList) from ⟨_, hbox, rfl⟩); (have n1_ := aK (RgA.out.below hb); have n2_ := aK (below_step HW.out hb); clear RgA HW; have RgA := n1_; have HW := n2_; clear n1_ n2_); clear hbox hb hg)
  | ((with_reducible refine gate_dst (N := 16) rfl ?_); refine lit_event rfl (cs := ((csR gA gB).toArray)) (t := 40) 2 (by first | (go_simp; done) | (go_simp; rfl)) ?_; intro gR hg w3 hbox hb; have RgR := aK (show RowAt w3 gR 40 ((((csR gA gB).toArray)).toList) from ⟨_, hbox, rfl⟩); (have HRC := aK (show RowsW w3 gR gA gB from ⟨RgR.out, RgA.out.below hb, RgB.out.below hb⟩); have n2_ := aK (below_step HW.out hb); clear RgA RgB RgR HW; have HW := n2_; clear n2_); clear hbox hb hg)
  | ((with_reducible refine gate_dst (N := 1) rfl ?_); refine box_event ?hg (N := 1) ?hd (cs := #[.slice none 0 0, .slice none 0 0]) (t := 25) ?hr ?_; (case hd => rfl); (case hg => rfl); (case hr => first | (go_simp; done) | (go_simp; rfl)); intro g1 hg1 w4 hbox hb; have R1 := aK (show RowAt w4 g1 25 [.slice none 0 0, .slice none 0 0] from ⟨_, hbox, rfl⟩); have HG1 := aK (show w.heap.size ≤ g1 by rw [hg1]; exact HW.out.size); have n1_ := aK (HRC.out.below hb); have n2_ := aK (below_step HW.out hb); have HLT := aK (show gR < g1 ∧ gA < g1 ∧ gB < g1 by rw [hg1]; exact ⟨HRC.out.r.lt, HRC.out.a.lt, HRC.out.b.lt⟩); clear HRC HW hbox hb hg1; have HRC := n1_; have HW := n2_; clear n1_ n2_)
  | ((with_reducible refine gate_store (t := 25) (p := 1) rfl ?_); refine put_event rfl rfl 25 (.tmp 1) (.tmp 17) rfl (g := g1) (off := 0) (u := .agg #[.slice none 0 0, .slice (some ⟨gR, 0, none⟩) 2 2]) (seg := [.slice none 0 0, .slice (some ⟨gR, 0, none⟩) 2 2]) rfl rfl R1.out rfl (by kernel_rfl) (Nat.le_refl _) (by simp [Value.oneCell']) ?_; intro w5 hrow hg; have n1_ := aK (HRC.out.grown hg HLT.out.1 HLT.out.2.1 HLT.out.2.2); have n2_ := aK (pw_below_grown HW.out _ HW.out.size hg (fun k hk => by cases hk; exact HG1.out)); have n3_ := aK (show RowAt w5 g1 25 [.slice none 0 0, .slice (some ⟨gR, 0, none⟩) 2 2] from hrow); clear HRC HW R1 hrow hg; have HRC := n1_; have HW := n2_; have R1 := n3_; clear n1_ n2_ n3_; have x0 : w5.cell? ⟨g1, 0, none⟩ = some (.slice none 0 0) := R1.out.cell 0; have x1 : w5.cell? ⟨g1, 1, none⟩ = some (.slice (some ⟨gR, 0, none⟩) 2 2) := R1.out.cell 1)
  | (go_at_call 8; have hcall := buildW w w5 gR gA gB HRC.out HW.out HALL.out; (with_reducible refine hcall.mono ?_); clear hcall; rintro e w6 ⟨adC, c, rfl, hlc, hC, hb⟩; have HC := aK hC; have HCC := aK hlc; have n2_ := aK (below_step HW.out hb); clear HW hC hb x0 x1 HRC R1; have HW := n2_; clear n2_)
  | ((with_reducible refine gate_dst (N := 2) rfl ?_); refine box_event ?hg (N := 2) ?hd (cs := #[.slice none 0 0, .int .i64 0]) (t := 29) ?hr ?_; (case hd => rfl); (case hg => rfl); (case hr => first | (go_simp; done) | (go_simp; rfl)); intro g2 hg2 w7 hbox hb; have R2 := aK (show RowAt w7 g2 29 [.slice none 0 0, .int .i64 0] from ⟨_, hbox, rfl⟩); have HG2 := aK (show w6.heap.size ≤ g2 by rw [hg2]; exact Nat.le_refl _); have HW6 := aK hb; clear hbox hb hg2)
  | ((with_reducible refine gate_dst (N := 3) rfl ?_); refine box_event ?hg (N := 3) ?hd (cs := #[.int .i64 0, .int .i64 0]) (t := 32) ?hr ?_; (case hd => rfl); (case hg => rfl); (case hr => first | (go_simp; done) | (go_simp; rfl)); intro g3 hg3 w8 hbox hb; have R3 := aK (show RowAt w8 g3 32 [.int .i64 0, .int .i64 0] from ⟨_, hbox, rfl⟩); have HG3 := aK (show w6.heap.size ≤ g3 ∧ g2 < g3 by rw [hg3]; exact ⟨HW6.out.size, R2.out.lt⟩); have n1_ := aK (R2.out.below hb); have n2_ := aK (below_step HW6.out hb); clear R2 HW6 hbox hb hg3; have R2 := n1_; have HW6 := n2_; clear n1_ n2_)
  | ((with_reducible refine gate_store (t := 29) (p := 2) rfl ?_); refine put_event rfl rfl 29 (.tmp 2) (.tmp 21) rfl (g := g2) (off := 0) (u := .agg #[.slice (some adC) 2 c, .int .i64 1]) (seg := [.slice (some adC) 2 c, .int .i64 1]) rfl rfl R2.out rfl (by kernel_rfl) (Nat.le_refl _) (by simp [Value.oneCell']) ?_; intro w9 hrow hg; have n1_ := aK (show RowAt w9 g2 29 [.slice (some adC) 2 c, .int .i64 1] from hrow); have n2_ := aK (R3.out.grown hg (by have := HG3.out; simp; omega)); have n3_ := aK (pw_below_grown HW6.out _ HW6.out.size hg (fun k hk => by cases hk; exact HG2.out)); clear R2 R3 HW6 hrow hg; have R2 := n1_; have R3 := n2_; have HW6 := n3_; clear n1_ n2_ n3_)
  | ((with_reducible refine gate_store (t := 32) (p := 3) rfl ?_); refine put_event rfl rfl 32 (.tmp 3) (.tmp 22) rfl (g := g3) (off := 0) (u := .agg #[.int .i64 0, .int .i64 0]) (seg := [.int .i64 0, .int .i64 0]) rfl rfl R3.out rfl (by kernel_rfl) (Nat.le_refl _) (by simp [Value.oneCell']) ?_; intro wa hrow hg; have n1_ := aK (show RowAt wa g3 32 [.int .i64 0, .int .i64 0] from hrow); have n2_ := aK (R2.out.grown hg (by have := HG3.out; simp; omega)); have n3_ := aK (pw_below_grown HW6.out _ HW6.out.size hg (fun k hk => by cases hk; exact HG3.out.1)); clear R2 R3 HW6 hrow hg; have R3 := n1_; have R2 := n2_; have HW6 := n3_; clear n1_ n2_ n3_))
 obtain ⟨adC', A1, cB, e1, _, k1, kcap, kC⟩ := cr_at HC.out (show lW[0]? = some ⟨nmA, lA⟩ from rfl)
 cases e1
 obtain ⟨adB, e2, _⟩ := cn_at kC (show lA[0]? = some _ from rfl)
 subst e2
 have hixC : ∀ W : World, (Instr.indexAt 27 (.slice (some adC) 2 c) (.int .i64 0)).run Tryd.prog W = .ok (.pointer (some (adC.add (0 * 2)))) W := fun W => idx_cr adC 2 c 0 (by decide) W
 obtain ⟨pC, hpC⟩ : ∃ pC, adC.add (0 * 2) = pC := ⟨_, rfl⟩
 rw [hpC] at k1 hixC
 have HK1 := aK (show w6.cell? ⟨pC.block, pC.off + 1, none⟩ = some (.slice (some adB) 7 cB) from k1)
 have HBC := aK (show Kd.C kCN w6 (some adB) 7 lA from kC)
 have HBCC := aK (show 7 ≤ cB from kcap)
 clear k1 kcap kC hpC hlc
 have s0 : wa.cell? ⟨g2, 0, none⟩ = some (.slice (some adC) 2 c) := R2.out.cell 0; have s1 : wa.cell? ⟨g2, 1, none⟩ = some (.int .i64 1) := R2.out.cell 1; have f0 : wa.cell? ⟨g3, 0, none⟩ = some (.int .i64 0) := R3.out.cell 0; have f1 : wa.cell? ⟨g3, 1, none⟩ = some (.int .i64 0) := R3.out.cell 1; have k1 : wa.cell? ⟨pC.block, pC.off + 1, none⟩ = some (.slice (some adB) 7 cB) := cell_below HK1.out HW6.out
 go_upto_region 7 with (first
  | (go_at_call 10; obtain ⟨kk, hk⟩ := csizeW; have hcall : Calls Tryd.prog 10 #[.agg #[.slice (some adC) 2 c, .int .i64 1]] wa fun e w' => e = .returned (.int .i64 8) ∧ Below wa.heap.size wa w' := core_Size.calls kk (some adC) c lW 1 8 wa (Kd.C_below HC.out HW6.out) HCC.out (hk kk (Nat.le_refl _)); (with_reducible refine hcall.mono ?_); clear hcall; rintro e wb ⟨rfl, hb⟩; have n1_ := aK (R2.out.below hb); have n2_ := aK (R3.out.below hb); have n3_ := aK (below_step HW6.out hb); clear R2 R3 HW6 hb s0 s1 f0 f1 k1; have R2 := n1_; have R3 := n2_; have HW6 := n3_; clear n1_ n2_ n3_; have s0 : wb.cell? ⟨g2, 0, none⟩ = some (.slice (some adC) 2 c) := R2.out.cell 0; have s1 : wb.cell? ⟨g2, 1, none⟩ = some (.int .i64 1) := R2.out.cell 1; have f0 : wb.cell? ⟨g3, 0, none⟩ = some (.int .i64 0) := R3.out.cell 0; have f1 : wb.cell? ⟨g3, 1, none⟩ = some (.int .i64 0) := R3.out.cell 1; have k1 : wb.cell? ⟨pC.block, pC.off + 1, none⟩ = some (.slice (some adB) 7 cB) := cell_below HK1.out HW6.out)
  | (go_at_call 9; obtain ⟨kk, hk⟩ := ccheckW; have hcall : Calls Tryd.prog 9 #[.agg #[.slice (some adC) 2 c, .int .i64 1]] wb fun e w' => e = .returned (.int .i64 0) ∧ Below wb.heap.size wb w' := core_Check.calls kk (some adC) c lW 1 0 wb (Kd.C_below HC.out HW6.out) HCC.out (hk kk (Nat.le_refl _)); (with_reducible refine hcall.mono ?_); clear hcall; rintro e wc ⟨rfl, hb⟩; have n1_ := aK (R2.out.below hb); have n2_ := aK (R3.out.below hb); have n3_ := aK (below_step HW6.out hb); clear R2 R3 HW6 hb s0 s1 f0 f1 k1; have R2 := n1_; have R3 := n2_; have HW6 := n3_; clear n1_ n2_ n3_; have s0 : wc.cell? ⟨g2, 0, none⟩ = some (.slice (some adC) 2 c) := R2.out.cell 0; have s1 : wc.cell? ⟨g2, 1, none⟩ = some (.int .i64 1) := R2.out.cell 1; have f0 : wc.cell? ⟨g3, 0, none⟩ = some (.int .i64 0) := R3.out.cell 0; have f1 : wc.cell? ⟨g3, 1, none⟩ = some (.int .i64 0) := R3.out.cell 1; have k1 : wc.cell? ⟨pC.block, pC.off + 1, none⟩ = some (.slice (some adB) 7 cB) := cell_below HK1.out HW6.out)
  | (go_at_call 15; obtain ⟨kk, hk⟩ := partsW; have hcall : Calls Tryd.prog 15 #[.slice (some adB) 7 cB, .int .i64 6] wc fun e w' => e = .returned (.tuple #[.int .i64 2, .int .i64 5]) ∧ Drawn0 wc w' := core_Parts.calls kk (some adB) cB lA 6 2 5 wc (Kd.C_below HBC.out HW6.out) HBCC.out (hk kk (Nat.le_refl _)); (with_reducible refine hcall.mono ?_); clear hcall; rintro e wd ⟨rfl, hdr⟩; have hb := hdr.below; clear hdr; have n1_ := aK (R2.out.below hb); have n2_ := aK (R3.out.below hb); have n3_ := aK (below_step HW6.out hb); clear R2 R3 HW6 hb s0 s1 f0 f1 k1; have R2 := n1_; have R3 := n2_; have HW6 := n3_; clear n1_ n2_ n3_; have s0 : wd.cell? ⟨g2, 0, none⟩ = some (.slice (some adC) 2 c) := R2.out.cell 0; have s1 : wd.cell? ⟨g2, 1, none⟩ = some (.int .i64 1) := R2.out.cell 1; have f0 : wd.cell? ⟨g3, 0, none⟩ = some (.int .i64 0) := R3.out.cell 0; have f1 : wd.cell? ⟨g3, 1, none⟩ = some (.int .i64 0) := R3.out.cell 1; have k1 : wd.cell? ⟨pC.block, pC.off + 1, none⟩ = some (.slice (some adB) 7 cB) := cell_below HK1.out HW6.out))
 obtain ⟨ad0, e0, q0, u0⟩ := cn_at HBC.out (show lA[0]? = some _ from rfl)
 cases e0
 have hx0 : ∀ W : World, (Instr.indexAt 42 (.slice (some adB) 7 cB) (.int .i64 0)).run Tryd.prog W = .ok (.pointer (some (adB.add (0 * 7)))) W := fun W => idx_cn adB 7 cB 0 (by decide) W
 obtain ⟨p0, hp0⟩ : ∃ p, adB.add (0 * 7) = p := ⟨_, rfl⟩
 rw [hp0] at q0 u0 hx0
 obtain ⟨ad2, e2, q2, u2⟩ := cn_at HBC.out (show lA[2]? = some _ from rfl)
 cases e2
 have hx2 : ∀ W : World, (Instr.indexAt 42 (.slice (some adB) 7 cB) (.int .i64 2)).run Tryd.prog W = .ok (.pointer (some (adB.add (2 * 7)))) W := fun W => idx_cn adB 7 cB 2 (by decide) W
 obtain ⟨p2, hp2⟩ : ∃ p, adB.add (2 * 7) = p := ⟨_, rfl⟩
 rw [hp2] at q2 u2 hx2
 obtain ⟨ad3, e3, q3, u3⟩ := cn_at HBC.out (show lA[3]? = some _ from rfl)
 cases e3
 have hx3 : ∀ W : World, (Instr.indexAt 42 (.slice (some adB) 7 cB) (.int .i64 3)).run Tryd.prog W = .ok (.pointer (some (adB.add (3 * 7)))) W := fun W => idx_cn adB 7 cB 3 (by decide) W
 obtain ⟨p3, hp3⟩ : ∃ p, adB.add (3 * 7) = p := ⟨_, rfl⟩
 rw [hp3] at q3 u3 hx3
 obtain ⟨ad5, e5, q5, u5⟩ := cn_at HBC.out (show lA[5]? = some _ from rfl)
 cases e5
 have hx5 : ∀ W : World, (Instr.indexAt 42 (.slice (some adB) 7 cB) (.int .i64 5)).run Tryd.prog W = .ok (.pointer (some (adB.add (5 * 7)))) W := fun W => idx_cn adB 7 cB 5 (by decide) W
 obtain ⟨p5, hp5⟩ : ∃ p, adB.add (5 * 7) = p := ⟨_, rfl⟩
 rw [hp5] at q5 u5 hx5
 replace q0 : wd.cell? p0 = some (.int .i64 1) := cell_below (show w6.cell? p0 = some (.int .i64 1) from q0) HW6.out
 replace q2 : wd.cell? p2 = some (.int .i64 4) := cell_below (show w6.cell? p2 = some (.int .i64 4) from q2) HW6.out
 replace q3 : wd.cell? p3 = some (.int .i64 2) := cell_below (show w6.cell? p3 = some (.int .i64 2) from q3) HW6.out
 replace u3 : wd.cell? ⟨p3.block, p3.off + 5, none⟩ = some (.int .i64 1) := cell_below (show w6.cell? ⟨p3.block, p3.off + 5, none⟩ = some (.int .i64 1) from u3) HW6.out
 replace q5 : wd.cell? p5 = some (.int .i64 5) := cell_below (show w6.cell? p5 = some (.int .i64 5) from q5) HW6.out
 clear u0 u2 u5 hp0 hp2 hp3 hp5
 go_wp2
 go_ret
 exact ⟨rfl, below_step HW.out HW6.out⟩
end
end Go.Proofs.YtihiicjnjhideaaDoor.Build
end
