/- Parts of the proof of coreOrder: BuildRuleW, BuildMap. No condition beyond each lemma's own. -/
import Derived.StillTailTactics
import Derived.Test.YtihiicjnjhideaaDoorTO8
import Derived.Test.YtihiicjnjhideaaDoorTO17
import Derived.Test.YtihiicjnjhideaaDoorTO18
import Derived.Test.YtihiicjnjhideaaDoorTO28
section
namespace Go.Proofs.YtihiicjnjhideaaDoor.Build
open Go.RowKit Go.Proofs.YtihiicjnjhideaaDoorW.PrintWords Go.Proofs.YtihiicjnjhideaaDoor.PAll Go.Proofs.YtihiicjnjhideaaDoor.Core
set_option linter.unusedVariables false
set_option linter.unusedSimpArgs false
theorem grown_new {w w1 w2 : World} {gb g : Nat} (h : w.grownBy w1 (some gb)) (hg : w1.grownBy w2 (some g)) (hn : g = gb ∨ w.heap.size ≤ g) : w.grownBy w2 (some gb) := by
 rcases hn with rfl | hn
 ·exact World.grownBy.trans h hg
 ·exact ⟨hg.os.trans h.os, hg.tape.trans h.tape, hg.output.trans h.output, Nat.le_trans h.size hg.size, fun i hi hne => (hg.block i (Nat.lt_of_lt_of_le hi h.size) (fun e => by injection e with e; omega)).trans (h.block i hi hne)⟩
section
variable (gb gm : Nat) (left : Int) (NM : ByteArray → Int) (t : T) (ad : Addr) (n c : Nat) (w : World)
set_option maxHeartbeats 8000000 in
set_option maxRecDepth 100000 in
theorem rule_calls (hN : NodeOk gb gm left NM t) (h0 : BW w gb gm left NM) (hC : Kd.C kEN w (some ad) n (flatT t)) (hc : n ≤ c) (hn : n ≤ 4096) (hb : RowAt w gb 66 [.map (some gm), .int .i64 left]) (hl0 : 0 ≤ left) (hl : left ≤ 16384) :
  Calls Tryd.prog 18 #[.pointer (some ⟨gb, 0, none⟩), .slice (some ad) n c] w fun e w' => RuleE w.heap.size gb gm left w' (ruleL left NM t) e ∧ w.grownBy w' (some gb) := by
 have HN := aK (show ∀ W, Below w.heap.size w W → Calls Tryd.prog 31 #[.pointer (some ⟨gb, 0, none⟩), .slice (some ad) n c] W fun e w' => LaidE W.heap.size w' (layT left NM t) e ∧ Below W.heap.size W w' from
  fun W hW => hN ad n c W (h0.below hW) (Kd.C_below hC hW) hc hn)
 have HB := aK hb
 have HGB := aK hb.lt
 have HLL := aK (And.intro hl0 hl)
 have hmf : ∀ (fn : Fn) (first cap : Array Value) (w : World), (Instr.makeFunc fn first cap).run Tryd.prog w = .ok (.func fn first cap) w := fun _ _ _ _ => rfl
 have hll1 : left ≤ 16384 := hl
 have hll0 : 0 ≤ left := hl0
 clear hN h0 hC hc hn hb hl0 hl
 cases hlt : layT left NM t with
 | none =>
  have HLT := aK hlt
  have HRL := aK (show ruleL left NM t = none by rw [ruleL, hlt]; rfl)
  clear hlt
  go_enter_defers Tryd.func18, Tryd.ntmps18
  go_wp2_with (first
   | ((with_reducible refine gate_dst (N := 4) rfl ?_); refine box_event (N := 4) rfl rfl (cs := #[.slice none 0 0]) (t := 42) ?hr2 ?_; (case hr2 => first | (go_simp; done) | (go_simp; rfl)); intro g4 hg4 w2 hbox hb2; have H4 := aK (show RowAt w2 g4 42 [.slice none 0 0] from ⟨_, hbox, rfl⟩); have HG4 := aK (show w.heap.size ≤ g4 by rw [hg4]; exact Nat.le_refl _); have HW := aK hb2; clear hbox hb2 hg4)
   | ((with_reducible refine gate_dst (N := 5) rfl ?_); refine box_event (N := 5) rfl rfl (cs := #[.bool false]) (t := 4) ?hr3 ?_; (case hr3 => first | (go_simp; done) | (go_simp; rfl)); intro g5 hg5 w3 hbox hb3; have H5 := aK (show RowAt w3 g5 4 [.bool false] from ⟨_, hbox, rfl⟩); have HG5 := aK (show w.heap.size ≤ g5 ∧ g4 < g5 by rw [hg5]; exact ⟨HW.out.size, H4.out.lt⟩); have n1_ := aK (H4.out.below hb3); have n2_ := aK (below_step HW.out hb3); clear H4 HW hbox hb3 hg5; have H4 := n1_; have HW := n2_; clear n1_ n2_)
   | ((go_at_call 31; have hcall := HN.out w3 HW.out; rw [HLT.out] at hcall; (with_reducible refine hcall.mono ?_); clear hcall); rintro e w4 ⟨he, hb4⟩; have he2 : e = .panicked tooMuch := he; subst he2))
  refine leaves_cons (f := 30) (args := #[.pointer (some ⟨g4, 0, none⟩), .pointer (some ⟨g5, 0, none⟩)]) (by simp) (by simp [go_sem]) ?_
  refine (rule1_caught g4 g5 w4 (H4.out.below hb4) (H5.out.below hb4) (by have := HG5.out; omega) w (below_step HW.out hb4) ⟨HG4.out, HG5.out.1⟩).mono ?_
  rintro e u' w5 ⟨rfl, rfl, h4, h5, hb⟩
  have x4 : w5.cell? ⟨g4, 0, none⟩ = some (.slice none 0 0) := h4.cell 0
  have x5 : w5.cell? ⟨g5, 0, none⟩ = some (.bool false) := h5.cell 0
  rw [HRL.out]
  simp [Leaves, settle, gaveUp, results, Tryd.results18, go_sem, x4, x5]
  exact ⟨⟨_, rfl⟩, grown_of_below hb _⟩
 | some l =>
  have HLT := aK hlt
  clear hlt
  go_enter_defers Tryd.func18, Tryd.ntmps18
  go_wp2_with (first
   | ((with_reducible refine gate_dst (N := 4) rfl ?_); refine box_event (N := 4) rfl rfl (cs := #[.slice none 0 0]) (t := 42) ?hr2 ?_; (case hr2 => first | (go_simp; done) | (go_simp; rfl)); intro g4 hg4 w2 hbox hb2; have H4 := aK (show RowAt w2 g4 42 [.slice none 0 0] from ⟨_, hbox, rfl⟩); have HG4 := aK (show w.heap.size ≤ g4 by rw [hg4]; exact Nat.le_refl _); have HW := aK hb2; clear hbox hb2 hg4)
   | ((with_reducible refine gate_dst (N := 5) rfl ?_); refine box_event (N := 5) rfl rfl (cs := #[.bool false]) (t := 4) ?hr3 ?_; (case hr3 => first | (go_simp; done) | (go_simp; rfl)); intro g5 hg5 w3 hbox hb3; have H5 := aK (show RowAt w3 g5 4 [.bool false] from ⟨_, hbox, rfl⟩); have HG5 := aK (show w.heap.size ≤ g5 ∧ g4 < g5 by rw [hg5]; exact ⟨HW.out.size, H4.out.lt⟩); have n1_ := aK (H4.out.below hb3); have n2_ := aK (below_step HW.out hb3); clear H4 HW hbox hb3 hg5; have H4 := n1_; have HW := n2_; clear n1_ n2_)
   | ((go_at_call 31; have hcall := HN.out w3 HW.out; rw [HLT.out] at hcall; (with_reducible refine hcall.mono ?_); clear hcall); rintro e w4 ⟨⟨v, he, hv⟩, hb4⟩; subst he; obtain ⟨Av, cv, hve, _⟩ := hv.bod.reads; subst hve; have HV := aK hv; have HSW := aK (show w.heap.size ≤ w3.heap.size from HW.out.size); have n1_ := aK (H4.out.below hb4); have n2_ := aK (H5.out.below hb4); have n3_ := aK (below_step HW.out hb4); clear H4 H5 HW hv hb4; have H4 := n1_; have H5 := n2_; have HW := n3_; clear n1_ n2_ n3_)
   | ((with_reducible refine gate_store (t := 42) (p := 4) rfl ?_); refine put_event rfl rfl 42 (.tmp 4) (.tmp 9) rfl (g := g4) (off := 0) (u := .slice Av l.length cv) (seg := [.slice Av l.length cv]) rfl rfl H4.out rfl (by kernel_rfl) (Nat.le_refl _) (by simp [Value.oneCell']) ?_; intro w5 hrow hg; have n1_ := aK (show RowAt w5 g4 42 [.slice Av l.length cv] from hrow); have n2_ := aK (H5.out.grown hg (by have := HG5.out; simp; omega)); have n3_ := aK (pw_below_grown HW.out _ HW.out.size hg (fun k hk => by cases hk; exact HG4.out)); have n4_ := aK (own_put HV.out H4.out (by decide) hg); clear H4 H5 HW HV hrow hg; have H4 := n1_; have H5 := n2_; have HW := n3_; have HV := n4_; clear n1_ n2_ n3_ n4_))
  have hlen := layT_le (by omega) HLT.out
  have HB5 := aK (HB.out.below HW.out)
  have y0 : w5.cell? ⟨g4, 0, none⟩ = some (.slice Av l.length cv) := H4.out.cell 0
  have y1 : w5.cell? ⟨gb, 1, none⟩ = some (.int .i64 left) := HB5.out.cell 1
  have hw1 : IntKind.i64.wrap (left - (l.length : Int)) = left - (l.length : Int) := IntWalk.i64_in _ (by omega)
  go_still_tail 7, (by kernel_rfl)
  change wpList _ _ _ _ _ w5.drew
  have HBD := aK (HB5.out.below (below_drew (Below.refl _ _)))
  have HWD := aK (below_drew HW.out)
  have n1_ := aK (H4.out.below (below_drew (Below.refl _ _))); have n2_ := aK (H5.out.below (below_drew (Below.refl _ _))); have n4_ := aK (own_go HV.out (below_drew (Below.refl _ _))); clear H4 H5 HV; have H4 := n1_; have H5 := n2_; have HV := n4_; clear n1_ n2_ n4_
  clear HB5 y0 y1
  generalize w5.drew = wd at *
  go_wp2_with (first
   | ((with_reducible refine gate_store (t := 3) (p := 18) rfl ?_); refine put_event rfl rfl 3 (.tmp 18) (.tmp 16) rfl (g := gb) (off := 1) (u := .int .i64 (left - (l.length : Int))) (seg := [.int .i64 (left - (l.length : Int))]) rfl rfl HBD.out rfl (by kernel_rfl) (Nat.le_refl _) (by simp [Value.oneCell']) ?_; intro w6 hrow hg; have n1_ := aK (show RowAt w6 gb 66 [.map (some gm), .int .i64 (left - (l.length : Int))] from hrow); have n2_ := aK (H4.out.grown hg (by have := HG4.out; have := HGB.out; simp; omega)); have n3_ := aK (H5.out.grown hg (by have := HG5.out; have := HGB.out; simp; omega)); have n4_ := aK (own_put HV.out HBD.out (by decide) hg); have HG := aK (World.grownBy.trans (grown_of_below HWD.out (some gb)) hg); clear H4 H5 HBD HV HWD HW hrow hg; have HB6 := n1_; have H4 := n2_; have H5 := n3_; have HV := n4_; clear n1_ n2_ n3_ n4_))
  have hx4 : w6.cell? ⟨g4, 0, none⟩ = some (.slice Av l.length cv) := H4.out.cell 0
  have hx1 : w6.cell? ⟨gb, 1, none⟩ = some (.int .i64 (left - (l.length : Int))) := HB6.out.cell 1
  refine wp_region_noPanic ?_
  refine wp_region_held_drew (S := fun W => RowAt W g4 42 [.slice Av l.length cv] ∧ RowAt W gb 66 [.map (some gm), .int .i64 (left - (l.length : Int))]) (by kernel_rfl) ⟨H4.out.below (below_drew (Below.refl _ _)), HB6.out.below (below_drew (Below.refl _ _))⟩ (fun hH => ?_)
  have HGD := aK (World.grownBy.trans HG.out (grown_of_below (below_drew (Below.refl w6.heap.size w6)) (some gb)))
  have HSZ := aK (show w.heap.size ≤ w6.drew.heap.size from HGD.out.size)
  have n1_ := aK (H4.out.below (below_drew (Below.refl _ _))); have n2_ := aK (H5.out.below (below_drew (Below.refl _ _))); have n4_ := aK (own_go HV.out (below_drew (Below.refl _ _))); clear H4 H5 HV; have H4 := n1_; have H5 := n2_; have HV := n4_; clear n1_ n2_ n4_
  clear HG HB6 hx4 hx1
  generalize w6.drew = w7 at *
  refine wpAnyH_take (i := 0) (oi := _) (v := .slice Av l.length cv) rfl (by kernel_rfl) (by kernel_rfl) (by kernel_rfl) (fun _ _ _ h => h) (Or.inl ⟨by rfl, fun w hw => by (have z := hw.1.cell 0; go_simp)⟩) hH ?_; simp only [List.getElem_toArray, List.getElem_cons_zero, List.getElem_cons_succ, Act.put, List.setIfInBounds_toArray, List.set_cons_zero, List.set_cons_succ]
  refine wpAnyH_take (i := 1) (oi := _) (v := .pointer (some ⟨gb, 0, none⟩)) rfl (by kernel_rfl) (by kernel_rfl) (by kernel_rfl) (fun _ _ _ h => h) (Or.inl ⟨by rfl, fun w hw => by go_simp⟩) hH ?_; simp only [List.getElem_toArray, List.getElem_cons_zero, List.getElem_cons_succ, Act.put, List.setIfInBounds_toArray, List.set_cons_zero, List.set_cons_succ]
  refine wpAnyH_take (i := 2) (oi := _) (v := .pointer (some ⟨gb, 0, none⟩)) rfl (by kernel_rfl) (by kernel_rfl) (by kernel_rfl) (fun _ _ _ h => h) (Or.inl ⟨by rfl, fun w hw => by (have z := hw.2.cell 0; go_simp)⟩) hH ?_; simp only [List.getElem_toArray, List.getElem_cons_zero, List.getElem_cons_succ, Act.put, List.setIfInBounds_toArray, List.set_cons_zero, List.set_cons_succ]
  refine wpAnyH_take (i := 3) (oi := _) (v := .pointer (some ⟨gb, 1, none⟩)) rfl (by kernel_rfl) (by kernel_rfl) (by kernel_rfl) (fun _ _ _ h => h) (Or.inl ⟨by rfl, fun w hw => by (have z := hw.2.cell 0; go_simp)⟩) hH ?_; simp only [List.getElem_toArray, List.getElem_cons_zero, List.getElem_cons_succ, Act.put, List.setIfInBounds_toArray, List.set_cons_zero, List.set_cons_succ]
  refine wpAnyH_take (i := 4) (oi := _) (v := .int .i64 (left - (l.length : Int))) rfl (by kernel_rfl) (by kernel_rfl) (by kernel_rfl) (fun _ _ _ h => h) (Or.inl ⟨by rfl, fun w hw => by (have z := hw.2.cell 1; go_simp)⟩) hH ?_; simp only [List.getElem_toArray, List.getElem_cons_zero, List.getElem_cons_succ, Act.put, List.setIfInBounds_toArray, List.set_cons_zero, List.set_cons_succ]
  by_cases cb : (l.length : Int) ≤ left
  ·have HRL := aK (show ruleL left NM t = some l by rw [ruleL, HLT.out]; exact if_pos cb)
   refine wpAnyH_take (i := 5) (oi := _) (v := .bool true) rfl (by kernel_rfl) (by kernel_rfl) (by kernel_rfl) (fun _ _ _ h => h) (Or.inl ⟨by rfl, fun w hw => by (have z : decide ((0 : Int) ≤ left - (l.length : Int)) = true := decide_eq_true (by omega); go_simp)⟩) hH ?_; simp only [List.getElem_toArray, List.getElem_cons_zero, List.getElem_cons_succ, Act.put, List.setIfInBounds_toArray, List.set_cons_zero, List.set_cons_succ]
   refine wpAnyH_ready (rs := [6]) (by kernel_rfl) (by simp) ?_; refine AllReadyH.cons (o := _) rfl (fun K hK => ?_) AllReadyH.nil; refine rstep_store (by rfl) 42 (.tmp 4) (.tmp 19) rfl (g := g4) (off := 0) (u := .slice Av l.length cv) (seg := [.slice Av l.length cv]) rfl rfl H4.out rfl (by kernel_rfl) (Nat.le_refl _) (by simp [Value.oneCell']) ?_; intro w8 hrow hg; have hH2 : RowAt w8 g4 42 [.slice Av l.length cv] ∧ RowAt w8 gb 66 [.map (some gm), .int .i64 (left - (l.length : Int))] := ⟨hrow, hH.2.grown hg (by have := HG4.out; have := HGB.out; simp; omega)⟩; have H5b := aK (H5.out.grown hg (by have := HG5.out; simp; omega)); have HVb := aK (own_put HV.out H4.out (by decide) hg); have HGb := aK (grown_new HGD.out hg (Or.inr HG4.out)); clear hH; have hH := hH2; clear hH2; refine hK.out _ _ hH (fun _ => ?_); clear hK K; simp only [List.getElem_toArray, List.getElem_cons_zero, List.getElem_cons_succ, Act.put, List.setIfInBounds_toArray, List.set_cons_zero, List.set_cons_succ]; refine wpAnyH_ready (rs := [7]) (by kernel_rfl) (by simp) ?_; refine AllReadyH.cons (o := _) rfl (fun K hK => ?_) AllReadyH.nil; refine rstep_store (by rfl) 4 (.tmp 5) (.tmp 24) rfl (g := g5) (off := 0) (u := .bool true) (seg := [.bool true]) rfl rfl H5b.out rfl (by kernel_rfl) (Nat.le_refl _) (by simp [Value.oneCell']) ?_; intro w9 hrow9 hg9; have hH2 : RowAt w9 g4 42 [.slice Av l.length cv] ∧ RowAt w9 gb 66 [.map (some gm), .int .i64 (left - (l.length : Int))] := ⟨hH.1.grown hg9 (by have := HG5.out; simp; omega), hH.2.grown hg9 (by have := HG5.out; have := HGB.out; simp; omega)⟩; have HVc := aK (own_put HVb.out H5b.out (by decide) hg9); have HGc := aK (grown_new HGb.out hg9 (Or.inr HG5.out.1)); have H5c := aK (show RowAt w9 g5 4 [.bool true] from hrow9); clear hH; have hH := hH2; clear hH2; refine hK.out _ _ hH (fun _ => ?_); clear hK K; simp only [List.getElem_toArray, List.getElem_cons_zero, List.getElem_cons_succ, Act.put, List.setIfInBounds_toArray, List.set_cons_zero, List.set_cons_succ]; refine wpAnyH_done (by kernel_rfl) ?_ _; refine NoPanic.normal ?_; go_wp2; refine leaves_cons (f := 30) (args := #[.pointer (some ⟨g4, 0, none⟩), .pointer (some ⟨g5, 0, none⟩)]) (by simp) (by simp [go_sem]) ?_; refine (rule1_idle g4 g5 w9).mono ?_; rintro e u' w10 ⟨rfl, rfl, rfl⟩; have x4 : w10.cell? ⟨g4, 0, none⟩ = some (.slice Av l.length cv) := hH.1.cell 0; have x5 : w10.cell? ⟨g5, 0, none⟩ = some (.bool true) := H5c.out.cell 0; have HV9 := aK (Kd.R_lower HVc.out HSW.out); have HB9 := aK hH.2; have HG9 := HGc
   rw [HRL.out]
   simp [Leaves, settle, results, Tryd.results18, go_sem, x4, x5]
   exact ⟨⟨_, rfl, HV9.out, HB9.out⟩, HG9.out⟩
  ·have HRL := aK (show ruleL left NM t = none by rw [ruleL, HLT.out]; exact if_neg cb)
   refine wpAnyH_take (i := 5) (oi := _) (v := .bool false) rfl (by kernel_rfl) (by kernel_rfl) (by kernel_rfl) (fun _ _ _ h => h) (Or.inl ⟨by rfl, fun w hw => by (have z : decide ((0 : Int) ≤ left - (l.length : Int)) = false := decide_eq_false (by omega); go_simp)⟩) hH ?_; simp only [List.getElem_toArray, List.getElem_cons_zero, List.getElem_cons_succ, Act.put, List.setIfInBounds_toArray, List.set_cons_zero, List.set_cons_succ]
   refine wpAnyH_ready (rs := [6]) (by kernel_rfl) (by simp) ?_; refine AllReadyH.cons (o := _) rfl (fun K hK => ?_) AllReadyH.nil; refine rstep_store (by rfl) 42 (.tmp 4) (.tmp 19) rfl (g := g4) (off := 0) (u := .slice Av l.length cv) (seg := [.slice Av l.length cv]) rfl rfl H4.out rfl (by kernel_rfl) (Nat.le_refl _) (by simp [Value.oneCell']) ?_; intro w8 hrow hg; have hH2 : RowAt w8 g4 42 [.slice Av l.length cv] ∧ RowAt w8 gb 66 [.map (some gm), .int .i64 (left - (l.length : Int))] := ⟨hrow, hH.2.grown hg (by have := HG4.out; have := HGB.out; simp; omega)⟩; have H5b := aK (H5.out.grown hg (by have := HG5.out; simp; omega)); have HVb := aK (own_put HV.out H4.out (by decide) hg); have HGb := aK (grown_new HGD.out hg (Or.inr HG4.out)); clear hH; have hH := hH2; clear hH2; refine hK.out _ _ hH (fun _ => ?_); clear hK K; simp only [List.getElem_toArray, List.getElem_cons_zero, List.getElem_cons_succ, Act.put, List.setIfInBounds_toArray, List.set_cons_zero, List.set_cons_succ]; refine wpAnyH_ready (rs := [7]) (by kernel_rfl) (by simp) ?_; refine AllReadyH.cons (o := _) rfl (fun K hK => ?_) AllReadyH.nil; refine rstep_store (by rfl) 4 (.tmp 5) (.tmp 24) rfl (g := g5) (off := 0) (u := .bool false) (seg := [.bool false]) rfl rfl H5b.out rfl (by kernel_rfl) (Nat.le_refl _) (by simp [Value.oneCell']) ?_; intro w9 hrow9 hg9; have hH2 : RowAt w9 g4 42 [.slice Av l.length cv] ∧ RowAt w9 gb 66 [.map (some gm), .int .i64 (left - (l.length : Int))] := ⟨hH.1.grown hg9 (by have := HG5.out; simp; omega), hH.2.grown hg9 (by have := HG5.out; have := HGB.out; simp; omega)⟩; have HVc := aK (own_put HVb.out H5b.out (by decide) hg9); have HGc := aK (grown_new HGb.out hg9 (Or.inr HG5.out.1)); have H5c := aK (show RowAt w9 g5 4 [.bool false] from hrow9); clear hH; have hH := hH2; clear hH2; refine hK.out _ _ hH (fun _ => ?_); clear hK K; simp only [List.getElem_toArray, List.getElem_cons_zero, List.getElem_cons_succ, Act.put, List.setIfInBounds_toArray, List.set_cons_zero, List.set_cons_succ]; refine wpAnyH_done (by kernel_rfl) ?_ _; refine NoPanic.normal ?_; go_wp2; refine leaves_cons (f := 30) (args := #[.pointer (some ⟨g4, 0, none⟩), .pointer (some ⟨g5, 0, none⟩)]) (by simp) (by simp [go_sem]) ?_; refine (rule1_idle g4 g5 w9).mono ?_; rintro e u' w10 ⟨rfl, rfl, rfl⟩; have x4 : w10.cell? ⟨g4, 0, none⟩ = some (.slice Av l.length cv) := hH.1.cell 0; have x5 : w10.cell? ⟨g5, 0, none⟩ = some (.bool false) := H5c.out.cell 0; have HV9 := aK (Kd.R_lower HVc.out HSW.out); have HB9 := aK hH.2; have HG9 := HGc
   rw [HRL.out]
   simp [Leaves, settle, results, Tryd.results18, go_sem, x4, x5]
   exact ⟨⟨_, rfl⟩, HG9.out⟩
end
end Go.Proofs.YtihiicjnjhideaaDoor.Build
end
section
namespace Go.Proofs.YtihiicjnjhideaaDoorW.PrintWords
open Go.RowKit Go.MapKept
/-- Keys with their numbers. -/
def numbered {κ : Type} (S : List κ) : List (κ × Value) := S.zipIdx.map fun p => (p.1, .int .i64 (p.2 : Int))
theorem numbered_keys {κ : Type} (S : List κ) : (numbered S).map (·.1) = S := by
 rw [numbered, List.map_map]
 show S.zipIdx.map Prod.fst = S
 exact List.zipIdx_map_fst 0 S
theorem numbered_snoc {κ : Type} (S : List κ) (x : κ) : numbered (S ++ [x]) = numbered S ++ [(x, .int .i64 (S.length : Int))] := by
 rw [numbered, List.zipIdx_append, List.map_append]
 simp [numbered]
theorem find_numbered {κ : Type} [DecidableEq κ] (x : κ) : ∀ (S : List κ) (k i : Nat), x ∈ S → mapFind x ((S.zipIdx k).map fun p => (p.1, Value.int .i64 (p.2 : Int))) i = some (i + S.idxOf x, .int .i64 ((k + S.idxOf x : Nat) : Int))
 | [], _, _, h => by cases h
 | y :: S, k, i, h => by
  rw [List.zipIdx_cons, List.map_cons, mapFind]
  by_cases e : x = y
  ·subst e
   rw [if_pos rfl, List.idxOf_cons_self]
   rfl
  ·rw [if_neg e, find_numbered x S (k + 1) (i + 1) (by rcases List.mem_cons.1 h with h | h; exact absurd h e; exact h), List.idxOf_cons, show (y == x) = false from beq_eq_false_iff_ne.2 (fun h => e h.symm)]
   dsimp only [cond_false]
   congr 2
   ·omega
   ·congr 2; omega
theorem look_numbered {κ : Type} [DecidableEq κ] {x : κ} {S : List κ} (h : x ∈ S) : mapFind x (numbered S) 0 = some (S.idxOf x, .int .i64 (S.idxOf x : Int)) := by
 have := find_numbered x S 0 0 h
 rw [Nat.zero_add] at this
 exact this
end Go.Proofs.YtihiicjnjhideaaDoorW.PrintWords
namespace Go.Proofs.YtihiicjnjhideaaDoor.Build
open Go.RowKit Go.Proofs.YtihiicjnjhideaaDoorW.PrintWords Go.Proofs.YtihiicjnjhideaaDoor.PAll Go.Proofs.YtihiicjnjhideaaDoor.Core Go.Proofs.YtihiicjnjhideaaDoor.Names
set_option linter.unusedVariables false
set_option linter.unusedSimpArgs false
theorem str_kind : KeyKind Tryd.prog 9 Value.string := string_keys Tryd.underlying9
/-- Is x among S? -/
def inD {κ : Type} [DecidableEq κ] (S : List κ) (x : κ) : Bool := decide (x ∈ S)
theorem inD_yes {κ : Type} [DecidableEq κ] {S : List κ} {x : κ} (h : x ∈ S) : inD S x = true := decide_eq_true h
theorem inD_no {κ : Type} [DecidableEq κ] {S : List κ} {x : κ} (h : x ∉ S) : inD S x = false := decide_eq_false h
/-- A name's number; 0 where there is none. -/
def placeK {κ : Type} [DecidableEq κ] (S : List κ) (x : κ) : Int := if inD S x = true then (S.idxOf x : Int) else 0
def placeN (S : List ByteArray) (x : ByteArray) : Int := placeK S x
theorem find_yes {κ : Type} [DecidableEq κ] {S : List κ} {x : κ} (h : x ∈ S) : ∃ j, mapFind x (numbered S) 0 = some (j, .int .i64 (placeK S x)) := ⟨_, by rw [look_numbered h, placeK, if_pos (inD_yes h)]⟩
theorem find_no {κ : Type} [DecidableEq κ] {S : List κ} {x : κ} (h : x ∉ S) : mapFind x (numbered S) 0 = none := mapFind_none.2 (by rw [numbered_keys]; exact h)
theorem place_no {κ : Type} [DecidableEq κ] {S : List κ} {x : κ} (h : x ∉ S) : placeK S x = 0 := by rw [placeK, inD_no h]; rfl
theorem name_look (gm : Nat) (x : ByteArray) (S : List ByteArray) (W : World) (hm : MapAt Value.string W gm (numbered S)) : (Instr.lookup 64 (.map (some gm)) (.string x) true).run Tryd.prog W = .ok (.tuple #[.int .i64 (placeN S x), .bool (inD S x)]) W := by
 have := MapAt.lookup (P := Tryd.prog) str_kind Tryd.underlying64 hm x (z := .int .i64 0) (by kernel_rfl) true
 by_cases h : x ∈ S
 ·obtain ⟨j, hj⟩ := find_yes h
  rw [hj] at this
  rw [placeN, inD_yes h]
  exact this
 ·rw [find_no h] at this
  rw [placeN, inD_no h, place_no h]
  exact this
theorem name_look1 (gm : Nat) (x : ByteArray) (S : List ByteArray) (W : World) (hm : MapAt Value.string W gm (numbered S)) : (Instr.lookup 64 (.map (some gm)) (.string x) false).run Tryd.prog W = .ok (.int .i64 (placeN S x)) W := by
 have := MapAt.lookup (P := Tryd.prog) str_kind Tryd.underlying64 hm x (z := .int .i64 0) (by kernel_rfl) false
 by_cases h : x ∈ S
 ·obtain ⟨j, hj⟩ := find_yes h
  rw [hj] at this
  rw [placeN]
  exact this
 ·rw [find_no h] at this
  rw [placeN, place_no h]
  exact this
abbrev CR := S44
abbrev kER : Kd ER := k40
abbrev kCR : Kd CR := k44
abbrev EU := S79
abbrev kEU : Kd EU := k79
def namesOf (rs : List ER) : List ByteArray := rs.map (·.f0)
/-- The trees of the rules' bodies. -/
structure Trees (rs : List ER) (ts : List T) : Prop where
 len : ts.length = rs.length
 at_ : ∀ (i : Nat) (r : ER) (t : T), rs[i]? = some r → ts[i]? = some t → wfT t ∧ flatT t = r.f2
theorem trees_of : ∀ {rs : List ER}, (∀ r ∈ rs, GoodR r) → ∃ ts, Trees rs ts
 | [], _ => ⟨[], rfl, fun i r t h => by simp at h⟩
 | r :: rs, h => by
  obtain ⟨t, h1, h2⟩ := (h r (List.mem_cons_self ..)).body.tree
  obtain ⟨ts, h3⟩ := trees_of (fun x hx => h x (List.mem_cons_of_mem _ hx))
  refine ⟨t :: ts, by rw [List.length_cons, List.length_cons, h3.len], fun i x y hx hy => ?_⟩
  cases i with
  | zero => rw [List.getElem?_cons_zero] at hx hy; cases hx; cases hy; exact ⟨h1, h2⟩
  | succ i => rw [List.getElem?_cons_succ] at hx hy; exact h3.at_ i x y hx hy
/-- All bodies, laid one behind the other, of what is left. -/
def layR (NM : ByteArray → Int) : Int → List T → Option (List (List CN))
 | _, [] => some []
 | left, t :: ts => (ruleL left NM t).bind fun l => (layR NM (left - l.length) ts).bind fun ls => some (l :: ls)
theorem layR_snoc (NM : ByteArray → Int) (t : T) : ∀ (ts : List T) (left : Int), layR NM left (ts ++ [t]) = (layR NM left ts).bind fun L => (ruleL (left - L.flatten.length) NM t).bind fun l => some (L ++ [l])
 | [], left => by
  rw [List.nil_append, layR, layR]
  simp only [Option.bind_some, List.flatten_nil, List.length_nil]
  rw [show left - ((0 : Nat) : Int) = left by omega]
  cases ruleL left NM t <;> simp [layR]
 | s :: ts, left => by
  rw [List.cons_append, layR, layR]
  cases ruleL left NM s with
  | none => rfl
  | some b =>
   simp only [Option.bind_some]
   rw [layR_snoc NM t ts]
   cases layR NM (left - b.length) ts with
   | none => rfl
   | some L =>
    simp only [Option.bind_some, List.flatten_cons, List.length_append]
    rw [show left - (b.length : Int) - (L.flatten.length : Int) = left - ((b.length + L.flatten.length : Nat) : Int) by omega]
    cases ruleL (left - ((b.length + L.flatten.length : Nat) : Int)) NM t <;> rfl
theorem layR_none {NM : ByteArray → Int} : ∀ {ts us : List T} {left : Int}, layR NM left ts = none → layR NM left (ts ++ us) = none
 | [], us, left, h => by cases h
 | s :: ts, us, left, h => by
  rw [layR] at h
  rw [List.cons_append, layR]
  cases hs : ruleL left NM s with
  | none => rfl
  | some b =>
   rw [hs] at h
   simp only [Option.bind_some] at h ⊢
   cases hf : layR NM (left - b.length) ts with
   | none => rw [layR_none hf]; rfl
   | some L => rw [hf] at h; cases h
theorem ruleL_le {left : Int} {NM : ByteArray → Int} {t : T} {l : List CN} (h : ruleL left NM t = some l) : (l.length : Int) ≤ left := by
 unfold ruleL at h
 obtain ⟨l', _, h⟩ := Option.bind_eq_some_iff.1 h
 split at h
 ·cases h; assumption
 ·cases h
theorem layR_le {NM : ByteArray → Int} : ∀ {ts : List T} {left : Int} {L : List (List CN)}, 0 ≤ left → layR NM left ts = some L → (L.flatten.length : Int) ≤ left
 | [], left, L, h0, h => by rw [layR] at h; cases h; simpa using h0
 | t :: ts, left, L, h0, h => by
  rw [layR] at h
  obtain ⟨b, h1, h⟩ := Option.bind_eq_some_iff.1 h
  obtain ⟨bs, h2, h⟩ := Option.bind_eq_some_iff.1 h
  cases h
  have h3 := ruleL_le h1
  have h4 := layR_le (by omega) h2
  rw [List.flatten_cons, List.length_append]
  omega
theorem layR_len {NM : ByteArray → Int} : ∀ {ts : List T} {left : Int} {L : List (List CN)}, layR NM left ts = some L → L.length = ts.length
 | [], left, L, h => by rw [layR] at h; cases h; rfl
 | t :: ts, left, L, h => by
  rw [layR] at h
  obtain ⟨b, h1, h⟩ := Option.bind_eq_some_iff.1 h
  obtain ⟨bs, h2, h⟩ := Option.bind_eq_some_iff.1 h
  cases h
  rw [List.length_cons, List.length_cons, layR_len h2]
/-- What is known of a rule or a name in a body. -/
def knownR (S : List ByteArray) (r : ER) : Prop := ∀ x ∈ r.f2, x.f0 = 4 → x.f2 ∈ S
/-- What core.Build answers: rules, start, fault. -/
inductive Out (us : List EU) (rs : List ER) (start : ByteArray) (ts : List T) : List CR → Int → Int → Int → Prop
 | shape (v : Int) (h : Ev (fun k => script_Check.f k us rs) v) (hv : v ≠ 0) : Out us rs start ts [] 0 0 6
 | params (h : Ev (fun k => macro_Flat.f k us rs) false) : Out us rs start ts [] 0 0 80
 | twice (i : Nat) (r : ER) (hr : rs[i]? = some r) (h : r.f0 ∈ namesOf (rs.take i)) : Out us rs start ts [] 0 i 90
 | unknown (i : Nat) (r : ER) (hr : rs[i]? = some r) (h : ¬ knownR (namesOf rs) r) : Out us rs start ts [] 0 i 91
 | start (h : start ∉ namesOf rs) : Out us rs start ts [] 0 0 92
 | budget (i : Nat) (hi : i < rs.length) (h : layR (placeN (namesOf rs)) 16384 (ts.take (i + 1)) = none) : Out us rs start ts [] 0 i 81
 | built (L : List (List CN)) (h1 : Ev (fun k => script_Check.f k us rs) 0) (h2 : Ev (fun k => macro_Flat.f k us rs) true) (h3 : (namesOf rs).Nodup) (h4 : ∀ r ∈ rs, knownR (namesOf rs) r) (h5 : start ∈ namesOf rs) (h6 : layR (placeN (namesOf rs)) 16384 ts = some L) : Out us rs start ts (List.zipWith (fun x l => (⟨x, l⟩ : CR)) (namesOf rs) L) (placeN (namesOf rs) start) 0 0
end Go.Proofs.YtihiicjnjhideaaDoor.Build
end
