/- Parts of the proof of coreOrder: BuildTop. No condition beyond each lemma's own. -/
import Derived.Test.YtihiicjnjhideaaDoorTO29
section
namespace Go.Proofs.YtihiicjnjhideaaDoor.Build
open Go.RowKit Go.Proofs.YtihiicjnjhideaaDoorW.PrintWords Go.Proofs.YtihiicjnjhideaaDoor.PAll Go.Proofs.YtihiicjnjhideaaDoor.Core
set_option linter.unusedVariables false
set_option linter.unusedSimpArgs false
/-- Where the boxes lie. -/
structure BG (w0 : World) (g2 g4 g5 : Nat) : Prop where
 b2 : w0.heap.size ≤ g2
 b4 : w0.heap.size ≤ g4
 b5 : w0.heap.size ≤ g5
 h24 : g2 ≠ g4
 h25 : g2 ≠ g5
 h45 : g4 ≠ g5
/-- What the boxes hold while core.Build goes on. -/
structure BS (w0 w : World) (us : List EU) (rs : List ER) (Au Ar : Option Addr) (cu cr g2 g4 g5 : Nat) : Prop where
 gi : RowAt w g2 25 [.slice Au us.length cu, .slice Ar rs.length cr]
 c4 : RowAt w g4 29 [.slice none 0 0, .int .i64 0]
 c5 : RowAt w g5 32 [.int .i64 0, .int .i64 0]
 below : Below w0.heap.size w0 w
section
variable {w0 w w' : World} {us : List EU} {rs : List ER} {Au Ar : Option Addr} {cu cr g2 g4 g5 : Nat}
theorem BS.next (h : BS w0 w us rs Au Ar cu cr g2 g4 g5) (hb : Below w.heap.size w w') : BS w0 w' us rs Au Ar cu cr g2 g4 g5 := ⟨h.gi.below hb, h.c4.below hb, h.c5.below hb, below_step h.below hb⟩
theorem BS.put4 (h : BS w0 w us rs Au Ar cu cr g2 g4 g5) (hg : BG w0 g2 g4 g5) (hr : RowAt w' g4 29 [.slice none 0 0, .int .i64 0]) (hw : w.grownBy w' (some g4)) : BS w0 w' us rs Au Ar cu cr g2 g4 g5 :=
 ⟨h.gi.grown hw (by have := hg.h24; simp; omega), hr, h.c5.grown hw (by have := hg.h45; simp; omega), pw_below_grown h.below _ h.below.size hw (fun k hk => by cases hk; exact hg.b4)⟩
theorem BS.other {g : Nat} (h : BS w0 w us rs Au Ar cu cr g2 g4 g5) (hw : w.grownBy w' (some g)) (hg : w0.heap.size ≤ g) (h2 : g2 ≠ g) (h4 : g4 ≠ g) (h5 : g5 ≠ g) : BS w0 w' us rs Au Ar cu cr g2 g4 g5 :=
 ⟨h.gi.grown hw (by simp; omega), h.c4.grown hw (by simp; omega), h.c5.grown hw (by simp; omega), pw_below_grown h.below _ h.below.size hw (fun k hk => by cases hk; exact hg)⟩
end
/-- What core.Build hands back. -/
def BuildE (w0 w' : World) (us : List EU) (rs : List ER) (start : ByteArray) (ts : List T) (e : Ending) : Prop := ∃ (l : List CR) (A : Option Addr) (c : Nat) (s at_ code : Int), e = .returned (.tuple #[.agg #[.slice A l.length c, .int .i64 s], .agg #[.int .i64 at_, .int .i64 code]]) ∧ l.length ≤ c ∧ Kd.C kCR w' A l.length l ∧ Out us rs start ts l s at_ code
theorem BuildE.fault {w0 w' : World} {us : List EU} {rs : List ER} {start : ByteArray} {ts : List T} {at_ code : Int} (h : Out us rs start ts [] 0 at_ code) : BuildE w0 w' us rs start ts (.returned (.tuple #[.agg #[.slice none 0 0, .int .i64 0], .agg #[.int .i64 at_, .int .i64 code]])) :=
 ⟨[], none, 0, 0, at_, code, rfl, Nat.le_refl _, Kd.C_nil _ _, h⟩
section
variable (us : List EU) (rs : List ER) (start : ByteArray) (ts : List T) (Au Ar : Option Addr) (cu cr : Nat) (w0 : World)
set_option maxHeartbeats 8000000 in
set_option maxRecDepth 100000 in
theorem build_shape (hu : Kd.C kEU w0 Au us.length us) (hcu : us.length ≤ cu) (hr : Kd.C kER w0 Ar rs.length rs) (hcr : rs.length ≤ cr) {v : Int} (hv : Ev (fun k => script_Check.f k us rs) v) (hv0 : v ≠ 0) :
  Calls Tryd.prog 8 #[.agg #[.slice Au us.length cu, .slice Ar rs.length cr], .string start] w0 fun e w' => BuildE w0 w' us rs start ts e ∧ Below w0.heap.size w0 w' := by
 have HU := aK hu
 have HCU := aK hcu
 have HR := aK hr
 have HCR := aK hcr
 have HCK := aK hv
 have HV0 := aK hv0
 have b0 : (v != 0) = true := bne_iff_ne.mpr hv0
 have b1 : (v == 0) = false := beq_eq_false_iff_ne.mpr hv0
 clear hu hcu hr hcr hv hv0
 go_enter Tryd.func8, Tryd.ntmps8
 go_wp2_with (first
  | ((with_reducible refine gate_dst (N := 2) rfl ?_); refine box_event (N := 2) rfl rfl (cs := #[.slice Au us.length cu, .slice Ar rs.length cr]) (t := 25) ?hr2 ?_; (case hr2 => first | (go_simp; done) | (go_simp; rfl)); intro g2 hg2 w2 hbox hb2; have H2 := aK (show RowAt w2 g2 25 [.slice Au us.length cu, .slice Ar rs.length cr] from ⟨_, hbox, rfl⟩); have HG2 := aK (show w0.heap.size ≤ g2 by rw [hg2]; exact Nat.le_refl _); have HW := aK hb2; clear hbox hb2 hg2)
  | ((with_reducible refine gate_dst (N := 4) rfl ?_); refine box_event (N := 4) rfl rfl (cs := #[.slice none 0 0, .int .i64 0]) (t := 29) ?hr2 ?_; (case hr2 => first | (go_simp; done) | (go_simp; rfl)); intro g4 hg4 w3 hbox hb3; have H4 := aK (show RowAt w3 g4 29 [.slice none 0 0, .int .i64 0] from ⟨_, hbox, rfl⟩); have HG4 := aK (show w0.heap.size ≤ g4 ∧ g2 < g4 by rw [hg4]; exact ⟨HW.out.size, H2.out.lt⟩); have n1_ := aK (H2.out.below hb3); have n2_ := aK (below_step HW.out hb3); clear H2 HW hbox hb3 hg4; have H2 := n1_; have HW := n2_; clear n1_ n2_)
  | ((with_reducible refine gate_dst (N := 5) rfl ?_); refine box_event (N := 5) rfl rfl (cs := #[.int .i64 0, .int .i64 0]) (t := 32) ?hr2 ?_; (case hr2 => first | (go_simp; done) | (go_simp; rfl)); intro g5 hg5 w4 hbox hb4; have H5 := aK (show RowAt w4 g5 32 [.int .i64 0, .int .i64 0] from ⟨_, hbox, rfl⟩); have HG := aK (show BG w0 g2 g4 g5 by rw [hg5]; exact ⟨HG2.out, HG4.out.1, HW.out.size, by have := HG4.out; omega, by have := H2.out.lt; omega, by have := H4.out.lt; omega⟩); have HS : Aside0 (BS w0 w4 us rs Au Ar cu cr g2 g4 g5) := ⟨⟨H2.out.below hb4, H4.out.below hb4, H5.out, below_step HW.out hb4⟩⟩; clear H2 H4 H5 HG2 HG4 HW hbox hb4 hg5; have x0 : w4.cell? ⟨g2, 0, none⟩ = some (.slice Au us.length cu) := HS.out.gi.cell 0; have x1 : w4.cell? ⟨g2, 1, none⟩ = some (.slice Ar rs.length cr) := HS.out.gi.cell 1)
  | (go_at_call 16; obtain ⟨kk, hk⟩ := HCK.out; have hcall := script_Check.calls kk Au cu us Ar cr rs v w4 (Kd.C_below HU.out HS.out.below) HCU.out (Kd.C_below HR.out HS.out.below) HCR.out (hk kk (Nat.le_refl _)); (with_reducible refine hcall.mono ?_); clear hcall; rintro e w5 ⟨rfl, hb5⟩; have n1_ := aK (HS.out.next hb5); clear HS x0 x1 hb5 hk; have HS := n1_; clear n1_; have x0 : w5.cell? ⟨g2, 0, none⟩ = some (.slice Au us.length cu) := HS.out.gi.cell 0; have x1 : w5.cell? ⟨g2, 1, none⟩ = some (.slice Ar rs.length cr) := HS.out.gi.cell 1)
  | ((with_reducible refine gate_store (t := 29) (p := 4) rfl ?_); refine put_event rfl rfl 29 (.tmp 4) (.tmp 27) rfl (g := g4) (off := 0) (u := .agg #[.slice none 0 0, .int .i64 0]) (seg := [.slice none 0 0, .int .i64 0]) rfl rfl HS.out.c4 rfl (by kernel_rfl) (Nat.le_refl _) (by simp [Value.oneCell']) ?_; intro wa hrow hg; have n1_ := aK (HS.out.put4 HG.out hrow hg); clear HS hrow hg; have HS := n1_; clear n1_)
  | ((with_reducible refine gate_store (t := 32) (p := 5) rfl ?_); refine put_event rfl rfl 32 (.tmp 5) (.tmp 28) rfl (g := g5) (off := 0) (u := .agg #[.int .i64 (0), .int .i64 (6)]) (seg := [.int .i64 (0), .int .i64 (6)]) rfl rfl HS.out.c5 rfl (by kernel_rfl) (Nat.le_refl _) (by simp [Value.oneCell']) ?_; intro wb hrow hg; have H5 := aK (show RowAt wb g5 32 [.int .i64 (0), .int .i64 (6)] from hrow); have H4 := aK (HS.out.c4.grown hg (by have := HG.out.h45; simp; omega)); have HW := aK (pw_below_grown HS.out.below _ HS.out.below.size hg (fun k hk => by cases hk; exact HG.out.b5)); clear HS hrow hg; have z0 : wb.cell? ⟨g4, 0, none⟩ = some (.slice none 0 0) := H4.out.cell 0; have z1 : wb.cell? ⟨g4, 1, none⟩ = some (.int .i64 0) := H4.out.cell 1; have z2 : wb.cell? ⟨g5, 0, none⟩ = some (.int .i64 (0)) := H5.out.cell 0; have z3 : wb.cell? ⟨g5, 1, none⟩ = some (.int .i64 (6)) := H5.out.cell 1))
 refine bodyPost_ret (v := .tuple #[.agg #[.slice none 0 0, .int .i64 0], .agg #[.int .i64 (0), .int .i64 (6)]]) (by simp [results, Tryd.results8, go_sem, z0, z1, z2, z3]) rfl ?_
 exact ⟨BuildE.fault (.shape v HCK.out HV0.out), HW.out⟩
set_option maxHeartbeats 8000000 in
set_option maxRecDepth 100000 in
theorem build_params (hu : Kd.C kEU w0 Au us.length us) (hcu : us.length ≤ cu) (hr : Kd.C kER w0 Ar rs.length rs) (hcr : rs.length ≤ cr) (hv : Ev (fun k => script_Check.f k us rs) 0) (hf : Ev (fun k => macro_Flat.f k us rs) false) :
  Calls Tryd.prog 8 #[.agg #[.slice Au us.length cu, .slice Ar rs.length cr], .string start] w0 fun e w' => BuildE w0 w' us rs start ts e ∧ Below w0.heap.size w0 w' := by
 have HU := aK hu
 have HCU := aK hcu
 have HR := aK hr
 have HCR := aK hcr
 obtain ⟨v, hve⟩ : ∃ v : Int, v = 0 := ⟨_, rfl⟩
 rw [← hve] at hv
 have HCK := aK hv
 have HFL := aK hf
 have HVE := aK hve
 have b0 : (v != 0) = false := by rw [hve]; rfl
 have b1 : (v == 0) = true := by rw [hve]; rfl
 clear hu hcu hr hcr hv hf hve
 go_enter Tryd.func8, Tryd.ntmps8
 go_wp2_with (first
  | ((with_reducible refine gate_dst (N := 2) rfl ?_); refine box_event (N := 2) rfl rfl (cs := #[.slice Au us.length cu, .slice Ar rs.length cr]) (t := 25) ?hr2 ?_; (case hr2 => first | (go_simp; done) | (go_simp; rfl)); intro g2 hg2 w2 hbox hb2; have H2 := aK (show RowAt w2 g2 25 [.slice Au us.length cu, .slice Ar rs.length cr] from ⟨_, hbox, rfl⟩); have HG2 := aK (show w0.heap.size ≤ g2 by rw [hg2]; exact Nat.le_refl _); have HW := aK hb2; clear hbox hb2 hg2)
  | ((with_reducible refine gate_dst (N := 4) rfl ?_); refine box_event (N := 4) rfl rfl (cs := #[.slice none 0 0, .int .i64 0]) (t := 29) ?hr2 ?_; (case hr2 => first | (go_simp; done) | (go_simp; rfl)); intro g4 hg4 w3 hbox hb3; have H4 := aK (show RowAt w3 g4 29 [.slice none 0 0, .int .i64 0] from ⟨_, hbox, rfl⟩); have HG4 := aK (show w0.heap.size ≤ g4 ∧ g2 < g4 by rw [hg4]; exact ⟨HW.out.size, H2.out.lt⟩); have n1_ := aK (H2.out.below hb3); have n2_ := aK (below_step HW.out hb3); clear H2 HW hbox hb3 hg4; have H2 := n1_; have HW := n2_; clear n1_ n2_)
  | ((with_reducible refine gate_dst (N := 5) rfl ?_); refine box_event (N := 5) rfl rfl (cs := #[.int .i64 0, .int .i64 0]) (t := 32) ?hr2 ?_; (case hr2 => first | (go_simp; done) | (go_simp; rfl)); intro g5 hg5 w4 hbox hb4; have H5 := aK (show RowAt w4 g5 32 [.int .i64 0, .int .i64 0] from ⟨_, hbox, rfl⟩); have HG := aK (show BG w0 g2 g4 g5 by rw [hg5]; exact ⟨HG2.out, HG4.out.1, HW.out.size, by have := HG4.out; omega, by have := H2.out.lt; omega, by have := H4.out.lt; omega⟩); have HS : Aside0 (BS w0 w4 us rs Au Ar cu cr g2 g4 g5) := ⟨⟨H2.out.below hb4, H4.out.below hb4, H5.out, below_step HW.out hb4⟩⟩; clear H2 H4 H5 HG2 HG4 HW hbox hb4 hg5; have x0 : w4.cell? ⟨g2, 0, none⟩ = some (.slice Au us.length cu) := HS.out.gi.cell 0; have x1 : w4.cell? ⟨g2, 1, none⟩ = some (.slice Ar rs.length cr) := HS.out.gi.cell 1)
  | (go_at_call 16; obtain ⟨kk, hk⟩ := HCK.out; have hcall := script_Check.calls kk Au cu us Ar cr rs v w4 (Kd.C_below HU.out HS.out.below) HCU.out (Kd.C_below HR.out HS.out.below) HCR.out (hk kk (Nat.le_refl _)); (with_reducible refine hcall.mono ?_); clear hcall; rintro e w5 ⟨rfl, hb5⟩; have n1_ := aK (HS.out.next hb5); clear HS x0 x1 hb5 hk; have HS := n1_; clear n1_; have x0 : w5.cell? ⟨g2, 0, none⟩ = some (.slice Au us.length cu) := HS.out.gi.cell 0; have x1 : w5.cell? ⟨g2, 1, none⟩ = some (.slice Ar rs.length cr) := HS.out.gi.cell 1)
  | (go_at_call 17; obtain ⟨kk, hk⟩ := HFL.out; have hcall := macro_Flat.calls kk Au cu us Ar cr rs false w5 (Kd.C_below HU.out HS.out.below) HCU.out (Kd.C_below HR.out HS.out.below) HCR.out (hk kk (Nat.le_refl _)); (with_reducible refine hcall.mono ?_); clear hcall; rintro e w6 ⟨rfl, hb5⟩; have n1_ := aK (HS.out.next hb5); clear HS x0 x1 hb5 hk; have HS := n1_; clear n1_; have x0 : w6.cell? ⟨g2, 0, none⟩ = some (.slice Au us.length cu) := HS.out.gi.cell 0; have x1 : w6.cell? ⟨g2, 1, none⟩ = some (.slice Ar rs.length cr) := HS.out.gi.cell 1)
  | ((with_reducible refine gate_store (t := 29) (p := 4) rfl ?_); refine put_event rfl rfl 29 (.tmp 4) (.tmp 32) rfl (g := g4) (off := 0) (u := .agg #[.slice none 0 0, .int .i64 0]) (seg := [.slice none 0 0, .int .i64 0]) rfl rfl HS.out.c4 rfl (by kernel_rfl) (Nat.le_refl _) (by simp [Value.oneCell']) ?_; intro wa hrow hg; have n1_ := aK (HS.out.put4 HG.out hrow hg); clear HS hrow hg; have HS := n1_; clear n1_)
  | ((with_reducible refine gate_store (t := 32) (p := 5) rfl ?_); refine put_event rfl rfl 32 (.tmp 5) (.tmp 33) rfl (g := g5) (off := 0) (u := .agg #[.int .i64 (0), .int .i64 (80)]) (seg := [.int .i64 (0), .int .i64 (80)]) rfl rfl HS.out.c5 rfl (by kernel_rfl) (Nat.le_refl _) (by simp [Value.oneCell']) ?_; intro wb hrow hg; have H5 := aK (show RowAt wb g5 32 [.int .i64 (0), .int .i64 (80)] from hrow); have H4 := aK (HS.out.c4.grown hg (by have := HG.out.h45; simp; omega)); have HW := aK (pw_below_grown HS.out.below _ HS.out.below.size hg (fun k hk => by cases hk; exact HG.out.b5)); clear HS hrow hg; have z0 : wb.cell? ⟨g4, 0, none⟩ = some (.slice none 0 0) := H4.out.cell 0; have z1 : wb.cell? ⟨g4, 1, none⟩ = some (.int .i64 0) := H4.out.cell 1; have z2 : wb.cell? ⟨g5, 0, none⟩ = some (.int .i64 (0)) := H5.out.cell 0; have z3 : wb.cell? ⟨g5, 1, none⟩ = some (.int .i64 (80)) := H5.out.cell 1))
 refine bodyPost_ret (v := .tuple #[.agg #[.slice none 0 0, .int .i64 0], .agg #[.int .i64 (0), .int .i64 (80)]]) (by simp [results, Tryd.results8, go_sem, z0, z1, z2, z3]) rfl ?_
 exact ⟨BuildE.fault (.params HFL.out), HW.out⟩
end
end Go.Proofs.YtihiicjnjhideaaDoor.Build
end
