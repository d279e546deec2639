/- Parts of the proof of packBack and packOne and packCuts and packSpoilt and packSmall: BackWalk. No condition beyond each lemma's own. -/
import Derived.Test.YtebiogaacikphaaTQ22
section
namespace Go.Proofs.Ytebiogaacikphaa.Pack
open Go.RowKit Go.Proofs.YtebiogaacikphaaW.PrintWords Go.Proofs.Ytebiogaacikphaa.PAll Go.Proofs.Ytebiogaacikphaa.Names
set_option linter.unusedVariables false
set_option linter.unusedSimpArgs false
set_option linter.unnecessarySimpa false
section
variable (A : Option Addr) (c : Nat) (l : List Ins) (w : World)
set_option maxHeartbeats 8000000 in
set_option maxRecDepth 100000 in
theorem back_row (hr : Kd.C k78 w A l.length l) (hc : l.length ≤ c) (hok : InssOk l) :
    Calls Try.prog 9 #[.slice A l.length c] w fun e w' => e = .returned (.bool true) ∧ Below w.heap.size w w' := by
  have HR := Aside0.mk hr
  have HC := Aside0.mk hc
  have HOK := Aside0.mk hok
  have HSS := Aside0.mk (fun x hx => (hok.2 x hx).2)
  have HL47 := Aside0.mk (show l.length ≤ 140737488351232 by have := hok.1; omega)
  have HMAX := Aside0.mk (show l.length ≤ 9223372036854775807 by have := hok.1; omega)
  clear hr hc hok
  by_cases c0 : 65545 < l.length
  · have k0 : decide ((l.length : Int) > 65545) = true := decide_eq_true (by omega)
    clear c0
    go_enter Try.func9, Try.ntmps9
    go_wp2_with (first
      | (go_at_call 40; have hcall := works_calls w; (with_reducible refine hcall.mono ?_); clear hcall; rintro xx w2 ⟨rfl, hb⟩; have HB := Aside0.mk hb; clear hb))
    go_ret
    exact ⟨rfl, HB.out⟩
  · have k0 : decide ((l.length : Int) > 65545) = false := decide_eq_false (by omega)
    have HL := Aside0.mk (show l.length ≤ 16777216 by omega)
    clear c0
    obtain ⟨f0, f1, hf⟩ : ∃ f0 f1, checkL l = (f0, f1) := ⟨_, _, rfl⟩
    by_cases hbad : f1 = 0
    · obtain ⟨rfl, rfl⟩ : f0 = 0 ∧ f1 = 0 := by
        have := check_zero (l := l) (by rw [hf]; exact hbad)
        rw [hf] at this
        injection this with h1 h2
        exact ⟨h1, h2⟩
      have HF := Aside0.mk hf
      clear hf hbad
      by_cases c5 : 4194304 < (encodeE l).length
      · have HLEN := Aside0.mk c5
        clear c5
        go_enter Try.func9, Try.ntmps9
        go_wp2_with (first
          | (go_at_call 40; have hcall := works_calls w; (with_reducible refine hcall.mono ?_); clear hcall; rintro xx w2 ⟨rfl, hb⟩; have HB := Aside0.mk hb; clear hb)
          | (go_at_call 34; have hcall := lendInss_calls _ A c l (Kd.C_below HR.out HB.out) HC.out HL.out; (with_reducible refine hcall.mono ?_); clear hcall; rintro xx w5 ⟨g1, rfl, hrow, hb, hge⟩; have n2_ := Aside0.mk (below_step HX.out hb); have HROW := Aside0.mk (ins_row hrow HMAX.out); have n1_ := Aside0.mk (below_step HB.out hb); clear HB HX hb hrow hge; have HB := n1_; have HX := n2_; clear n1_ n2_)
          | (go_at_call 34; have hcall := lendInss_calls _ A c l (Kd.C_below HR.out HB.out) HC.out HL.out; (with_reducible refine hcall.mono ?_); clear hcall; rintro xx w3 ⟨g1, rfl, hrow, hb, hge⟩; have HROW := Aside0.mk (ins_row hrow HMAX.out); have n1_ := Aside0.mk (below_step HB.out hb); clear HB hb hrow hge; have HB := n1_; clear n1_)
          | (go_at_call 35; have hcall := encode_calls (some ⟨g1, 0, none⟩) (l.length + 2) l _ HROW.out (by omega) HL47.out HSS.out; (with_reducible refine hcall.mono ?_); clear hcall; rintro xx w4 ⟨he, hb⟩; obtain rfl := enc_large he HF.out HLEN.out; have n1_ := Aside0.mk (below_step HB.out hb); clear HB he hb; have HB := n1_; clear n1_; have HX := Aside0.mk (Below.refl w4.heap.size w4))
          | (go_at_call 41; have hcall := check_calls (some ⟨g1, 0, none⟩) (l.length + 2) l _ HROW.out (by omega) HL47.out HSS.out _ HF.out; (with_reducible refine hcall.mono ?_); clear hcall; rintro xx w6 ⟨rfl, hb⟩; have n2_ := Aside0.mk (below_step HX.out hb); have n1_ := Aside0.mk (below_step HB.out hb); clear HB HX hb; have HB := n1_; have HX := n2_; clear n1_ n2_)
          | ((with_reducible refine gate_dst (N := 5) rfl ?_); refine box_event (N := 5) rfl rfl (cs := #[.int .i64 0, .int .i64 0]) (t := 42) ?hr2 ?_; (case hr2 => first | (go_simp; done) | (go_simp; rfl)); intro g5 hg w7 hbox hb; have H5 := Aside0.mk (show RowAt w7 g5 42 [.int .i64 0, .int .i64 0] from ⟨_, hbox, rfl⟩); have HG5 := Aside0.mk (show w4.heap.size ≤ g5 ∧ w.heap.size ≤ g5 by have := HX.out.size; have := HB.out.size; omega); have n2_ := Aside0.mk (below_step HX.out hb); have n1_ := Aside0.mk (below_step HB.out hb); clear HB HX hbox hb hg; have HB := n1_; have HX := n2_; clear n1_ n2_)
          | (((with_reducible refine gate_store (t := 42) (p := 5) rfl ?_); refine put_event rfl rfl 42 (.tmp 5) (.tmp 21) rfl (off := 0) (u := .agg #[.int .i64 (0), .int .i64 (0)]) (seg := [.int .i64 (0), .int .i64 (0)]) rfl rfl H5.out rfl (by kernel_rfl) (by simp) (by simp [Value.oneCell']) ?_; intro w8 hrow hgr; have n1_ := Aside0.mk (pw_below_grown HB.out (some g5) HB.out.size hgr (fun k hk => by injection hk with hk; have := HG5.out; omega)); have n2_ := Aside0.mk (pw_below_grown HX.out (some g5) HX.out.size hgr (fun k hk => by injection hk with hk; have := HG5.out; omega)); have n3_ := Aside0.mk (show RowAt w8 g5 42 [.int .i64 (0), .int .i64 (0)] from hrow); clear HB HX H5 hrow; have HB := n1_; have HX := n2_; have H5 := n3_; clear n1_ n2_ n3_); have z1 := H5.out.cell 1; simp only [List.getElem?_cons_succ, List.getElem?_cons_zero] at z1))
        go_ret
        exact ⟨rfl, HB.out⟩
      · have HLEN := Aside0.mk (show (encodeE l).length ≤ 4194304 by omega)
        have hd := decode_right HF.out HOK.out HLEN.out
        obtain ⟨b, hb⟩ : ∃ b, encodeE l = b := ⟨_, rfl⟩
        have HBB := Aside0.mk hb
        rw [hb] at hd
        have HDEC := Aside0.mk hd.1
        have HBY := Aside0.mk hd.2.1
        have HBL := Aside0.mk (show b.length ≤ 140737488351232 by rw [← hb]; have := HLEN.out; omega)
        clear c5 hd hb
        go_enter Try.func9, Try.ntmps9
        go_wp2_with (first
          | (go_at_call 40; have hcall := works_calls w; (with_reducible refine hcall.mono ?_); clear hcall; rintro xx w2 ⟨rfl, hb⟩; have HB := Aside0.mk hb; clear hb)
          | (go_at_call 34; have hcall := lendInss_calls _ A c l (Kd.C_below HR.out HB.out) HC.out HL.out; (with_reducible refine hcall.mono ?_); clear hcall; rintro xx w5 ⟨g1, rfl, hrow, hb, hge⟩; have n2_ := Aside0.mk (below_step HX.out hb); have HROW := Aside0.mk (ins_row hrow HMAX.out); have n1_ := Aside0.mk (below_step HB.out hb); clear HB HX hb hrow hge; have HB := n1_; have HX := n2_; clear n1_ n2_)
          | (go_at_call 34; have hcall := lendInss_calls _ A c l (Kd.C_below HR.out HB.out) HC.out HL.out; (with_reducible refine hcall.mono ?_); clear hcall; rintro xx w3 ⟨g1, rfl, hrow, hb, hge⟩; have HROW := Aside0.mk (ins_row hrow HMAX.out); have n1_ := Aside0.mk (below_step HB.out hb); clear HB hb hrow hge; have HB := n1_; clear n1_)
          | (go_at_call 35; have hcall := encode_calls (some ⟨g1, 0, none⟩) (l.length + 2) l _ HROW.out (by omega) HL47.out HSS.out; (with_reducible refine hcall.mono ?_); clear hcall; rintro xx w4 ⟨he, hb⟩; obtain ⟨vb, rfl, hown⟩ := enc_ok he HF.out HLEN.out; rw [HBB.out] at hown; obtain ⟨Ab, cb, rfl, hcb, hrb⟩ := bytes_get hown; have HOWN := Aside0.mk hown; have HCB := Aside0.mk hcb; have HRB := Aside0.mk hrb; have n1_ := Aside0.mk (below_step HB.out hb); clear HB he hb hown hcb hrb; have HB := n1_; clear n1_; have HX := Aside0.mk (Below.refl w4.heap.size w4))
          | (go_at_call 41; have hcall := check_calls (some ⟨g1, 0, none⟩) (l.length + 2) l _ HROW.out (by omega) HL47.out HSS.out _ HF.out; (with_reducible refine hcall.mono ?_); clear hcall; rintro xx w6 ⟨rfl, hb⟩; have n2_ := Aside0.mk (below_step HX.out hb); have n1_ := Aside0.mk (below_step HB.out hb); clear HB HX hb; have HB := n1_; have HX := n2_; clear n1_ n2_)
          | ((with_reducible refine gate_dst (N := 5) rfl ?_); refine box_event (N := 5) rfl rfl (cs := #[.int .i64 0, .int .i64 0]) (t := 42) ?hr2 ?_; (case hr2 => first | (go_simp; done) | (go_simp; rfl)); intro g5 hg w7 hbox hb; have H5 := Aside0.mk (show RowAt w7 g5 42 [.int .i64 0, .int .i64 0] from ⟨_, hbox, rfl⟩); have HG5 := Aside0.mk (show w4.heap.size ≤ g5 ∧ w.heap.size ≤ g5 by have := HX.out.size; have := HB.out.size; omega); have n2_ := Aside0.mk (below_step HX.out hb); have n1_ := Aside0.mk (below_step HB.out hb); clear HB HX hbox hb hg; have HB := n1_; have HX := n2_; clear n1_ n2_)
          | ((with_reducible refine gate_store (t := 42) (p := 5) rfl ?_); refine put_event rfl rfl 42 (.tmp 5) (.tmp 21) rfl (off := 0) (u := .agg #[.int .i64 (0), .int .i64 (0)]) (seg := [.int .i64 (0), .int .i64 (0)]) rfl rfl H5.out rfl (by kernel_rfl) (by simp) (by simp [Value.oneCell']) ?_; intro w8 hrow hgr; have n1_ := Aside0.mk (pw_below_grown HB.out (some g5) HB.out.size hgr (fun k hk => by injection hk with hk; have := HG5.out; omega)); have n2_ := Aside0.mk (pw_below_grown HX.out (some g5) HX.out.size hgr (fun k hk => by injection hk with hk; have := HG5.out; omega)); have n3_ := Aside0.mk (show RowAt w8 g5 42 [.int .i64 (0), .int .i64 (0)] from hrow); clear HB HX H5 hrow; have HB := n1_; have HX := n2_; have H5 := n3_; clear n1_ n2_ n3_)
          | (go_at_call 23; have hcall := decode_calls _ Ab cb b (Kd.C_below HRB.out HX.out) HCB.out HBL.out HBY.out _ HDEC.out; (with_reducible refine hcall.mono ?_); clear hcall; rintro xx w9 ⟨⟨vq, rfl, hq⟩, hb⟩; obtain ⟨Aq, cq, rfl, hcq, hrq⟩ := ins_reads hq HMAX.out; have HCQ := Aside0.mk hcq; have HRQ := Aside0.mk hrq; have n1_ := Aside0.mk (below_step HB.out hb); have n2_ := Aside0.mk (H5.out.below hb); clear HB HX H5 hb hq hcq hrq; have HB := n1_; have H5 := n2_; clear n1_ n2_; have HX := Aside0.mk (Below.refl w9.heap.size w9))
          | ((with_reducible refine gate_dst (N := 7) rfl ?_); refine box_event (N := 7) rfl rfl (cs := #[.int .i64 0, .int .i64 0]) (t := 42) ?hr2 ?_; (case hr2 => first | (go_simp; done) | (go_simp; rfl)); intro g7 hg w10 hbox hb; have H7 := Aside0.mk (show RowAt w10 g7 42 [.int .i64 0, .int .i64 0] from ⟨_, hbox, rfl⟩); have HG7 := Aside0.mk (show w9.heap.size ≤ g7 ∧ w.heap.size ≤ g7 ∧ g5 < g7 by have := HX.out.size; have := HB.out.size; have := H5.out.lt; omega); have n2_ := Aside0.mk (below_step HX.out hb); have n1_ := Aside0.mk (below_step HB.out hb); have n3_ := Aside0.mk (H5.out.below hb); clear HB HX H5 hbox hb hg; have HB := n1_; have HX := n2_; have H5 := n3_; clear n1_ n2_ n3_)
          | (((with_reducible refine gate_store (t := 42) (p := 7) rfl ?_); refine put_event rfl rfl 42 (.tmp 7) (.tmp 46) rfl (off := 0) (u := .agg #[.int .i64 (0), .int .i64 (0)]) (seg := [.int .i64 (0), .int .i64 (0)]) rfl rfl H7.out rfl (by kernel_rfl) (by simp) (by simp [Value.oneCell']) ?_; intro w8 hrow hgr; have n1_ := Aside0.mk (pw_below_grown HB.out (some g7) HB.out.size hgr (fun k hk => by injection hk with hk; have := HG7.out; omega)); have n2_ := Aside0.mk (pw_below_grown HX.out (some g7) HX.out.size hgr (fun k hk => by injection hk with hk; have := HG7.out; omega)); have n3_ := Aside0.mk (show RowAt w8 g7 42 [.int .i64 (0), .int .i64 (0)] from hrow); clear HB HX H7 hrow; have HB := n1_; have HX := n2_; have H7 := n3_; clear n1_ n2_ n3_); have n3_ := Aside0.mk (H5.out.grown hgr (by have := HG7.out; simp; omega)); clear H5; have H5 := n3_; clear n3_; have z0 := H5.out.cell 0; have z1 := H5.out.cell 1; have y0 := H7.out.cell 0; have y1 := H7.out.cell 1; simp only [List.getElem?_cons_succ, List.getElem?_cons_zero] at z0 z1 y0 y1)
          | (go_at_call 26; have hcall := inss_lit A c Aq cq l _ (Kd.C_below HR.out HB.out) HC.out (Kd.C_below HRQ.out HX.out) HCQ.out HL47.out; (with_reducible refine hcall.mono ?_); clear hcall; rintro xx w11 ⟨rfl, hd⟩; have n1_ := Aside0.mk (below_step HB.out hd.below); clear HB hd; have HB := n1_; clear n1_))
        go_ret
        exact ⟨rfl, HB.out⟩
    · have HF := Aside0.mk hf
      have HBAD := Aside0.mk hbad
      have b0 : (f1 != 0) = true := by simpa using hbad
      clear hf hbad
      go_enter Try.func9, Try.ntmps9
      go_wp2_with (first
        | (go_at_call 40; have hcall := works_calls w; (with_reducible refine hcall.mono ?_); clear hcall; rintro xx w2 ⟨rfl, hb⟩; have HB := Aside0.mk hb; clear hb)
        | (go_at_call 34; have hcall := lendInss_calls _ A c l (Kd.C_below HR.out HB.out) HC.out HL.out; (with_reducible refine hcall.mono ?_); clear hcall; rintro xx w5 ⟨g1, rfl, hrow, hb, hge⟩; have n2_ := Aside0.mk (below_step HX.out hb); have HROW := Aside0.mk (ins_row hrow HMAX.out); have n1_ := Aside0.mk (below_step HB.out hb); clear HB HX hb hrow hge; have HB := n1_; have HX := n2_; clear n1_ n2_)
        | (go_at_call 34; have hcall := lendInss_calls _ A c l (Kd.C_below HR.out HB.out) HC.out HL.out; (with_reducible refine hcall.mono ?_); clear hcall; rintro xx w3 ⟨g1, rfl, hrow, hb, hge⟩; have HROW := Aside0.mk (ins_row hrow HMAX.out); have n1_ := Aside0.mk (below_step HB.out hb); clear HB hb hrow hge; have HB := n1_; clear n1_)
        | (go_at_call 35; have hcall := encode_calls (some ⟨g1, 0, none⟩) (l.length + 2) l _ HROW.out (by omega) HL47.out HSS.out; (with_reducible refine hcall.mono ?_); clear hcall; rintro xx w4 ⟨he, hb⟩; obtain rfl := enc_bad he HF.out HBAD.out; have n1_ := Aside0.mk (below_step HB.out hb); clear HB he hb; have HB := n1_; clear n1_; have HX := Aside0.mk (Below.refl w4.heap.size w4))
        | (go_at_call 41; have hcall := check_calls (some ⟨g1, 0, none⟩) (l.length + 2) l _ HROW.out (by omega) HL47.out HSS.out _ HF.out; (with_reducible refine hcall.mono ?_); clear hcall; rintro xx w6 ⟨rfl, hb⟩; have n2_ := Aside0.mk (below_step HX.out hb); have n1_ := Aside0.mk (below_step HB.out hb); clear HB HX hb; have HB := n1_; have HX := n2_; clear n1_ n2_)
        | ((with_reducible refine gate_dst (N := 5) rfl ?_); refine box_event (N := 5) rfl rfl (cs := #[.int .i64 0, .int .i64 0]) (t := 42) ?hr2 ?_; (case hr2 => first | (go_simp; done) | (go_simp; rfl)); intro g5 hg w7 hbox hb; have H5 := Aside0.mk (show RowAt w7 g5 42 [.int .i64 0, .int .i64 0] from ⟨_, hbox, rfl⟩); have HG5 := Aside0.mk (show w4.heap.size ≤ g5 ∧ w.heap.size ≤ g5 by have := HX.out.size; have := HB.out.size; omega); have n2_ := Aside0.mk (below_step HX.out hb); have n1_ := Aside0.mk (below_step HB.out hb); clear HB HX hbox hb hg; have HB := n1_; have HX := n2_; clear n1_ n2_)
        | (((with_reducible refine gate_store (t := 42) (p := 5) rfl ?_); refine put_event rfl rfl 42 (.tmp 5) (.tmp 21) rfl (off := 0) (u := .agg #[.int .i64 (f0), .int .i64 (f1)]) (seg := [.int .i64 (f0), .int .i64 (f1)]) rfl rfl H5.out rfl (by kernel_rfl) (by simp) (by simp [Value.oneCell']) ?_; intro w8 hrow hgr; have n1_ := Aside0.mk (pw_below_grown HB.out (some g5) HB.out.size hgr (fun k hk => by injection hk with hk; have := HG5.out; omega)); have n2_ := Aside0.mk (pw_below_grown HX.out (some g5) HX.out.size hgr (fun k hk => by injection hk with hk; have := HG5.out; omega)); have n3_ := Aside0.mk (show RowAt w8 g5 42 [.int .i64 (f0), .int .i64 (f1)] from hrow); clear HB HX H5 hrow; have HB := n1_; have HX := n2_; have H5 := n3_; clear n1_ n2_ n3_); have z1 := H5.out.cell 1; simp only [List.getElem?_cons_succ, List.getElem?_cons_zero] at z1))
      go_ret
      exact ⟨rfl, HB.out⟩
end
end Go.Proofs.Ytebiogaacikphaa.Pack
end
