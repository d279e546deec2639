/- Parts of the proof of packBack and packOne and packCuts and packSpoilt and packSmall: OneWalk. No condition beyond each lemma's own. -/
import Derived.Test.YtebiogaacikphaaTQ20
import Derived.Test.YtebiogaacikphaaTQ26
section
namespace Go.Proofs.Ytebiogaacikphaa.Pack
open Go.RowKit Go.Proofs.YtebiogaacikphaaW.PrintWords Go.Proofs.Ytebiogaacikphaa.PAll Go.Proofs.Ytebiogaacikphaa.Names
set_option linter.unusedVariables false
set_option linter.unusedSimpArgs false
set_option linter.unnecessarySimpa false
theorem forge_two {b m : List Int} (h : m = magicL ++ b) : m ++ [crcL m % 256, crcL m / 256 % 256, crcL m / 65536 % 256, crcL m / 16777216 % 256] = forge b := by
  rw [nums_leN _ (by have := crc_range m; omega), h]
  rfl
section
variable (A : Option Addr) (c : Nat) (b : List Int) (w : World)
set_option maxHeartbeats 8000000 in
set_option maxRecDepth 100000 in
theorem one_row (hr : Kd.C (Kd.int .u8) w A b.length b) (hc : b.length ≤ c) (hok : BytesOk b) :
    Calls Try.prog 10 #[.slice A b.length c] w fun e w' => e = .returned (.bool true) ∧ Below w.heap.size w w' := by
  have HR := Aside0.mk hr
  have HC := Aside0.mk hc
  by_cases big : 4194304 < b.length
  · have k0 : decide ((b.length : Int) > 4194304) = true := decide_eq_true (by omega)
    clear big hr hc hok
    go_enter Try.func10, Try.ntmps10
    go_wp2_with (first
      | (go_at_call 40; have hcall := works_calls w; (with_reducible refine hcall.mono ?_); clear hcall; rintro xx wk ⟨rfl, hb⟩; have HOWN := Aside0.mk (World.ownsRow_lit (base := w.heap.size) (e := 5) (size := 1) wk #[.int .u8 100, .int .u8 111, .int .u8 119, .int .u8 108, .int .u8 1] 5 hb.size (by decide) rfl); have HRD := Aside0.mk (bytes_ReadsInt (Kd.C_below (Kd.C_below HR.out hb) (below_alloc (Below.refl wk.heap.size wk) (.cells #[.int .u8 100, .int .u8 111, .int .u8 119, .int .u8 108, .int .u8 1] 5 (0, 0))))); have HB0 := Aside0.mk hb; clear hb))
    go_ret
    exact ⟨rfl, HB0.out⟩
  · have k0 : decide ((b.length : Int) > 4194304) = false := decide_eq_false (by omega)
    have HL := Aside0.mk (show b.length ≤ 4194304 by omega)
    have HFB := Aside0.mk (forge_bytes hok.2)
    obtain ⟨res, hres⟩ : ∃ res, decodeL (forge b) = res := ⟨_, rfl⟩
    have HRES := Aside0.mk hres
    clear big hr hc hok
    cases res with
    | error f =>
      obtain ⟨f0, f1⟩ := f
      have hf := forge_err hres
      have b1 : (f1 == 0) = false := by simpa using hf.1
      have b2 : (f1 != 0) = true := by simpa using hf.1
      have b3 : decide (f0 ≥ 0) = true := decide_eq_true hf.2.1
      have b4 : decide (f0 < ((forge b).length : Int)) = true := decide_eq_true hf.2.2.1
      have b5 : (f1 != 202) = true := by simpa using hf.2.2.2.1
      have b6 : (f1 != 203) = true := by simpa using hf.2.2.2.2
      clear hres hf
      go_enter Try.func10, Try.ntmps10
      go_wp2_with (first
        | (go_at_call 40; have hcall := works_calls w; (with_reducible refine hcall.mono ?_); clear hcall; rintro xx wk ⟨rfl, hb⟩; have HOWN := Aside0.mk (World.ownsRow_lit (base := w.heap.size) (e := 5) (size := 1) wk #[.int .u8 100, .int .u8 111, .int .u8 119, .int .u8 108, .int .u8 1] 5 hb.size (by decide) rfl); have HRD := Aside0.mk (bytes_ReadsInt (Kd.C_below (Kd.C_below HR.out hb) (below_alloc (Below.refl wk.heap.size wk) (.cells #[.int .u8 100, .int .u8 111, .int .u8 119, .int .u8 108, .int .u8 1] 5 (0, 0))))); have HB0 := Aside0.mk hb; clear hb)
        | ((with_reducible refine gate_builtin (b := .append) (xs := #[.tmp 14, .tmp 15]) rfl ?_); at_builtin; refine print_append_row w.heap.size rfl (.tmp 14) (.tmp 15) 37 5 .u8 1 rfl Try.underlying37 (by kernel_rfl) (by decide) _ magicL b A b.length c rfl rfl HOWN.out HRD.out (below_step HB0.out (below_alloc (Below.refl _ _) _)) (by have := HB0.out.size; simp; omega) (by show (5 + b.length) * 1 ≤ _; have := HL.out; omega) ?_; intro v1 w1 hown hbel hgr hat; obtain ⟨m, hm⟩ : ∃ m, m = magicL ++ b := ⟨_, rfl⟩; rw [← hm] at hown; obtain ⟨A1, c1, rfl, hc1, hr1⟩ := bytes_reads hown (by rw [hm, List.length_append]; show 5 + _ ≤ _; have := HL.out; omega); have HM := Aside0.mk hm; have HML := Aside0.mk (show m.length = b.length + 5 by rw [hm, List.length_append, Nat.add_comm]; rfl); clear hm; have HB := Aside0.mk hbel; have HC1 := Aside0.mk hc1; have HO1 := Aside0.mk hown; have HR1 := Aside0.mk hr1; clear HOWN HRD HB0 hown hbel hgr hat hc1 hr1)
        | (go_at_call 29; refine (refsum_lit A1 c1 m _ HR1.out HC1.out (by have := HML.out; have := HL.out; omega)).mono ?_; rintro xx w2 ⟨rfl, hd⟩; have HO2 := Aside0.mk (drawn_owns hd HO1.out); have HB2 := Aside0.mk (HB.out.trans (hd.below.mono HB.out.size)); clear HO1 HR1 HB hd)
        | ((with_reducible refine gate_builtin (b := .append) (xs := #[.tmp 19, .tmp 31]) rfl ?_); at_builtin; refine print_append_row w.heap.size rfl (.tmp 19) (.tmp 31) 37 5 .u8 1 rfl Try.underlying37 (by kernel_rfl) (by decide) _ m [crcL m % 256, crcL m / 256 % 256, crcL m / 65536 % 256, crcL m / 16777216 % 256] (some ⟨w2.heap.size, 0, none⟩) 4 4 rfl rfl (HO2.out.alloc _) (lit4_reads w2 _ _ _ _) (below_alloc HB2.out _) (by have := HB2.out.size; simp; omega) (by have := HML.out; have := HL.out; omega) ?_; intro v3 w3 hown hbel hgr hat; rw [forge_two HM.out] at hown; obtain ⟨A3, c3, rfl, hc3, hr3⟩ := bytes_reads hown (by rw [forge_length]; have := HL.out; omega); have HB3 := Aside0.mk hbel; have HC3 := Aside0.mk hc3; have HR3 := Aside0.mk hr3; clear HO2 HB2 hown hbel hgr hat hc3 hr3 HM HML)
        | (go_at_call 22; refine (lend_calls _ A3 c3 (forge b) HR3.out HC3.out (by rw [forge_length]; have := HL.out; omega)).mono ?_; rintro xx w4 ⟨g, rfl, hrow, hb4, hg⟩; have HR4 := Aside0.mk (Kd.C_below HR3.out hb4); have HD4 := Aside0.mk (row_bytes (r := [171, 172]) hrow (by rw [forge_length]; have := HL.out; omega)); have HB4 := Aside0.mk (below_step HB3.out hb4); clear HR3 HB3 hrow hb4 hg)
        | (go_at_call 23; refine (decode_calls _ (some ⟨g, 0, none⟩) ((forge b).length + 2) (forge b) HD4.out (by omega) (by rw [forge_length]; have := HL.out; omega) HFB.out _ HRES.out).mono ?_; rintro xx w5 ⟨hdec, hb5⟩; obtain rfl := (show xx = .returned (.tuple #[.slice none 0 0, .agg #[.int .i64 f0, .int .i64 f1]]) from hdec); have HB := Aside0.mk (below_step HB4.out hb5); have HR5 := Aside0.mk (Kd.C_below HR4.out hb5); clear HR4 HB4 HD4 hdec hb5; have HX := Aside0.mk (Below.refl w5.heap.size w5))
        | ((with_reducible refine gate_dst (N := 6) rfl ?_); refine box_event (N := 6) rfl rfl (cs := #[.int .i64 0, .int .i64 0]) (t := 42) ?hr2 ?_; (case hr2 => first | (go_simp; done) | (go_simp; rfl)); intro g6 hg w7 hbox hb; have H6 := Aside0.mk (show RowAt w7 g6 42 [.int .i64 0, .int .i64 0] from ⟨_, hbox, rfl⟩); have HG6 := Aside0.mk (show w5.heap.size ≤ g6 ∧ w.heap.size ≤ g6 by have := HX.out.size; have := HB.out.size; omega); have n2_ := Aside0.mk (below_step HX.out hb); have n1_ := Aside0.mk (below_step HB.out hb); clear HB HX hbox hb hg; have HB := n1_; have HX := n2_; clear n1_ n2_)
        | ((with_reducible refine gate_store (t := 42) (p := 6) rfl ?_); refine put_event rfl rfl 42 (.tmp 6) (.tmp 38) rfl (off := 0) (u := .agg #[.int .i64 (f0), .int .i64 (f1)]) (seg := [.int .i64 (f0), .int .i64 (f1)]) rfl rfl H6.out rfl (by kernel_rfl) (by simp) (by simp [Value.oneCell']) ?_; intro w8 hrow hgr; have n1_ := Aside0.mk (pw_below_grown HB.out (some g6) HB.out.size hgr (fun k hk => by injection hk with hk; have := HG6.out; omega)); have n2_ := Aside0.mk (pw_below_grown HX.out (some g6) HX.out.size hgr (fun k hk => by injection hk with hk; have := HG6.out; omega)); have z0 := RowAt.cell hrow 0; have z1 := RowAt.cell hrow 1; simp only [List.take_zero, List.nil_append, List.getElem?_append, List.getElem?_cons_zero, List.getElem?_cons_succ] at z0 z1; clear HB HX H6 hrow hgr; have HB := n1_; have HX := n2_; clear n1_ n2_))
      go_ret
      exact ⟨rfl, HB.out⟩
    | ok p =>
      obtain ⟨u1, u2, u3⟩ := decode_uniq HFB.out hres
      obtain ⟨v0, v1, v2⟩ := (checkL_ok p).1 u3
      have HEQ := Aside0.mk u1.symm
      have HFL := Aside0.mk u2
      have HCK := Aside0.mk u3
      have HPL := Aside0.mk v1
      have HPS := Aside0.mk (right_small v2)
      clear hres u1 u2 u3 v0 v1 v2
      go_enter Try.func10, Try.ntmps10
      go_wp2_with (first
        | (go_at_call 40; have hcall := works_calls w; (with_reducible refine hcall.mono ?_); clear hcall; rintro xx wk ⟨rfl, hb⟩; have HOWN := Aside0.mk (World.ownsRow_lit (base := w.heap.size) (e := 5) (size := 1) wk #[.int .u8 100, .int .u8 111, .int .u8 119, .int .u8 108, .int .u8 1] 5 hb.size (by decide) rfl); have HRD := Aside0.mk (bytes_ReadsInt (Kd.C_below (Kd.C_below HR.out hb) (below_alloc (Below.refl wk.heap.size wk) (.cells #[.int .u8 100, .int .u8 111, .int .u8 119, .int .u8 108, .int .u8 1] 5 (0, 0))))); have HB0 := Aside0.mk hb; clear hb)
        | ((with_reducible refine gate_builtin (b := .append) (xs := #[.tmp 14, .tmp 15]) rfl ?_); at_builtin; refine print_append_row w.heap.size rfl (.tmp 14) (.tmp 15) 37 5 .u8 1 rfl Try.underlying37 (by kernel_rfl) (by decide) _ magicL b A b.length c rfl rfl HOWN.out HRD.out (below_step HB0.out (below_alloc (Below.refl _ _) _)) (by have := HB0.out.size; simp; omega) (by show (5 + b.length) * 1 ≤ _; have := HL.out; omega) ?_; intro v1 w1 hown hbel hgr hat; obtain ⟨m, hm⟩ : ∃ m, m = magicL ++ b := ⟨_, rfl⟩; rw [← hm] at hown; obtain ⟨A1, c1, rfl, hc1, hr1⟩ := bytes_reads hown (by rw [hm, List.length_append]; show 5 + _ ≤ _; have := HL.out; omega); have HM := Aside0.mk hm; have HML := Aside0.mk (show m.length = b.length + 5 by rw [hm, List.length_append, Nat.add_comm]; rfl); clear hm; have HB := Aside0.mk hbel; have HC1 := Aside0.mk hc1; have HO1 := Aside0.mk hown; have HR1 := Aside0.mk hr1; clear HOWN HRD HB0 hown hbel hgr hat hc1 hr1)
        | (go_at_call 29; refine (refsum_lit A1 c1 m _ HR1.out HC1.out (by have := HML.out; have := HL.out; omega)).mono ?_; rintro xx w2 ⟨rfl, hd⟩; have HO2 := Aside0.mk (drawn_owns hd HO1.out); have HB2 := Aside0.mk (HB.out.trans (hd.below.mono HB.out.size)); clear HO1 HR1 HB hd)
        | ((with_reducible refine gate_builtin (b := .append) (xs := #[.tmp 19, .tmp 31]) rfl ?_); at_builtin; refine print_append_row w.heap.size rfl (.tmp 19) (.tmp 31) 37 5 .u8 1 rfl Try.underlying37 (by kernel_rfl) (by decide) _ m [crcL m % 256, crcL m / 256 % 256, crcL m / 65536 % 256, crcL m / 16777216 % 256] (some ⟨w2.heap.size, 0, none⟩) 4 4 rfl rfl (HO2.out.alloc _) (lit4_reads w2 _ _ _ _) (below_alloc HB2.out _) (by have := HB2.out.size; simp; omega) (by have := HML.out; have := HL.out; omega) ?_; intro v3 w3 hown hbel hgr hat; rw [forge_two HM.out] at hown; obtain ⟨A3, c3, rfl, hc3, hr3⟩ := bytes_reads hown (by rw [forge_length]; have := HL.out; omega); have HB3 := Aside0.mk hbel; have HC3 := Aside0.mk hc3; have HR3 := Aside0.mk hr3; clear HO2 HB2 hown hbel hgr hat hc3 hr3 HM HML)
        | (go_at_call 22; refine (lend_calls _ A3 c3 (forge b) HR3.out HC3.out (by rw [forge_length]; have := HL.out; omega)).mono ?_; rintro xx w4 ⟨g, rfl, hrow, hb4, hg⟩; have HR4 := Aside0.mk (Kd.C_below HR3.out hb4); have HD4 := Aside0.mk (row_bytes (r := [171, 172]) hrow (by rw [forge_length]; have := HL.out; omega)); have HB4 := Aside0.mk (below_step HB3.out hb4); clear HR3 HB3 hrow hb4 hg)
        | (go_at_call 23; refine (decode_calls _ (some ⟨g, 0, none⟩) ((forge b).length + 2) (forge b) HD4.out (by omega) (by rw [forge_length]; have := HL.out; omega) HFB.out _ HRES.out).mono ?_; rintro xx w5 ⟨⟨vp, rfl, hvp⟩, hb5⟩; obtain ⟨Ap, cp, rfl, hcp, hrp⟩ := ins_reads hvp (by have := HPL.out; omega); have HCP := Aside0.mk hcp; have HRP := Aside0.mk hrp; have HB := Aside0.mk (below_step HB4.out hb5); have HR5 := Aside0.mk (Kd.C_below HR4.out hb5); clear HR4 HB4 HD4 hvp hcp hrp hb5; have HX := Aside0.mk (Below.refl w5.heap.size w5))
        | ((with_reducible refine gate_dst (N := 6) rfl ?_); refine box_event (N := 6) rfl rfl (cs := #[.int .i64 0, .int .i64 0]) (t := 42) ?hr2 ?_; (case hr2 => first | (go_simp; done) | (go_simp; rfl)); intro g6 hg w7 hbox hb; have H6 := Aside0.mk (show RowAt w7 g6 42 [.int .i64 0, .int .i64 0] from ⟨_, hbox, rfl⟩); have HG6 := Aside0.mk (show w5.heap.size ≤ g6 ∧ w.heap.size ≤ g6 by have := HX.out.size; have := HB.out.size; omega); have n2_ := Aside0.mk (below_step HX.out hb); have n1_ := Aside0.mk (below_step HB.out hb); clear HB HX hbox hb hg; have HB := n1_; have HX := n2_; clear n1_ n2_)
        | ((with_reducible refine gate_store (t := 42) (p := 6) rfl ?_); refine put_event rfl rfl 42 (.tmp 6) (.tmp 38) rfl (off := 0) (u := .agg #[.int .i64 (0), .int .i64 (0)]) (seg := [.int .i64 (0), .int .i64 (0)]) rfl rfl H6.out rfl (by kernel_rfl) (by simp) (by simp [Value.oneCell']) ?_; intro w8 hrow hgr; have n1_ := Aside0.mk (pw_below_grown HB.out (some g6) HB.out.size hgr (fun k hk => by injection hk with hk; have := HG6.out; omega)); have n2_ := Aside0.mk (pw_below_grown HX.out (some g6) HX.out.size hgr (fun k hk => by injection hk with hk; have := HG6.out; omega)); have z0 := RowAt.cell hrow 0; have z1 := RowAt.cell hrow 1; simp only [List.take_zero, List.nil_append, List.getElem?_append, List.getElem?_cons_zero, List.getElem?_cons_succ] at z0 z1; clear HB HX H6 hrow hgr; have HB := n1_; have HX := n2_; clear n1_ n2_)
        | (go_at_call 34; have hcall := lendInss_calls _ Ap cp p (Kd.C_below HRP.out HX.out) HCP.out (by have := HPL.out; omega); (with_reducible refine hcall.mono ?_); clear hcall; rintro xx w9 ⟨g1, rfl, hrow, hb, hge⟩; have n2_ := Aside0.mk (below_step HX.out hb); have n3_ := Aside0.mk (Kd.C_below HRE.out hb); have HROW := Aside0.mk (ins_row hrow (by have := HPL.out; omega)); have n1_ := Aside0.mk (below_step HB.out hb); clear HB HX HRE hb hrow hge; have HB := n1_; have HX := n2_; have HRE := n3_; clear n1_ n2_ n3_)
        | (go_at_call 34; have hcall := lendInss_calls _ Ap cp p (Kd.C_below HRP.out HX.out) HCP.out (by have := HPL.out; omega); (with_reducible refine hcall.mono ?_); clear hcall; rintro xx w9 ⟨g1, rfl, hrow, hb, hge⟩; have n2_ := Aside0.mk (below_step HX.out hb); have HROW := Aside0.mk (ins_row hrow (by have := HPL.out; omega)); have n1_ := Aside0.mk (below_step HB.out hb); clear HB HX hb hrow hge z0 z1; have HB := n1_; have HX := n2_; clear n1_ n2_)
        | (go_at_call 35; have hcall := encode_calls (some ⟨g1, 0, none⟩) (p.length + 2) p _ HROW.out (by omega) (by have := HPL.out; omega) HPS.out; (with_reducible refine hcall.mono ?_); clear hcall; rintro xx w10 ⟨he, hb⟩; obtain ⟨vb, rfl, hown⟩ := enc_ok he HCK.out (by rw [HEQ.out]; exact HFL.out); rw [HEQ.out] at hown; obtain ⟨Ae, ce, rfl, hce, hre⟩ := bytes_get hown; have HCE := Aside0.mk hce; have HRE := Aside0.mk hre; have n1_ := Aside0.mk (below_step HB.out hb); have n2_ := Aside0.mk (below_step HX.out hb); clear HB HX he hb hown hce hre; have HB := n1_; have HX := n2_; clear n1_ n2_)
        | (go_at_call 41; have hcall := check_calls (some ⟨g1, 0, none⟩) (p.length + 2) p _ HROW.out (by omega) (by have := HPL.out; omega) HPS.out _ HCK.out; (with_reducible refine hcall.mono ?_); clear hcall; rintro xx w11 ⟨rfl, hb⟩; have n2_ := Aside0.mk (below_step HX.out hb); have n1_ := Aside0.mk (below_step HB.out hb); have n3_ := Aside0.mk (Kd.C_below HRE.out hb); clear HB HX HRE hb; have HB := n1_; have HX := n2_; have HRE := n3_; clear n1_ n2_ n3_)
        | (go_at_call 37; have hcall := bytes_lit A3 c3 Ae ce (forge b) _ (Kd.C_below HR5.out HX.out) HC3.out HRE.out HCE.out (by have := HFL.out; omega); (with_reducible refine hcall.mono ?_); clear hcall; rintro xx w12 ⟨rfl, hd⟩; have n1_ := Aside0.mk (below_step HB.out hd.below); clear HB hd; have HB := n1_; clear n1_))
      go_ret
      exact ⟨rfl, HB.out⟩
end
end Go.Proofs.Ytebiogaacikphaa.Pack
end
