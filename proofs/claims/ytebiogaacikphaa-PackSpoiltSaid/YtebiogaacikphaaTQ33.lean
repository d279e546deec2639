/- Parts of the proof of packBack and packOne and packCuts and packSpoilt and packSmall: SpoiltWalk. No condition beyond each lemma's own. -/
import Derived.Test.YtebiogaacikphaaTQ32
section
namespace Go.Proofs.Ytebiogaacikphaa.Pack
open Go.RowKit Go.Proofs.YtebiogaacikphaaW.PrintWords Go.Proofs.Ytebiogaacikphaa.PAll Go.Proofs.Ytebiogaacikphaa.Names
set_option linter.unusedVariables false
set_option linter.unusedSimpArgs false
set_option linter.unnecessarySimpa false
theorem own_first {W : World} {base : Nat} {v : Value} {b : List Int} (h : W.ownsRow base 5 1 v b.length (nums .u8 b)) (h9 : 9 ≤ b.length) : ∃ g cap, v = .slice (some ⟨g, 0, none⟩) b.length cap := by
  rcases h.2 with ⟨_, h0⟩ | ⟨g, cap, cur, rfl, _⟩
  · omega
  · exact ⟨g, cap, rfl⟩
section
variable (A : Option Addr) (c : Nat) (l : List Ins) (n : Int) (ub : Int) (w : World)
set_option maxHeartbeats 8000000 in
set_option maxRecDepth 100000 in
theorem spoilt_row (hr : Kd.C k78 w A l.length l) (hc : l.length ≤ c) (hok : InssOk l) (hn : (Lit.int .i64 n).wf = true) (hub : (Lit.int .u32 ub).wf = true) :
    Calls Try.prog 11 #[.slice A l.length c, .int .i64 n, .int .u32 ub] w fun e w' => e = .returned (.bool true) ∧ Below w.heap.size w w' := by
  have HR := Aside0.mk hr
  have HC := Aside0.mk hc
  have HOK := Aside0.mk hok
  have HSS := Aside0.mk (fun x hx => (hok.2 x hx).2)
  have HL47 := Aside0.mk (show l.length ≤ 140737488351232 by have := hok.1; omega)
  have HMAX := Aside0.mk (show l.length ≤ 9223372036854775807 by have := hok.1; omega)
  have hur := u32_of_wf hub
  clear hr hc hok hn hub
  by_cases c0 : 65545 < l.length
  · have k0 : decide ((l.length : Int) > 65545) = true := decide_eq_true (by omega)
    clear c0
    go_enter Try.func11, Try.ntmps11
    go_wp2_with (first
      | (go_at_call 40; have hcall := works_calls w; (with_reducible refine hcall.mono ?_); clear hcall; rintro xx w2 ⟨rfl, hb⟩; have HB := Aside0.mk hb; clear hb))
    go_ret
    exact ⟨rfl, HB.out⟩
  · have k0 : decide ((l.length : Int) > 65545) = false := decide_eq_false (by omega)
    have HL := Aside0.mk (show l.length ≤ 16777216 by omega)
    clear c0
    obtain ⟨f0, f1, hf⟩ : ∃ f0 f1, checkL l = (f0, f1) := ⟨_, _, rfl⟩
    by_cases hbad : f1 = 0
    · obtain ⟨rfl, rfl⟩ : f0 = 0 ∧ f1 = 0 := by
        have := check_zero (l := l) (by rw [hf]; exact hbad)
        rw [hf] at this
        injection this with h1 h2
        exact ⟨h1, h2⟩
      have HF := Aside0.mk hf
      clear hf hbad
      by_cases c5 : 4194304 < (encodeE l).length
      · have HLEN := Aside0.mk c5
        clear c5
        go_enter Try.func11, Try.ntmps11
        go_wp2_with (first
          | (go_at_call 40; have hcall := works_calls w; (with_reducible refine hcall.mono ?_); clear hcall; rintro xx w2 ⟨rfl, hb⟩; have HB := Aside0.mk hb; clear hb)
          | (go_at_call 34; have hcall := lendInss_calls _ A c l (Kd.C_below HR.out HB.out) HC.out HL.out; (with_reducible refine hcall.mono ?_); clear hcall; rintro xx w3 ⟨g1, rfl, hrow, hb, hge⟩; have HROW := Aside0.mk (ins_row hrow HMAX.out); have n1_ := Aside0.mk (below_step HB.out hb); clear HB hb hrow hge; have HB := n1_; clear n1_)
          | (go_at_call 35; have hcall := encode_calls (some ⟨g1, 0, none⟩) (l.length + 2) l _ HROW.out (by omega) HL47.out HSS.out; (with_reducible refine hcall.mono ?_); clear hcall; rintro xx w4 ⟨he, hb⟩; obtain rfl := enc_large he HF.out HLEN.out; have n1_ := Aside0.mk (below_step HB.out hb); clear HB he hb; have HB := n1_; clear n1_; have HX := Aside0.mk (Below.refl w4.heap.size w4)))
        go_ret
        exact ⟨rfl, HB.out⟩
      · have HLEN := Aside0.mk (show (encodeE l).length ≤ 4194304 by omega)
        have hd := decode_right HF.out HOK.out HLEN.out
        obtain ⟨b, hb⟩ : ∃ b, encodeE l = b := ⟨_, rfl⟩
        have HBB := Aside0.mk hb
        rw [hb] at hd
        have HDEC := Aside0.mk hd.1
        have HBY := Aside0.mk hd.2.1
        have HB9 := Aside0.mk hd.2.2
        have hbm : b.length ≤ 4194304 := by rw [← hb]; exact HLEN.out
        have HBM := Aside0.mk hbm
        have hb9 : 9 ≤ b.length := HB9.out
        clear c5 hd hb
        by_cases c6 : ub = 0
        · have b6 : (ub == 0) = true := by simpa using c6
          clear c6
          go_enter Try.func11, Try.ntmps11
          go_wp2_with (first
            | (go_at_call 40; have hcall := works_calls w; (with_reducible refine hcall.mono ?_); clear hcall; rintro xx w2 ⟨rfl, hb⟩; have HB := Aside0.mk hb; clear hb)
            | (go_at_call 34; have hcall := lendInss_calls _ A c l (Kd.C_below HR.out HB.out) HC.out HL.out; (with_reducible refine hcall.mono ?_); clear hcall; rintro xx w3 ⟨g1, rfl, hrow, hb, hge⟩; have HROW := Aside0.mk (ins_row hrow HMAX.out); have n1_ := Aside0.mk (below_step HB.out hb); clear HB hb hrow hge; have HB := n1_; clear n1_)
            | (go_at_call 35; have hcall := encode_calls (some ⟨g1, 0, none⟩) (l.length + 2) l _ HROW.out (by omega) HL47.out HSS.out; (with_reducible refine hcall.mono ?_); clear hcall; rintro xx w4 ⟨he, hb⟩; obtain ⟨vb, rfl, hown⟩ := enc_ok he HF.out HLEN.out; rw [HBB.out] at hown; obtain ⟨g, cap, rfl⟩ := own_first hown HB9.out; have n1_ := Aside0.mk (below_step HB.out hb); have HOWN := Aside0.mk (own_less hown HB.out.size); clear HB he hb hown; have HB := n1_; clear n1_))
          go_ret
          exact ⟨rfl, HB.out⟩
        · have b6 : (ub == 0) = false := by simpa using c6
          clear c6
          obtain ⟨u, rfl⟩ := Int.eq_ofNat_of_zero_le hur.1
          have hu : u < 4294967296 := by omega
          have HU := Aside0.mk hu
          have hw8 : IntKind.i64.wrap (8 * (b.length : Int)) = 8 * (b.length : Int) := IntWalk.i64_in _ (by omega)
          have hw8u : IntKind.u64.wrap (8 * (b.length : Int)) = 8 * (b.length : Int) := Bits.wrap_u64 _ (by omega) (by omega)
          have hcw := wrap_range n
          obtain ⟨bit, hk, hkb⟩ : ∃ k : Nat, (IntKind.u64.wrap n).tmod (8 * (b.length : Int)) = (k : Int) ∧ k < 8 * b.length := by
            refine ⟨((IntKind.u64.wrap n).tmod (8 * (b.length : Int))).toNat, ?_, ?_⟩
            · rw [Int.toNat_of_nonneg (Int.tmod_nonneg _ hcw.1)]
            · have h1 := Int.tmod_lt_of_pos (IntKind.u64.wrap n) (show (0 : Int) < 8 * b.length by omega)
              have h2 := Int.tmod_nonneg (8 * (b.length : Int)) hcw.1
              omega
          have hk64 : IntKind.u64.wrap (bit : Int) = (bit : Int) := Bits.wrap_u64 _ (by omega) (by omega)
          have hki64 : IntKind.i64.wrap (bit : Int) = (bit : Int) := IntWalk.i64_in _ (by omega)
          have hkw : wrap64 (bit : Int) = (bit : Int) := w64 (by omega) (by omega)
          have hz1 : ((b.length : Int) = 0) = False := eq_false (by omega)
          have hz2 : (b.length = 0) = False := eq_false (by omega)
          have hz3 : (b = []) = False := eq_false (fun h => by rw [h] at hb9; simp at hb9)
          have hz4 : (8 * (b.length : Int) = 0) = False := eq_false (by omega)
          have HBIT := Aside0.mk hkb
          clear hcw hkb hbm hb9 hur hu
          go_enter Try.func11, Try.ntmps11
          go_wp2_with (first
            | (go_at_call 40; have hcall := works_calls w; (with_reducible refine hcall.mono ?_); clear hcall; rintro xx w2 ⟨rfl, hb⟩; have HB := Aside0.mk hb; clear hb)
            | (go_at_call 34; have hcall := lendInss_calls _ A c l (Kd.C_below HR.out HB.out) HC.out HL.out; (with_reducible refine hcall.mono ?_); clear hcall; rintro xx w3 ⟨g1, rfl, hrow, hb, hge⟩; have HROW := Aside0.mk (ins_row hrow HMAX.out); have n1_ := Aside0.mk (below_step HB.out hb); clear HB hb hrow hge; have HB := n1_; clear n1_)
            | (go_at_call 35; have hcall := encode_calls (some ⟨g1, 0, none⟩) (l.length + 2) l _ HROW.out (by omega) HL47.out HSS.out; (with_reducible refine hcall.mono ?_); clear hcall; rintro xx w4 ⟨he, hb⟩; obtain ⟨vb, rfl, hown⟩ := enc_ok he HF.out HLEN.out; rw [HBB.out] at hown; obtain ⟨g, cap, rfl⟩ := own_first hown HB9.out; have n1_ := Aside0.mk (below_step HB.out hb); have HOWN := Aside0.mk (own_less hown HB.out.size); clear HB he hb hown; have HB := n1_; clear n1_))
          go_loopw [10, 11] (fun v10 v11 wr => ∃ (k : Nat) (d : List Int) (ch : Bool), v11 = .int .i64 (k : Int) ∧ v10 = .bool ch ∧ Aside0 (k ≤ 32) ∧ Aside0 (SP w wr g cap b.length b d bit u k ch)) (fun v10 v11 _ => 32 - (intOf v11).toNat)
          case atStart => exact ⟨0, b, false, rfl, rfl, ⟨Nat.zero_le _⟩, ⟨SP.start (v := .slice none 0 0) HB.out HOWN.out HBY.out⟩⟩
          case round =>
            clear HB HOWN
            obtain ⟨k, d, ch, rfl, rfl, HK, HP⟩ := hrel
            by_cases c2 : k < 32
            · have k2 : decide ((k : Int) < 32) = true := decide_eq_true (by omega)
              have k2n : decide (k < 32) = true := decide_eq_true c2
              have hbit := burst_bit u k HU.out
              have hw1 : IntKind.i64.wrap ((k : Int) + 1) = ((k + 1 : Nat) : Int) := by rw [IntWalk.i64_in _ (by omega)]; omega
              have hmin : min k 32 = k := Nat.min_eq_left (by omega)
              obtain ⟨p, hp⟩ : ∃ p, bit + k = p := ⟨_, rfl⟩
              obtain ⟨j, hj⟩ : ∃ j, p / 8 = j := ⟨_, rfl⟩
              obtain ⟨r, hr⟩ : ∃ r, p % 8 = r := ⟨_, rfl⟩
              have hpb : p < 33554464 := by have := HBIT.out; have := HBM.out; omega
              have hsum : IntKind.i64.wrap ((bit : Int) + (k : Int)) = (p : Int) := by rw [IntWalk.i64_in _ (by omega)]; omega
              have hquo : (p : Int).tdiv 8 = (j : Int) := by rw [Int.tdiv_eq_ediv_of_nonneg (by omega)]; omega
              have hrem : (p : Int).tmod 8 = (r : Int) := by rw [Int.tmod_eq_emod_of_nonneg (by omega)]; omega
              have hwj : IntKind.i64.wrap (j : Int) = (j : Int) := IntWalk.i64_in _ (by omega)
              have HPJ := Aside0.mk (show bit + k = 8 * j + r ∧ r < 8 by omega)
              clear hp hj hr hpb
              by_cases tb : u.testBit k = true
              · rw [if_pos tb] at hbit
                by_cases cj : j < b.length
                · have kj : decide ((j : Int) < (b.length : Int)) = true := decide_eq_true (by omega)
                  have kjn : decide (j < b.length) = true := decide_eq_true cj
                  have TB := Aside0.mk tb
                  have CJ := Aside0.mk cj
                  clear c2 tb cj
                  obtain ⟨x, hx⟩ : ∃ x, d[j]? = some x := ⟨d[j]'(by rw [HP.out.len]; exact CJ.out), List.getElem?_eq_getElem _⟩
                  have HXJ := Aside0.mk hx
                  have hcell := HP.out.cell hx
                  have hix : ∀ W : World, (Instr.indexAt 37 (.slice (some ⟨g, 0, none⟩) b.length cap) (.int .i64 (j : Int))).run Try.prog W = .ok (.pointer (some ⟨g, j, none⟩)) W := fun W => by
                    have := run_indexAt_own (P := Try.prog) (t := 37) (size := 1) Try.underlying37 (fun W => by kernel_rfl) g b.length cap j CJ.out W
                    rwa [Nat.mul_one] at this
                  have hminr : min r 8 = r := Nat.min_eq_left (by have := HPJ.out; omega)
                  have hpow : IntKind.u8.wrap (2 ^ r) = ((2 ^ r : Nat) : Int) := pow_wrap HPJ.out.2
                  obtain ⟨z, hz⟩ : ∃ z, x.toNat ^^^ 2 ^ r = z := ⟨_, rfl⟩
                  have HZ := Aside0.mk hz
                  have hxor := xor_bit (HP.out.bytes x (List.mem_of_getElem? hx)) HPJ.out.2
                  rw [hz] at hxor
                  have HX4 : Aside0 (Go.bits .xor .u8 x (IntKind.u8.wrap ((2 : Int) ^ r)) = (z : Int)) := ⟨by rw [hpow]; exact hxor⟩
                  clear hz hpow hxor
                  obtain ⟨cs, hrow, hcl⟩ := HP.out.row
                  have HCS := Aside0.mk hrow
                  have HCL := Aside0.mk hcl
                  clear hx hrow hcl
                  go_wp2
                  go_still_tail 19, (by kernel_rfl)
                  change wpList _ _ _ _ _ wr.drew
                  have n1_ := Aside0.mk (HP.out.below (below_drew (Below.refl wr.heap.size wr)))
                  have n2_ := Aside0.mk (HCS.out.below (below_drew (Below.refl wr.heap.size wr)))
                  clear HP HCS hcell
                  have HP := n1_
                  have HCS := n2_
                  clear n1_ n2_
                  generalize wr.drew = w5 at *
                  refine put_event rfl rfl 5 (.tmp 82) (.tmp 81) rfl (g := g) (off := j) (u := .int .u8 _) (seg := [.int .u8 _]) rfl rfl HCS.out rfl (by kernel_rfl) (by have := HCL.out; have := CJ.out; simp; omega) (by simp [Value.oneCell']) ?_
                  intro w6 hrow hgr
                  rw [HX4.out] at hrow
                  have HP' := Aside0.mk (HP.out.flip TB.out HPJ.out.2 HPJ.out.1 HXJ.out HCS.out (by rw [HZ.out]; exact hrow) hgr)
                  rw [HZ.out] at HP'
                  clear HP HCS hrow hgr
                  go_wp2
                  go_roundw
                  case measure => have := of_decide_eq_true k2n; simp [intOf]; omega
                  case rel => exact ⟨k + 1, _, true, by go_num, rfl, ⟨of_decide_eq_true k2n⟩, HP'⟩
                · have kj : decide ((j : Int) < (b.length : Int)) = false := decide_eq_false (by omega)
                  have kjn : decide (j < b.length) = false := decide_eq_false cj
                  have HNO := Aside0.mk (show ¬ (u.testBit k = true ∧ bit + k < 8 * b.length) from fun h => cj (by have := HPJ.out; omega))
                  have HC2 := Aside0.mk c2
                  clear tb cj c2
                  go_wp2
                  go_roundw
                  case measure => have := HC2.out; simp [intOf]; omega
                  case rel => exact ⟨k + 1, d, ch, by go_num, rfl, ⟨HC2.out⟩, ⟨HP.out.skip HNO.out⟩⟩
              · rw [if_neg tb] at hbit
                have HNO := Aside0.mk (show ¬ (u.testBit k = true ∧ bit + k < 8 * b.length) from fun h => tb h.1)
                have HC2 := Aside0.mk c2
                clear tb c2
                go_wp2
                go_roundw
                case measure => have := HC2.out; simp [intOf]; omega
                case rel => exact ⟨k + 1, d, ch, by go_num, rfl, ⟨HC2.out⟩, ⟨HP.out.skip HNO.out⟩⟩
            · have k2 : decide ((k : Int) < 32) = false := decide_eq_false (by omega)
              obtain rfl : k = 32 := by have := HK.out; omega
              clear HK c2
              cases ch with
              | false =>
                go_wp2
                go_ret
                exact ⟨rfl, HP.out.bel⟩
              | true =>
                obtain ⟨⟨f0, f1⟩, hdd, hor⟩ := HP.out.done rfl HBY.out l HDEC.out rfl (by have := HB9.out; omega)
                have HDD := Aside0.mk hdd
                have hoc := own_C (l := d) (A := some ⟨g, 0, none⟩) (c := cap) (base := w.heap.size) (w := wr) (by rw [HP.out.len]; exact HP.out.own) (by rw [HP.out.len]; have := HBM.out; omega)
                have HOC := Aside0.mk hoc
                have hw4 : IntKind.i64.wrap ((b.length : Int) - 4) = ((b.length - 4 : Nat) : Int) := by have := HB9.out; have := HBM.out; rw [IntWalk.i64_in _ (by omega)]; omega
                clear hdd hoc
                rcases hor with ⟨h1, h2, h3⟩ | ⟨h1, h2⟩
                · subst h1
                  have b5 : decide (f0 < 5) = true := decide_eq_true h3
                  clear h2 h3
                  go_wp2_with (first | (go_at_call 23; have hcall := decode_calls _ (some ⟨g, 0, none⟩) cap d HOC.out.2 HOC.out.1 (by rw [HP.out.len]; have := HBM.out; omega) HP.out.bytes _ HDD.out; rw [HP.out.len] at hcall; (with_reducible refine hcall.mono ?_); clear hcall; rintro xx w9 ⟨hdec, hb⟩; obtain rfl := hdec; have HB := Aside0.mk (below_step HP.out.bel hb); clear hb) | ((with_reducible refine gate_dst (N := 13) rfl ?_); refine box_event (N := 13) rfl rfl (cs := #[.int .i64 0, .int .i64 0]) (t := 42) ?hr2 ?_; (case hr2 => first | (go_simp; done) | (go_simp; rfl)); intro g13 hg w10 hbox hb; have H13 := Aside0.mk (show RowAt w10 g13 42 [.int .i64 0, .int .i64 0] from ⟨_, hbox, rfl⟩); have HG13 := Aside0.mk (show w.heap.size ≤ g13 by have := HB.out.size; omega); have n1_ := Aside0.mk (below_step HB.out hb); clear HB hbox hb hg; have HB := n1_; clear n1_) | ((with_reducible refine gate_store (t := 42) (p := 13) rfl ?_); refine put_event rfl rfl 42 (.tmp 13) (.tmp 89) rfl (off := 0) (u := .agg #[.int .i64 _, .int .i64 _]) (seg := [.int .i64 _, .int .i64 _]) rfl rfl H13.out rfl (by kernel_rfl) (by simp) (by simp [Value.oneCell']) ?_; intro w11 hrow hgr; have n1_ := Aside0.mk (pw_below_grown HB.out (some g13) HB.out.size hgr (fun k hk => by injection hk with hk; have := HG13.out; omega)); have z0 := RowAt.cell hrow 0; have z1 := RowAt.cell hrow 1; simp only [List.take_zero, List.nil_append, List.getElem?_append, List.getElem?_cons_zero, List.getElem?_cons_succ] at z0 z1; clear HB H13 hrow hgr; have HB := n1_; clear n1_)); go_ret; exact ⟨rfl, HB.out⟩
                · subst h1
                  have b5 : (f0 == ((b.length - 4 : Nat) : Int)) = true := by simpa using h2
                  simp only at h2
                  subst h2
                  go_wp2_with (first | (go_at_call 23; have hcall := decode_calls _ (some ⟨g, 0, none⟩) cap d HOC.out.2 HOC.out.1 (by rw [HP.out.len]; have := HBM.out; omega) HP.out.bytes _ HDD.out; rw [HP.out.len] at hcall; (with_reducible refine hcall.mono ?_); clear hcall; rintro xx w9 ⟨hdec, hb⟩; obtain rfl := hdec; have HB := Aside0.mk (below_step HP.out.bel hb); clear hb) | ((with_reducible refine gate_dst (N := 13) rfl ?_); refine box_event (N := 13) rfl rfl (cs := #[.int .i64 0, .int .i64 0]) (t := 42) ?hr2 ?_; (case hr2 => first | (go_simp; done) | (go_simp; rfl)); intro g13 hg w10 hbox hb; have H13 := Aside0.mk (show RowAt w10 g13 42 [.int .i64 0, .int .i64 0] from ⟨_, hbox, rfl⟩); have HG13 := Aside0.mk (show w.heap.size ≤ g13 by have := HB.out.size; omega); have n1_ := Aside0.mk (below_step HB.out hb); clear HB hbox hb hg; have HB := n1_; clear n1_) | ((with_reducible refine gate_store (t := 42) (p := 13) rfl ?_); refine put_event rfl rfl 42 (.tmp 13) (.tmp 89) rfl (off := 0) (u := .agg #[.int .i64 _, .int .i64 _]) (seg := [.int .i64 _, .int .i64 _]) rfl rfl H13.out rfl (by kernel_rfl) (by simp) (by simp [Value.oneCell']) ?_; intro w11 hrow hgr; have n1_ := Aside0.mk (pw_below_grown HB.out (some g13) HB.out.size hgr (fun k hk => by injection hk with hk; have := HG13.out; omega)); have z0 := RowAt.cell hrow 0; have z1 := RowAt.cell hrow 1; simp only [List.take_zero, List.nil_append, List.getElem?_append, List.getElem?_cons_zero, List.getElem?_cons_succ] at z0 z1; clear HB H13 hrow hgr; have HB := n1_; clear n1_)); go_ret; exact ⟨rfl, HB.out⟩
    · have HF := Aside0.mk hf
      have HBAD := Aside0.mk hbad
      have b0 : (f1 != 0) = true := by simpa using hbad
      have b00 : (f1 == 0) = false := by simpa using hbad
      clear hf hbad
      go_enter Try.func11, Try.ntmps11
      go_wp2_with (first
        | (go_at_call 40; have hcall := works_calls w; (with_reducible refine hcall.mono ?_); clear hcall; rintro xx w2 ⟨rfl, hb⟩; have HB := Aside0.mk hb; clear hb)
        | (go_at_call 34; have hcall := lendInss_calls _ A c l (Kd.C_below HR.out HB.out) HC.out HL.out; (with_reducible refine hcall.mono ?_); clear hcall; rintro xx w3 ⟨g1, rfl, hrow, hb, hge⟩; have HROW := Aside0.mk (ins_row hrow HMAX.out); have n1_ := Aside0.mk (below_step HB.out hb); clear HB hb hrow hge; have HB := n1_; clear n1_)
        | (go_at_call 35; have hcall := encode_calls (some ⟨g1, 0, none⟩) (l.length + 2) l _ HROW.out (by omega) HL47.out HSS.out; (with_reducible refine hcall.mono ?_); clear hcall; rintro xx w4 ⟨he, hb⟩; obtain rfl := enc_bad he HF.out HBAD.out; have n1_ := Aside0.mk (below_step HB.out hb); clear HB he hb; have HB := n1_; clear n1_; have HX := Aside0.mk (Below.refl w4.heap.size w4)))
      go_ret
      exact ⟨rfl, HB.out⟩
end
end Go.Proofs.Ytebiogaacikphaa.Pack
end
