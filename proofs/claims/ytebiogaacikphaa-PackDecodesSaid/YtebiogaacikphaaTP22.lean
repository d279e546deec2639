/- Parts of the proof of packForged and packDecodes and Pack and Pack and Pack: PackRefDecodeR. -/
import Derived.Test.YtebiogaacikphaaTP19
section
namespace Go.Proofs.Ytebiogaacikphaa.Pack
open Go.RowKit Go.Proofs.YtebiogaacikphaaW.PrintWords Go.Proofs.Ytebiogaacikphaa.PAll
set_option linter.unusedVariables false
set_option linter.unusedSimpArgs false
set_option linter.unnecessarySimpa false
section
variable (w : World) (A : Option Addr) (c : Nat) (b : List Int)
set_option maxHeartbeats 400000000 in
set_option maxRecDepth 100000 in
theorem refdecode_rounds (hr : Kd.C (Kd.int .u8) w A b.length b) (hc : b.length ≤ c) (hl : b.length ≤ 140737488351232) (hby : ∀ x ∈ b, 0 ≤ x ∧ x < 256) (res : Except (Int × Int) (List Ins)) (hf : framedL b = (0, 0)) (hres : insideL (b.length - 4) ((b.take (b.length - 4)).drop 5) = res) (hg : ∃ S l1 T l2 n r3, tableC (b.length - 4) ((b.take (b.length - 4)).drop 5) = .ok (S, l1) ∧ tableN (b.length - 4) l1 = .ok (T, l2) ∧ cntL (b.length - 4) (b.length - 4 - l2.length) 0 0 l2 = .ok (((n : Nat) : Int), r3) ∧ ¬ 65536 < (n : Int) ∧ (n : Int) ≠ 0) : Calls Try.prog 24 #[.slice A b.length c] w fun x w' => Decoded w w' x res ∧ Below w.heap.size w w' := by
  have HG := Aside0.mk hg
  clear hg
  have HR := Aside0.mk hr
  have HC := Aside0.mk hc
  have HL := Aside0.mk hl
  have HY := Aside0.mk hby
  have HRES := Aside0.mk hres
  clear hr hc hby hres
  rw [framedL] at hf
  have big : ¬ 4194304 < b.length := fun h => by rw [if_pos h] at hf; simp at hf
  rw [if_neg big] at hf
  have b1 : decide ((b.length : Int) > 4194304) = false := decide_eq_false (by omega)
  have HF := Aside0.mk hf
  clear hf
  go_enter Try.func24, Try.ntmps24
  go_wp2_with (first
    | ((with_reducible refine gate_dst (N := 3) rfl ?_); refine box_event (N := 3) rfl rfl (cs := #[.int .i64 0, .int .i64 0]) (t := 46) ?hr2 ?_; (case hr2 => first | (go_simp; done) | (go_simp; rfl)); intro g3 hg3 w1 hbox hb1; have HB := Aside0.mk hb1; have H3 := Aside0.mk (show RowAt w1 g3 46 [.int .i64 0, .int .i64 0] from ⟨_, hbox, rfl⟩); have HG3 := Aside0.mk (show w.heap.size ≤ g3 by omega); clear hbox hb1 hg3))
  go_loopw [4] (fun v4 wr => ∃ (q : Nat), v4 = .int .i64 q ∧ q ≤ 5 ∧ q ≤ b.length ∧ Aside0 (missL 0 magicL b = missL q (magicL.drop q) (b.drop q)) ∧ Aside0 (Below w.heap.size w wr) ∧ Aside0 (RowAt wr g3 46 [.int .i64 0, .int .i64 0])) (fun v4 _ => 5 - (intOf v4).toNat)
  case atStart => exact ⟨0, rfl, by omega, by omega, ⟨rfl⟩, HB, H3⟩
  case round =>
    clear HB H3
    obtain ⟨q, rfl, hq5, hqb, HM, HB, H3⟩ := hrel
    by_cases c5 : q < 5
    · have b5 : decide ((q : Int) < 5) = true := decide_eq_true (by omega)
      by_cases cb : q < b.length
      · have b6 : decide ((q : Int) < (b.length : Int)) = true := decide_eq_true (by omega)
        have hq5' : q < magicL.length := c5
        obtain ⟨ad, rfl, hcb⟩ := Kd.at_int (Kd.C_below HR.out HB.out) (q : Int) (by omega) (by omega)
        rw [Int.toNat_natCast, rd_nat b q cb] at hcb
        have hmd := HM.out
        rw [missL_drop magicL b q q hq5' cb] at hmd
        have hidx := fun W => idx_magic W q hq5'
        generalize b[q] = x at *
        generalize magicL[q] = y at *
        clear HM
        by_cases e : x = y
        · rw [if_pos e] at hmd
          have b7 : (x != y) = false := by simp [e]
          have HM := Aside0.mk hmd
          clear hmd e
          go_wp2
          go_quiet (fail)
          have n1_ := Aside0.mk (pw_below_drewN HB.out nq)
          have n3_ := Aside0.mk (H3.out.below (pw_below_drewN (Below.refl wr.heap.size wr) nq))
          clear HB H3 hcb
          have HB := n1_
          have H3 := n3_
          clear n1_ n3_
          generalize wr.drewN nq = w8 at *
          try simp only [b7]
          go_wp2
          go_roundw
          case measure => simp [intOf]; omega
          case rel => first | exact ⟨q + 1, by go_num, by omega, by omega, HM, HB, H3⟩ | exact ⟨q + 1, by go_num, by omega, by omega, HM⟩
        · rw [if_neg e] at hmd
          have hf := HF.out
          rw [hmd] at hf
          simp at hf
      · have hf := HF.out
        rw [HM.out, missL_nil magicL b q q (.inr (by omega))] at hf
        dsimp only at hf
        rw [if_pos (by omega)] at hf
        simp at hf
    · have b5 : decide ((q : Int) < 5) = false := decide_eq_false (by omega)
      have hf := HF.out
      rw [HM.out, missL_nil magicL b q q (.inl (by show 5 ≤ q; omega))] at hf
      dsimp only at hf
      by_cases c9 : b.length < 9
      · rw [if_pos c9] at hf
        simp at hf
      · have b9 : decide ((b.length : Int) < 9) = false := decide_eq_false (by omega)
        rw [if_neg c9] at hf
        have hw4 : IntKind.i64.wrap ((b.length : Int) - 4) = ((b.length - 4 : Nat) : Int) := by rw [IntWalk.i64_in _ (by omega)]; omega
        have HF2 := Aside0.mk hf
        clear hf HF HM
        have hle : (b.take (b.length - 4)).length = b.length - 4 := by rw [List.length_take]; omega
        have hsz : (Try.prog.info? 5).map (fun i => i.size) = some 1 := by kernel_rfl
        obtain ⟨i5, hi5, hs5⟩ := Option.map_eq_some_iff.1 hsz
        have hto := cut_to (P := Try.prog) 37 5 .i64 Try.underlying37 hi5 A b.length c ((b.length - 4 : Nat) : Int) (by omega) (by omega) HC.out
        rw [Int.toNat_natCast] at hto
        have htake := fun W (h : Kd.C (Kd.int .u8) W A b.length b) => Kd.C_take (m := b.length - 4) h (by omega)
        have hsum := fun W h => refsum_lit A c (b.take (b.length - 4)) W h (by have := HC.out; omega) (by omega)
        rw [hle] at htake hsum
        have hd4 : b.drop (b.length - 4) = [rd b ((b.length - 4 : Nat) : Int), rd b (((b.length - 4 : Nat) : Int) + 1), rd b (((b.length - 4 : Nat) : Int) + 2), rd b (((b.length - 4 : Nat) : Int) + 3)] := drop4 b (by omega)
        have hcr := crc_range (b.take (b.length - 4))
        have he4 : b.length - 4 + 4 = b.length := by omega
        generalize crcL (b.take (b.length - 4)) = s at *
        rw [hd4] at HF2
        have hx0 := rd_byte HY.out ((b.length - 4 : Nat) : Int)
        have hx1 := rd_byte HY.out (((b.length - 4 : Nat) : Int) + 1)
        have hx2 := rd_byte HY.out (((b.length - 4 : Nat) : Int) + 2)
        have hx3 := rd_byte HY.out (((b.length - 4 : Nat) : Int) + 3)
        clear hd4
        generalize hE : b.length - 4 = e at *
        obtain ⟨ad, had, y0⟩ := Kd.at_int (Kd.C_below HR.out HB.out) (e : Int) (by omega) (by omega)
        obtain ⟨ad1, had1, y1⟩ := Kd.at_int (Kd.C_below HR.out HB.out) ((e : Int) + 1) (by omega) (by omega)
        obtain ⟨ad2, had2, y2⟩ := Kd.at_int (Kd.C_below HR.out HB.out) ((e : Int) + 2) (by omega) (by omega)
        obtain ⟨ad3, had3, y3⟩ := Kd.at_int (Kd.C_below HR.out HB.out) ((e : Int) + 3) (by omega) (by omega)
        rw [had] at had1 had2 had3
        cases had1
        cases had2
        cases had3
        subst had
        generalize rd b (e : Int) = x0 at *
        generalize rd b ((e : Int) + 1) = x1 at *
        generalize rd b ((e : Int) + 2) = x2 at *
        generalize rd b ((e : Int) + 3) = x3 at *
        have y0' : wr.cell? (ad.add e) = some (.int .u8 x0) := by rw [Int.toNat_natCast] at y0; exact y0
        have y1' : wr.cell? ⟨ad.block, ad.off + (e + 1), none⟩ = some (.int .u8 x1) := by rw [show ((e : Int) + 1).toNat = e + 1 by omega, Addr.add, if_neg (by omega)] at y1; exact y1
        have y2' : wr.cell? ⟨ad.block, ad.off + (e + 2), none⟩ = some (.int .u8 x2) := by rw [show ((e : Int) + 2).toNat = e + 2 by omega, Addr.add, if_neg (by omega)] at y2; exact y2
        have y3' : wr.cell? ⟨ad.block, ad.off + (e + 3), none⟩ = some (.int .u8 x3) := by rw [show ((e : Int) + 3).toNat = e + 3 by omega, Addr.add, if_neg (by omega)] at y3; exact y3
        have hb0 : (e : Int) < (b.length : Int) := by omega
        have hb1 : (e : Int) + 1 < (b.length : Int) := by omega
        have hb2 : (e : Int) + 2 < (b.length : Int) := by omega
        have hb3 : (e : Int) + 3 < (b.length : Int) := by omega
        have hc0 : (0 : Int) ≤ (e : Int) := by omega
        have hc1 : (0 : Int) ≤ (e : Int) + 1 := by omega
        have hc2 : (0 : Int) ≤ (e : Int) + 2 := by omega
        have hc3 : (0 : Int) ≤ (e : Int) + 3 := by omega
        have hw1 : IntKind.i64.wrap ((e : Int) + 1) = (e : Int) + 1 := IntWalk.i64_in _ (by omega)
        have hw2 : IntKind.i64.wrap ((e : Int) + 2) = (e : Int) + 2 := IntWalk.i64_in _ (by omega)
        have hw3 : IntKind.i64.wrap ((e : Int) + 3) = (e : Int) + 3 := IntWalk.i64_in _ (by omega)
        have HTO := Aside0.mk hto
        have HTAKE := Aside0.mk htake
        have HSUM := Aside0.mk hsum
        clear htake hsum hE
        go_wp2
        go_quiet ((go_at_call 29; exact Calls.quiet_of ((HSUM.out _ (HTAKE.out _ (Kd.C_below HR.out (pw_below_drewN HB.out _)))).mono (fun _ _ h => ⟨h.1, h.2.out⟩))))
        have HB8 := Aside0.mk (pw_below_drewN HB.out nq)
        have H38 := Aside0.mk (H3.out.below (pw_below_drewN (Below.refl wr.heap.size wr) nq))
        clear HB H3 y0 y1 y2 y3 y0' y1' y2' y3' hb0 hb1 hb2 hb3 hc0 hc1 hc2 hc3 hw1 hw2 hw3
        have HB := HB8
        have H3 := H38
        clear HB8 H38
        generalize wr.drewN nq = w8 at *
        have hbits := bits_le x0 x1 x2 x3 hx0 hx1 hx2 hx3
        by_cases he : leN 4 s = [x0, x1, x2, x3]
        case neg =>
          have hf := HF2.out
          rw [if_neg he] at hf
          simp at hf
        have b10 : (s != Go.bits .or .u32 (Go.bits .or .u32 (Go.bits .or .u32 x0 (x1 * 256)) (x2 * 65536)) (x3 * 16777216)) = false := by
          rw [hbits]
          have := (leN_iff s x0 x1 x2 x3 hcr hx0 hx1 hx2 hx3).1 he
          simpa using this
        simp only [b10]
        clear hbits b10 hx0 hx1 hx2 hx3 hcr he HF2 HSUM HTAKE HTO hto hle
        have HE5 := Aside0.mk (show 5 ≤ e ∧ e ≤ b.length by omega)
        obtain ⟨S, l1, T, l2, n, r3, htc, htn, hc0, big2, n0⟩ := HG.out
        have hres := HRES.out
        rw [insideL, htc] at hres
        dsimp only at hres
        rw [htn] at hres
        dsimp only at hres
        have HTC := Aside0.mk htc
        have HTN := Aside0.mk htn
        have HC0 := Aside0.mk hc0
        have HBN := Aside0.mk (And.intro big2 n0)
        clear HRES HG htc htn hc0 big2 n0
        obtain ⟨pr, hpr⟩ : ∃ pr, programL e S T l2 = pr := ⟨_, rfl⟩
        have HPR := Aside0.mk hpr
        rw [hpr] at hres
        clear hpr
        have HST := Aside0.mk (show S.length ≤ 65536 ∧ T.length ≤ 65536 from st_len HY.out HTC.out HTN.out)
        go_wp2_with (first | ((with_reducible refine gate_dst (N := 85) rfl ?_); refine box_event (N := 85) rfl rfl (cs := #[.slice (some ad) b.length c, .int .i64 5, .int .i64 e, .int .i64 0, .int .i64 0]) (t := 110) ?hr2 ?_; (case hr2 => first | (go_simp; done) | (go_simp; rfl)); intro g hg w1 hbox hb1; have HG := Aside0.mk (show w.heap.size ≤ g ∧ g3 < g by have := HB.out.size; have := H3.out.lt; omega); have H := Aside0.mk (RR.start HR.out HL.out HB.out (below_step HB.out hb1) hg hbox HE5.out); have n2_ := Aside0.mk (H3.out.below hb1); clear HB H3 hbox hb1 hg; have H3 := n2_; clear n2_) | (go_at_call 56; refine (rclasses_ok w _ g b 5 e H.out HY.out _ HTC.out).mono ?_; rintro xx w3 ⟨vs, S0, rfl, hrow, hq1, hq2, hqs⟩; obtain rfl := (hqs S l1 rfl).symm; obtain ⟨As, cs, rfl⟩ := own_len hrow; have HS := Aside0.mk (own_less hrow (show g + 1 ≤ _ from H.out.lt)); have n1_ := Aside0.mk (H3.out.kept (hq2.2 g3 H3.out.lt (by have := HG.out; omega))); clear H3; have H3 := n1_; clear n1_; obtain ⟨jc, hrs, hl1⟩ := hq1; have HTN2 := Aside0.mk (show tableN e ((b.take e).drop jc) = _ from (congrArg (tableN e) (show l1 = (b.take e).drop jc from hl1)).symm.trans HTN.out); have HJC := Aside0.mk (show l1.length = e - jc from rleft_len hrs hl1); have HJE := Aside0.mk (show jc ≤ e from hrs.at_); clear H; have H := Aside0.mk hrs; clear hq2 hrow hqs hl1 hrs) | ((with_reducible refine gate_dst (N := 7) rfl ?_); refine box_event (N := 7) rfl rfl (cs := #[.slice none 0 0, .slice none 0 0, .slice none 0 0]) (t := 112) ?hr2 ?_; (case hr2 => first | (go_simp; done) | (go_simp; rfl)); intro g7 hg7 w1 hbox hb1; have HG7 := Aside0.mk (show g < g7 ∧ (∀ k, (Value.slice As S.length cs).ownBlock = some k → k ≠ g7) by refine ⟨?_, fun k hk => by have := own_lt HS.out k hk; omega⟩; have := H.out.lt; omega); have HT7 := Aside0.mk (show RowAt w1 g7 112 [.slice none 0 0, .slice none 0 0, .slice none 0 0] from ⟨_, hbox, rfl⟩); have n1_ := Aside0.mk (H.out.below hb1); have n2_ := Aside0.mk (H3.out.below hb1); have n3_ := Aside0.mk (own_kept HS.out (fun k hk => hb1.block k (own_lt HS.out k hk))); clear H H3 HS hbox hb1 hg7; have H := n1_; have H3 := n2_; have HS := n3_; clear n1_ n2_ n3_) | ((with_reducible refine gate_store (t := 112) (p := 7) rfl ?_); refine put_event rfl rfl 112 (.tmp 7) (.tmp 88) rfl (off := 0) (u := .agg #[.slice As S.length cs, .slice none 0 0, .slice none 0 0]) (seg := [.slice As S.length cs, .slice none 0 0, .slice none 0 0]) rfl rfl HT7.out rfl (by kernel_rfl) (by simp) (by simp [Value.oneCell']) ?_; intro w4 hrow hgr; have n1_ := Aside0.mk (H.out.through hgr (fun k hk => by injection hk with hk; have := HG7.out; have := H.out.ge; omega)); have n2_ := Aside0.mk (H3.out.grown hgr (by have := HG.out; have := HG7.out; simp; omega)); have n3_ := Aside0.mk (own_kept HS.out (fun k hk => hgr.block k (own_lt HS.out k hk) (by have := HG7.out.2 k hk; simpa using this))); clear H H3 HS; have H := n1_; have H3 := n2_; have HS := n3_; clear n1_ n2_ n3_; clear HT7; have HT7 := Aside0.mk (show RowAt w4 g7 112 [.slice As S.length cs, .slice none 0 0, .slice none 0 0] from hrow); clear hrow hgr; have h1 := H.out.c1) | (go_at_call 57; refine (rnames_ok w _ g b jc e H.out HY.out _ HTN2.out).mono ?_; rintro xx w3 ⟨vt, T0, rfl, hR, hq1, hq2, hqs⟩; obtain rfl := (hqs T l2 rfl).symm; have hrow := own_of_R hR; obtain ⟨At, ct, rfl⟩ := own_len hrow; have HT := Aside0.mk (own_less hrow (show g7 + 1 ≤ _ from HT7.out.lt)); have n1_ := Aside0.mk (H3.out.kept (hq2.2 g3 H3.out.lt (by have := HG.out; omega))); clear H3; have H3 := n1_; clear n1_; have n1_ := Aside0.mk (HT7.out.kept (hq2.2 g7 HT7.out.lt (by have := HG7.out; omega))); clear HT7; have HT7 := n1_; clear n1_; have n1_ := Aside0.mk (own_kept HS.out (fun k hk => hq2.2 k (own_lt HS.out k hk) (by have := own_base HS.out k hk; omega))); clear HS; have HS := n1_; clear n1_; obtain ⟨jn, hrs, hl2⟩ := hq1; have HPR2 := Aside0.mk (program_at hl2 HPR.out); have HL2 := Aside0.mk (show l2 = (b.take e).drop jn from hl2); have HJN := Aside0.mk (show l2.length = e - jn from rleft_len hrs hl2); clear H h1; have H := Aside0.mk hrs; clear hq2 hrow hqs hR hl2 hrs) | ((with_reducible refine gate_store (t := 86) (p := 95) rfl ?_); refine put_event rfl rfl 86 (.tmp 95) (.tmp 94) rfl (off := 1) (u := .slice At T.length ct) (seg := [.slice At T.length ct]) rfl rfl HT7.out rfl (by kernel_rfl) (by simp) (by simp [Value.oneCell']) ?_; intro w4 hrow hgr; have n1_ := Aside0.mk (H.out.through hgr (fun k hk => by injection hk with hk; have := HG7.out; have := H.out.ge; omega)); have n2_ := Aside0.mk (H3.out.grown hgr (by have := HG.out; have := HG7.out; simp; omega)); have n3_ := Aside0.mk (own_kept HS.out (fun k hk => hgr.block k (own_lt HS.out k hk) (by have := HG7.out.2 k hk; simpa using this))); clear H H3 HS; have H := n1_; have H3 := n2_; have HS := n3_; clear n1_ n2_ n3_; have n1_ := Aside0.mk (own_kept HT.out (fun k hk => hgr.block k (own_lt HT.out k hk) (by have := own_base HT.out k hk; simp; omega))); clear HT7 HT; have HT7 := Aside0.mk (show RowAt w4 g7 112 [.slice As S.length cs, .slice At T.length ct, .slice none 0 0] from hrow); have HT := n1_; clear n1_ hrow hgr; have h1 := H.out.c1))
        have hpr := HPR2.out
        have hjl := HJN.out
        have hje := H.out.at_
        have hll : ((b.take e).drop jn).length = e - jn := by have := H.out.e_; rw [List.length_drop, List.length_take]; omega
        rw [programL, manyL, hll, show e - (e - jn) = jn by omega] at hpr
        have hcn : cntL e jn 0 0 ((b.take e).drop jn) = .ok ((n : Int), r3) := by
          have h := HC0.out
          rw [HJN.out, show e - (e - jn) = jn by omega, HL2.out] at h
          exact h
        have HCN := Aside0.mk hcn
        obtain ⟨big2, n0⟩ := HBN.out
        rw [hcn] at hpr
        dsimp only at hpr
        rw [if_neg (show ¬ 65536 < (n : Int) by omega)] at hpr
        dsimp only at hpr
        clear hcn hll HC0 HBN
        rw [if_neg n0, Int.toNat_natCast] at hpr
        have HNB := Aside0.mk (show n ≤ 65536 by omega)
        have hv1 : decide ((n : Int) < 1) = false := decide_eq_false (by omega)
        have hv2 : decide ((n : Int) > 65536) = false := decide_eq_false (by omega)
        have HPRI := Aside0.mk hpr
        have HRES := Aside0.mk hres
        clear hres hpr
        refine (rcount_ok w _ g b _ e H.out HY.out).mono ?_; rintro xx w3 ⟨v, rfl, hq1, hq2, hq3⟩; rw [HCN.out] at hq1 hq3; have n1_ := Aside0.mk (H3.out.kept (hq2.2 g3 H3.out.lt (by have := HG.out; omega))); clear H3; have H3 := n1_; clear n1_; have n1_ := Aside0.mk (HT7.out.kept (hq2.2 g7 HT7.out.lt (by have := HG7.out; omega))); clear HT7; have HT7 := n1_; clear n1_; have n1_ := Aside0.mk (own_kept HS.out (fun k hk => hq2.2 k (own_lt HS.out k hk) (by have := own_base HS.out k hk; omega))); clear HS; have HS := n1_; clear n1_; have n1_ := Aside0.mk (own_kept HT.out (fun k hk => hq2.2 k (own_lt HT.out k hk) (by have := own_base HT.out k hk; have := HG7.out; omega))); clear HT; have HT := n1_; clear n1_; clear H hq2 h1
        obtain rfl := hq3 _ r3 rfl
        obtain ⟨j, hrs, hr⟩ := hq1
        have HR3 := Aside0.mk (show r3 = (b.take e).drop j from hr)
        have H := Aside0.mk hrs
        clear hrs hr hq3
        go_wp2_with (first
          | (((with_reducible refine gate_dst (N := 12) rfl ?_); refine box_event (N := 12) rfl rfl (cs := #[.int .i64 0, .int .i64 0]) (t := 115) ?hr2 ?_; (case hr2 => first | (go_simp; done) | (go_simp; rfl)); intro gu hgu w1 hbox hb1; have HU := Aside0.mk (show RowAt w1 gu 115 [.int .i64 0, .int .i64 0] from ⟨_, hbox, rfl⟩); have HGU := Aside0.mk (show g7 < gu ∧ (∀ k, (Value.slice As S.length cs).ownBlock = some k → k < gu) ∧ (∀ k, (Value.slice At T.length ct).ownBlock = some k → k < gu) by refine ⟨?_, fun k hk => ?_, fun k hk => ?_⟩; (have := HT7.out.lt; omega); (have := own_lt HS.out k hk; omega); (have := own_lt HT.out k hk; omega)); have n1_ := Aside0.mk (H.out.below hb1); have n2_ := Aside0.mk (H3.out.below hb1); have n3_ := Aside0.mk (own_kept HS.out (fun k hk => hb1.block k (own_lt HS.out k hk))); have n4_ := Aside0.mk (own_kept HT.out (fun k hk => hb1.block k (own_lt HT.out k hk))); have n5_ := Aside0.mk (HT7.out.below hb1); clear H H3 HS HT HT7 hbox hb1 hgu; have H := n1_; have H3 := n2_; have HS := n3_; have HT := n4_; have HT7 := n5_; clear n1_ n2_ n3_ n4_ n5_)))
        have HI := Aside0.mk (show LI w _ g gu g3 g7 As At cs ct (.slice none 0 0) S T 0 0 [] from ⟨H3.out, HT7.out, HU.out, HS.out, HT.out, World.ownsRow_nil _ _ _ _, HGU.out.2.1, HGU.out.2.2, by have := HG3.out; have := HG.out; have := HG7.out; have := HGU.out; omega, H.out.lt⟩)
        clear H3 HT7 HU HS HT hv1 hv2
        go_loopw [11, 13] (fun v11 v13 wr => ∃ (q : Nat) (acc : List Ins) (kc kn : Nat), v13 = .int .i64 q ∧ Aside0 (acc.length = q ∧ q ≤ n) ∧ Aside0 (LI w wr g gu g3 g7 As At cs ct v11 S T kc kn acc) ∧ Aside0 (RI w wr g b e n S T q kc kn acc pr)) (fun _ v13 _ => n - (intOf v13).toNat)
        case atStart => exact ⟨0, [], 0, 0, rfl, ⟨rfl, Nat.zero_le _⟩, HI, ⟨Or.inl ⟨j, H.out, Nat.zero_le _, Nat.zero_le _, by rw [← HR3.out]; exact HPRI.out⟩⟩⟩
        case round =>
          clear HI H HPRI
          obtain ⟨q, acc, kc, kn, rfl, HAQ, HI, hcase⟩ := hrel
          have qb : (q : Int) ≤ 65536 := by have := HAQ.out; have := HNB.out; omega
          obtain ⟨at_, hrs, hkc, hkn, hins⟩ | ⟨f, j2, hrs, hf, hpe⟩ := hcase.out
          · have H := Aside0.mk hrs
            clear hcase hrs
            by_cases c1 : q < n
            · all_goals
                have b11 : decide ((q : Int) < (n : Int)) = true := decide_eq_true (by omega)
                rw [show n - q = (n - (q + 1)) + 1 by omega, insL_step] at hins
                have HBD := Aside0.mk (show S.length ≤ 65536 ∧ T.length ≤ 65536 ∧ kc ≤ 65536 ∧ kn ≤ 65536 by have := HST.out; omega)
                obtain ⟨ir, hir⟩ : ∃ ir, instrL e q n kc kn S T ((b.take e).drop at_) = ir := ⟨_, rfl⟩
                have HIN := Aside0.mk hir
                rw [hir] at hins
                have HLE := Aside0.mk (fun z r (hzr : ir = .ok (z, r)) => instrL_le (hir.trans hzr) hkc hkn)
                have HINS := Aside0.mk hins
                clear hir hins hkc hkn
                have t0 := (HI.out.tb.cell 0).trans (show _ = some (.slice As S.length cs) from rfl); have t1 := (HI.out.tb.cell 1).trans (show _ = some (.slice At T.length ct) from rfl); have t2 := (HI.out.tb.cell 2).trans (show _ = some (.slice none 0 0) from rfl)
                match ir with
                | .error f =>
                  go_wp2_with (first
                    | (go_at_call 60; refine (rok_same w _ g b _ e _ _ true H.out rfl).mono ?_; rintro xx w3 ⟨rfl, hrs, hq2⟩; clear H t0 t1 t2; have H := Aside0.mk hrs; have n1_ := Aside0.mk (HI.out.step hq2); clear HI hq2 hrs; have HI := n1_; clear n1_; have t0 := (HI.out.tb.cell 0).trans (show _ = some (.slice As S.length cs) from rfl); have t1 := (HI.out.tb.cell 1).trans (show _ = some (.slice At T.length ct) from rfl); have t2 := (HI.out.tb.cell 2).trans (show _ = some (.slice none 0 0) from rfl))
                    | ((go_at_call 61; refine (instr_calls w _ g b at_ e gu q n (by omega) As At cs ct (.slice none 0 0) ⟨_, _, _, rfl⟩ S T kc kn (HBD.out) H.out HY.out HI.out.ord.2 (HI.out.ti) _ HIN.out).mono ?_; rintro xx w6 ⟨y, kc', kn', hx, hti, hrs, hz⟩; obtain rfl : xx = .returned (.agg #[.int .i64 y.f0, .int .i64 y.f1, .int .u64 y.f2.f0, .int .u64 y.f2.f1, .int .u64 y.f2.f2, .int .u64 y.f2.f3, .string y.f3]) := hx; have n1_ := Aside0.mk (HI.out.after hti); clear HI H t0 t1 t2; have HI := n1_; clear n1_ hti; dsimp only); obtain ⟨j2, hf, hrs⟩ := hrs; have HF := Aside0.mk hf; have H := Aside0.mk hrs; clear hrs hz hf)
                    | (((with_reducible refine gate_builtin (b := .append) (xs := #[.tmp 120, .tmp 126]) rfl ?_); at_builtin; refine print_append_cells (gu + 1) rfl (.tmp 120) (.tmp 126) 40 78 (.agg #[.int .i64 0, .int .i64 0, .int .u64 0, .int .u64 0, .int .u64 0, .int .u64 0, .string (⟨#[]⟩ : ByteArray)]) 7 64 rfl Try.underlying40 (by kernel_rfl) rfl (by decide) (by decide) u11 acc.length (acc.flatMap insCells) (insCells y) rfl rfl rfl (by simp [insCells, Value.oneCell']) HI.out.row (Below.refl _ _) (by have := HI.out.us.lt; omega) (by have := HAQ.out; omega) ?_; intro v9 w9 hown hbel hgr hat; have n1_ := Aside0.mk (HI.out.append (y := y) hown hgr); have n2_ := Aside0.mk (H.out.through hgr (fun k hk => by have := own_base HI.out.row k hk; have := HI.out.ord; omega)); clear H HI hown hgr hat hbel; have HI := n1_; have H := n2_; clear n1_ n2_); (repeat (first | go_values | go_skip | go_guarded | go_step | go_upon | go_back)); refine ⟨⟨q + 1, acc ++ [y], kc', kn', by go_num, ⟨by rw [List.length_append, List.length_singleton]; have := HAQ.out; omega⟩, HI, ⟨Or.inr ⟨f, j2, H.out, HF.out, HINS.out.symm⟩⟩⟩, ?_⟩; (simp [intOf]; omega)))
                | .ok (z, r4) =>
                  go_wp2_with (first
                    | (go_at_call 60; refine (rok_same w _ g b _ e _ _ true H.out rfl).mono ?_; rintro xx w3 ⟨rfl, hrs, hq2⟩; clear H t0 t1 t2; have H := Aside0.mk hrs; have n1_ := Aside0.mk (HI.out.step hq2); clear HI hq2 hrs; have HI := n1_; clear n1_; have t0 := (HI.out.tb.cell 0).trans (show _ = some (.slice As S.length cs) from rfl); have t1 := (HI.out.tb.cell 1).trans (show _ = some (.slice At T.length ct) from rfl); have t2 := (HI.out.tb.cell 2).trans (show _ = some (.slice none 0 0) from rfl))
                    | ((go_at_call 61; refine (instr_calls w _ g b at_ e gu q n (by omega) As At cs ct (.slice none 0 0) ⟨_, _, _, rfl⟩ S T kc kn (HBD.out) H.out HY.out HI.out.ord.2 (HI.out.ti) _ HIN.out).mono ?_; rintro xx w6 ⟨y, kc', kn', hx, hti, hrs, hz⟩; obtain rfl : xx = .returned (.agg #[.int .i64 y.f0, .int .i64 y.f1, .int .u64 y.f2.f0, .int .u64 y.f2.f1, .int .u64 y.f2.f2, .int .u64 y.f2.f3, .string y.f3]) := hx; have n1_ := Aside0.mk (HI.out.after hti); clear HI H t0 t1 t2; have HI := n1_; clear n1_ hti; dsimp only); obtain ⟨j2, hrs, hr4⟩ := hrs; obtain rfl := hz z r4 rfl; have HR4 := Aside0.mk (show r4 = (b.take e).drop j2 from hr4); have H := Aside0.mk hrs; clear hrs hz hr4)
                    | (((with_reducible refine gate_builtin (b := .append) (xs := #[.tmp 120, .tmp 126]) rfl ?_); at_builtin; refine print_append_cells (gu + 1) rfl (.tmp 120) (.tmp 126) 40 78 (.agg #[.int .i64 0, .int .i64 0, .int .u64 0, .int .u64 0, .int .u64 0, .int .u64 0, .string (⟨#[]⟩ : ByteArray)]) 7 64 rfl Try.underlying40 (by kernel_rfl) rfl (by decide) (by decide) u11 acc.length (acc.flatMap insCells) (insCells y) rfl rfl rfl (by simp [insCells, Value.oneCell']) HI.out.row (Below.refl _ _) (by have := HI.out.us.lt; omega) (by have := HAQ.out; omega) ?_; intro v9 w9 hown hbel hgr hat; have n1_ := Aside0.mk (HI.out.append (y := y) hown hgr); have n2_ := Aside0.mk (H.out.through hgr (fun k hk => by have := own_base HI.out.row k hk; have := HI.out.ord; omega)); clear H HI hown hgr hat hbel; have HI := n1_; have H := n2_; clear n1_ n2_); (repeat (first | go_values | go_skip | go_guarded | go_step | go_upon | go_back)); have hle := HLE.out _ r4 rfl; have hin := HINS.out; dsimp only at hin hle; refine ⟨⟨q + 1, acc ++ [y], kc', kn', by go_num, ⟨by rw [List.length_append, List.length_singleton]; have := HAQ.out; omega⟩, HI, ⟨Or.inl ⟨j2, H.out, hle.1, hle.2, by rw [← HR4.out]; exact hin⟩⟩⟩, ?_⟩; (simp [intOf]; omega)))
            · have b11 : decide ((q : Int) < (n : Int)) = false := decide_eq_false (by omega)
              rw [show n - q = 0 by omega, insL] at hins
              have hres := HRES.out
              rw [← hins] at hres
              dsimp only at hres
              have h5 : e - ((b.take e).drop 5).length = 5 := by have := HE5.out; rw [List.length_drop, List.length_take]; omega
              have hlat : ((b.take e).drop at_).length = e - at_ := by have := H.out.e_; rw [List.length_drop, List.length_take]; omega
              have hat := H.out.at_
              rw [h5, hlat, HJC.out, show e - (e - jc) = jc by have := HJE.out; omega, show e - (e - at_) = at_ by omega] at hres
              clear HRES hins h5 hlat
              have H3 := Aside0.mk HI.out.h3
              have HT7 := Aside0.mk HI.out.tb
              have HU := Aside0.mk HI.out.us
              have HS := Aside0.mk HI.out.s
              have HT := Aside0.mk HI.out.t
              by_cases k1 : kc < S.length
              · all_goals
                  have d1 : decide ((kc : Int) < (S.length : Int)) = true := decide_eq_true (by omega)
                  rw [if_pos k1] at hres
                  have HRES := Aside0.mk hres
                  clear hres
                  have t0 := (HT7.out.cell 0).trans (show _ = some (.slice As S.length cs) from rfl); have t1 := (HT7.out.cell 1).trans (show _ = some (.slice At T.length ct) from rfl); have s0 := (HU.out.cell 0).trans (show _ = some (.int .i64 _) from rfl); have s1 := (HU.out.cell 1).trans (show _ = some (.int .i64 _) from rfl)
                  have h1 := H.out.c1
                  go_wp2_with (first
                    | (go_at_call 59; refine (wrong_ok w _ g b _ e _ _ H.out).mono ?_; rintro xx w3 ⟨rfl, hrs, hq2⟩; have HF := Aside0.mk (show ((204 : Int) == 0) = false by decide); clear H h1; have H := Aside0.mk hrs; have n1_ := Aside0.mk (H3.out.kept (hq2.2 g3 H3.out.lt (by have := HG.out; omega))); clear H3; have H3 := n1_; clear n1_; have n1_ := Aside0.mk (HT7.out.kept (hq2.2 g7 HT7.out.lt (by have := HG7.out; omega))); clear HT7; have HT7 := n1_; clear n1_; have n1_ := Aside0.mk (own_kept HS.out (fun k hk => hq2.2 k (own_lt HS.out k hk) (by have := own_base HS.out k hk; omega))); clear HS; have HS := n1_; clear n1_; have n1_ := Aside0.mk (own_kept HT.out (fun k hk => hq2.2 k (own_lt HT.out k hk) (by have := own_base HT.out k hk; have := HG7.out; omega))); clear HT; have HT := n1_; clear n1_; have n1_ := Aside0.mk (HU.out.kept (hq2.2 gu HU.out.lt (by have := HG7.out; have := HGU.out; omega))); clear HU t0 t1 s0 s1; have HU := n1_; clear n1_; clear hq2 hrs; have h1 := H.out.c1; have t0 := (HT7.out.cell 0).trans (show _ = some (.slice As S.length cs) from rfl); have t1 := (HT7.out.cell 1).trans (show _ = some (.slice At T.length ct) from rfl); have s0 := (HU.out.cell 0).trans (show _ = some (.int .i64 _) from rfl); have s1 := (HU.out.cell 1).trans (show _ = some (.int .i64 _) from rfl))
                    | (go_at_call 59; refine (wrong_bad w _ g b _ e _ _ _ _ H.out (by simpa using HF.out)).mono ?_; rintro xx w3 ⟨rfl, hrs, hq2⟩; clear H h1; have H := Aside0.mk hrs; have n1_ := Aside0.mk (H3.out.kept (hq2.2 g3 H3.out.lt (by have := HG.out; omega))); clear H3; have H3 := n1_; clear n1_; have n1_ := Aside0.mk (HT7.out.kept (hq2.2 g7 HT7.out.lt (by have := HG7.out; omega))); clear HT7; have HT7 := n1_; clear n1_; have n1_ := Aside0.mk (own_kept HS.out (fun k hk => hq2.2 k (own_lt HS.out k hk) (by have := own_base HS.out k hk; omega))); clear HS; have HS := n1_; clear n1_; have n1_ := Aside0.mk (own_kept HT.out (fun k hk => hq2.2 k (own_lt HT.out k hk) (by have := own_base HT.out k hk; have := HG7.out; omega))); clear HT; have HT := n1_; clear n1_; have n1_ := Aside0.mk (HU.out.kept (hq2.2 gu HU.out.lt (by have := HG7.out; have := HGU.out; omega))); clear HU t0 t1 s0 s1; have HU := n1_; clear n1_; clear hq2 hrs; have h1 := H.out.c1; have t0 := (HT7.out.cell 0).trans (show _ = some (.slice As S.length cs) from rfl); have t1 := (HT7.out.cell 1).trans (show _ = some (.slice At T.length ct) from rfl); have s0 := (HU.out.cell 0).trans (show _ = some (.int .i64 _) from rfl); have s1 := (HU.out.cell 1).trans (show _ = some (.int .i64 _) from rfl))
                    | (go_at_call 60; refine (rok_same w _ g b _ e _ _ false H.out HF.out).mono ?_; rintro xx w3 ⟨rfl, hrs, hq2⟩; clear H h1; have H := Aside0.mk hrs; have n1_ := Aside0.mk (H3.out.kept (hq2.2 g3 H3.out.lt (by have := HG.out; omega))); clear H3; have H3 := n1_; clear n1_; have n1_ := Aside0.mk (HT7.out.kept (hq2.2 g7 HT7.out.lt (by have := HG7.out; omega))); clear HT7; have HT7 := n1_; clear n1_; have n1_ := Aside0.mk (own_kept HS.out (fun k hk => hq2.2 k (own_lt HS.out k hk) (by have := own_base HS.out k hk; omega))); clear HS; have HS := n1_; clear n1_; have n1_ := Aside0.mk (own_kept HT.out (fun k hk => hq2.2 k (own_lt HT.out k hk) (by have := own_base HT.out k hk; have := HG7.out; omega))); clear HT; have HT := n1_; clear n1_; have n1_ := Aside0.mk (HU.out.kept (hq2.2 gu HU.out.lt (by have := HG7.out; have := HGU.out; omega))); clear HU t0 t1 s0 s1; have HU := n1_; clear n1_; clear hq2 hrs; have h1 := H.out.c1; have t0 := (HT7.out.cell 0).trans (show _ = some (.slice As S.length cs) from rfl); have t1 := (HT7.out.cell 1).trans (show _ = some (.slice At T.length ct) from rfl); have s0 := (HU.out.cell 0).trans (show _ = some (.int .i64 _) from rfl); have s1 := (HU.out.cell 1).trans (show _ = some (.int .i64 _) from rfl); have h3 := H.out.c3; have h4 := H.out.c4))
                  all_goals
                    go_still_tail 5, (by kernel_rfl)
                    have HB := Aside0.mk (below_drew H.out.old)
                    have n2_ := Aside0.mk (H3.out.below (below_drew (Below.refl _ _)))
                    clear H3
                    have H3 := n2_
                    clear n2_
                    (refine put_event rfl rfl 46 (.tmp 3) (.tmp 163) rfl (off := 0) (u := .agg #[.int .i64 (5), .int .i64 (204)]) (seg := [.int .i64 (5), .int .i64 (204)]) rfl rfl H3.out rfl (by kernel_rfl) (by simp) (by simp [Value.oneCell']) ?_; intro w5 hrow hgr; have n1_ := Aside0.mk (pw_below_grown HB.out (some g3) HB.out.size hgr (fun k hk => by injection hk with hk; have := HG3.out; omega)); have HX := Aside0.mk (show RowAt w5 g3 46 [.int .i64 (5), .int .i64 (204)] from hrow); clear H3 HB hrow; have HB := n1_; clear n1_)
                    go_wp2
                    refine bodyPost_ret (results_tc rfl _ _ g3 46 #[.int .i64 (5), .int .i64 (204)] (0, 0) _ rfl (by obtain ⟨cur, h1, h2⟩ := HX.out; rw [h1, ← h2]) Try.underlying46 rfl (by kernel_rfl)) rfl ?_
                    rw [← HRES.out]
                    exact ⟨rfl, HB.out⟩
              · have d1 : decide ((kc : Int) < (S.length : Int)) = false := decide_eq_false (by omega)
                rw [if_neg k1] at hres
                by_cases k2 : kn < T.length
                · all_goals
                    have d2 : decide ((kn : Int) < (T.length : Int)) = true := decide_eq_true (by omega)
                    rw [if_pos k2] at hres
                    have HRES := Aside0.mk hres
                    clear hres
                    have t0 := (HT7.out.cell 0).trans (show _ = some (.slice As S.length cs) from rfl); have t1 := (HT7.out.cell 1).trans (show _ = some (.slice At T.length ct) from rfl); have s0 := (HU.out.cell 0).trans (show _ = some (.int .i64 _) from rfl); have s1 := (HU.out.cell 1).trans (show _ = some (.int .i64 _) from rfl)
                    have h1 := H.out.c1
                    go_wp2_with (first
                      | (go_at_call 59; refine (wrong_ok w _ g b _ e _ _ H.out).mono ?_; rintro xx w3 ⟨rfl, hrs, hq2⟩; have HF := Aside0.mk (show ((204 : Int) == 0) = false by decide); clear H h1; have H := Aside0.mk hrs; have n1_ := Aside0.mk (H3.out.kept (hq2.2 g3 H3.out.lt (by have := HG.out; omega))); clear H3; have H3 := n1_; clear n1_; have n1_ := Aside0.mk (HT7.out.kept (hq2.2 g7 HT7.out.lt (by have := HG7.out; omega))); clear HT7; have HT7 := n1_; clear n1_; have n1_ := Aside0.mk (own_kept HS.out (fun k hk => hq2.2 k (own_lt HS.out k hk) (by have := own_base HS.out k hk; omega))); clear HS; have HS := n1_; clear n1_; have n1_ := Aside0.mk (own_kept HT.out (fun k hk => hq2.2 k (own_lt HT.out k hk) (by have := own_base HT.out k hk; have := HG7.out; omega))); clear HT; have HT := n1_; clear n1_; have n1_ := Aside0.mk (HU.out.kept (hq2.2 gu HU.out.lt (by have := HG7.out; have := HGU.out; omega))); clear HU t0 t1 s0 s1; have HU := n1_; clear n1_; clear hq2 hrs; have h1 := H.out.c1; have t0 := (HT7.out.cell 0).trans (show _ = some (.slice As S.length cs) from rfl); have t1 := (HT7.out.cell 1).trans (show _ = some (.slice At T.length ct) from rfl); have s0 := (HU.out.cell 0).trans (show _ = some (.int .i64 _) from rfl); have s1 := (HU.out.cell 1).trans (show _ = some (.int .i64 _) from rfl))
                      | (go_at_call 59; refine (wrong_bad w _ g b _ e _ _ _ _ H.out (by simpa using HF.out)).mono ?_; rintro xx w3 ⟨rfl, hrs, hq2⟩; clear H h1; have H := Aside0.mk hrs; have n1_ := Aside0.mk (H3.out.kept (hq2.2 g3 H3.out.lt (by have := HG.out; omega))); clear H3; have H3 := n1_; clear n1_; have n1_ := Aside0.mk (HT7.out.kept (hq2.2 g7 HT7.out.lt (by have := HG7.out; omega))); clear HT7; have HT7 := n1_; clear n1_; have n1_ := Aside0.mk (own_kept HS.out (fun k hk => hq2.2 k (own_lt HS.out k hk) (by have := own_base HS.out k hk; omega))); clear HS; have HS := n1_; clear n1_; have n1_ := Aside0.mk (own_kept HT.out (fun k hk => hq2.2 k (own_lt HT.out k hk) (by have := own_base HT.out k hk; have := HG7.out; omega))); clear HT; have HT := n1_; clear n1_; have n1_ := Aside0.mk (HU.out.kept (hq2.2 gu HU.out.lt (by have := HG7.out; have := HGU.out; omega))); clear HU t0 t1 s0 s1; have HU := n1_; clear n1_; clear hq2 hrs; have h1 := H.out.c1; have t0 := (HT7.out.cell 0).trans (show _ = some (.slice As S.length cs) from rfl); have t1 := (HT7.out.cell 1).trans (show _ = some (.slice At T.length ct) from rfl); have s0 := (HU.out.cell 0).trans (show _ = some (.int .i64 _) from rfl); have s1 := (HU.out.cell 1).trans (show _ = some (.int .i64 _) from rfl))
                      | (go_at_call 60; refine (rok_same w _ g b _ e _ _ false H.out HF.out).mono ?_; rintro xx w3 ⟨rfl, hrs, hq2⟩; clear H h1; have H := Aside0.mk hrs; have n1_ := Aside0.mk (H3.out.kept (hq2.2 g3 H3.out.lt (by have := HG.out; omega))); clear H3; have H3 := n1_; clear n1_; have n1_ := Aside0.mk (HT7.out.kept (hq2.2 g7 HT7.out.lt (by have := HG7.out; omega))); clear HT7; have HT7 := n1_; clear n1_; have n1_ := Aside0.mk (own_kept HS.out (fun k hk => hq2.2 k (own_lt HS.out k hk) (by have := own_base HS.out k hk; omega))); clear HS; have HS := n1_; clear n1_; have n1_ := Aside0.mk (own_kept HT.out (fun k hk => hq2.2 k (own_lt HT.out k hk) (by have := own_base HT.out k hk; have := HG7.out; omega))); clear HT; have HT := n1_; clear n1_; have n1_ := Aside0.mk (HU.out.kept (hq2.2 gu HU.out.lt (by have := HG7.out; have := HGU.out; omega))); clear HU t0 t1 s0 s1; have HU := n1_; clear n1_; clear hq2 hrs; have h1 := H.out.c1; have t0 := (HT7.out.cell 0).trans (show _ = some (.slice As S.length cs) from rfl); have t1 := (HT7.out.cell 1).trans (show _ = some (.slice At T.length ct) from rfl); have s0 := (HU.out.cell 0).trans (show _ = some (.int .i64 _) from rfl); have s1 := (HU.out.cell 1).trans (show _ = some (.int .i64 _) from rfl); have h3 := H.out.c3; have h4 := H.out.c4))
                    all_goals
                      go_still_tail 5, (by kernel_rfl)
                      have HB := Aside0.mk (below_drew H.out.old)
                      have n2_ := Aside0.mk (H3.out.below (below_drew (Below.refl _ _)))
                      clear H3
                      have H3 := n2_
                      clear n2_
                      (refine put_event rfl rfl 46 (.tmp 3) (.tmp 163) rfl (off := 0) (u := .agg #[.int .i64 ((jc : Int)), .int .i64 (204)]) (seg := [.int .i64 ((jc : Int)), .int .i64 (204)]) rfl rfl H3.out rfl (by kernel_rfl) (by simp) (by simp [Value.oneCell']) ?_; intro w5 hrow hgr; have n1_ := Aside0.mk (pw_below_grown HB.out (some g3) HB.out.size hgr (fun k hk => by injection hk with hk; have := HG3.out; omega)); have HX := Aside0.mk (show RowAt w5 g3 46 [.int .i64 ((jc : Int)), .int .i64 (204)] from hrow); clear H3 HB hrow; have HB := n1_; clear n1_)
                      go_wp2
                      refine bodyPost_ret (results_tc rfl _ _ g3 46 #[.int .i64 ((jc : Int)), .int .i64 (204)] (0, 0) _ rfl (by obtain ⟨cur, h1, h2⟩ := HX.out; rw [h1, ← h2]) Try.underlying46 rfl (by kernel_rfl)) rfl ?_
                      rw [← HRES.out]
                      exact ⟨rfl, HB.out⟩
                · have d2 : decide ((kn : Int) < (T.length : Int)) = false := decide_eq_false (by omega)
                  rw [if_neg k2] at hres
                  by_cases k3 : e - at_ ≠ 0
                  · all_goals
                      have d3 : decide ((at_ : Int) < (e : Int)) = true := decide_eq_true (by omega)
                      rw [if_pos k3] at hres
                      have HRES := Aside0.mk hres
                      clear hres
                      have t0 := (HT7.out.cell 0).trans (show _ = some (.slice As S.length cs) from rfl); have t1 := (HT7.out.cell 1).trans (show _ = some (.slice At T.length ct) from rfl); have s0 := (HU.out.cell 0).trans (show _ = some (.int .i64 _) from rfl); have s1 := (HU.out.cell 1).trans (show _ = some (.int .i64 _) from rfl)
                      have h1 := H.out.c1
                      go_wp2_with (first
                        | (go_at_call 59; refine (wrong_ok w _ g b _ e _ _ H.out).mono ?_; rintro xx w3 ⟨rfl, hrs, hq2⟩; have HF := Aside0.mk (show ((201 : Int) == 0) = false by decide); clear H h1; have H := Aside0.mk hrs; have n1_ := Aside0.mk (H3.out.kept (hq2.2 g3 H3.out.lt (by have := HG.out; omega))); clear H3; have H3 := n1_; clear n1_; have n1_ := Aside0.mk (HT7.out.kept (hq2.2 g7 HT7.out.lt (by have := HG7.out; omega))); clear HT7; have HT7 := n1_; clear n1_; have n1_ := Aside0.mk (own_kept HS.out (fun k hk => hq2.2 k (own_lt HS.out k hk) (by have := own_base HS.out k hk; omega))); clear HS; have HS := n1_; clear n1_; have n1_ := Aside0.mk (own_kept HT.out (fun k hk => hq2.2 k (own_lt HT.out k hk) (by have := own_base HT.out k hk; have := HG7.out; omega))); clear HT; have HT := n1_; clear n1_; have n1_ := Aside0.mk (HU.out.kept (hq2.2 gu HU.out.lt (by have := HG7.out; have := HGU.out; omega))); clear HU t0 t1 s0 s1; have HU := n1_; clear n1_; clear hq2 hrs; have h1 := H.out.c1; have t0 := (HT7.out.cell 0).trans (show _ = some (.slice As S.length cs) from rfl); have t1 := (HT7.out.cell 1).trans (show _ = some (.slice At T.length ct) from rfl); have s0 := (HU.out.cell 0).trans (show _ = some (.int .i64 _) from rfl); have s1 := (HU.out.cell 1).trans (show _ = some (.int .i64 _) from rfl))
                        | (go_at_call 59; refine (wrong_bad w _ g b _ e _ _ _ _ H.out (by simpa using HF.out)).mono ?_; rintro xx w3 ⟨rfl, hrs, hq2⟩; clear H h1; have H := Aside0.mk hrs; have n1_ := Aside0.mk (H3.out.kept (hq2.2 g3 H3.out.lt (by have := HG.out; omega))); clear H3; have H3 := n1_; clear n1_; have n1_ := Aside0.mk (HT7.out.kept (hq2.2 g7 HT7.out.lt (by have := HG7.out; omega))); clear HT7; have HT7 := n1_; clear n1_; have n1_ := Aside0.mk (own_kept HS.out (fun k hk => hq2.2 k (own_lt HS.out k hk) (by have := own_base HS.out k hk; omega))); clear HS; have HS := n1_; clear n1_; have n1_ := Aside0.mk (own_kept HT.out (fun k hk => hq2.2 k (own_lt HT.out k hk) (by have := own_base HT.out k hk; have := HG7.out; omega))); clear HT; have HT := n1_; clear n1_; have n1_ := Aside0.mk (HU.out.kept (hq2.2 gu HU.out.lt (by have := HG7.out; have := HGU.out; omega))); clear HU t0 t1 s0 s1; have HU := n1_; clear n1_; clear hq2 hrs; have h1 := H.out.c1; have t0 := (HT7.out.cell 0).trans (show _ = some (.slice As S.length cs) from rfl); have t1 := (HT7.out.cell 1).trans (show _ = some (.slice At T.length ct) from rfl); have s0 := (HU.out.cell 0).trans (show _ = some (.int .i64 _) from rfl); have s1 := (HU.out.cell 1).trans (show _ = some (.int .i64 _) from rfl))
                        | (go_at_call 60; refine (rok_same w _ g b _ e _ _ false H.out HF.out).mono ?_; rintro xx w3 ⟨rfl, hrs, hq2⟩; clear H h1; have H := Aside0.mk hrs; have n1_ := Aside0.mk (H3.out.kept (hq2.2 g3 H3.out.lt (by have := HG.out; omega))); clear H3; have H3 := n1_; clear n1_; have n1_ := Aside0.mk (HT7.out.kept (hq2.2 g7 HT7.out.lt (by have := HG7.out; omega))); clear HT7; have HT7 := n1_; clear n1_; have n1_ := Aside0.mk (own_kept HS.out (fun k hk => hq2.2 k (own_lt HS.out k hk) (by have := own_base HS.out k hk; omega))); clear HS; have HS := n1_; clear n1_; have n1_ := Aside0.mk (own_kept HT.out (fun k hk => hq2.2 k (own_lt HT.out k hk) (by have := own_base HT.out k hk; have := HG7.out; omega))); clear HT; have HT := n1_; clear n1_; have n1_ := Aside0.mk (HU.out.kept (hq2.2 gu HU.out.lt (by have := HG7.out; have := HGU.out; omega))); clear HU t0 t1 s0 s1; have HU := n1_; clear n1_; clear hq2 hrs; have h1 := H.out.c1; have t0 := (HT7.out.cell 0).trans (show _ = some (.slice As S.length cs) from rfl); have t1 := (HT7.out.cell 1).trans (show _ = some (.slice At T.length ct) from rfl); have s0 := (HU.out.cell 0).trans (show _ = some (.int .i64 _) from rfl); have s1 := (HU.out.cell 1).trans (show _ = some (.int .i64 _) from rfl); have h3 := H.out.c3; have h4 := H.out.c4))
                      all_goals
                        go_still_tail 5, (by kernel_rfl)
                        have HB := Aside0.mk (below_drew H.out.old)
                        have n2_ := Aside0.mk (H3.out.below (below_drew (Below.refl _ _)))
                        clear H3
                        have H3 := n2_
                        clear n2_
                        (refine put_event rfl rfl 46 (.tmp 3) (.tmp 163) rfl (off := 0) (u := .agg #[.int .i64 ((at_ : Int)), .int .i64 (201)]) (seg := [.int .i64 ((at_ : Int)), .int .i64 (201)]) rfl rfl H3.out rfl (by kernel_rfl) (by simp) (by simp [Value.oneCell']) ?_; intro w5 hrow hgr; have n1_ := Aside0.mk (pw_below_grown HB.out (some g3) HB.out.size hgr (fun k hk => by injection hk with hk; have := HG3.out; omega)); have HX := Aside0.mk (show RowAt w5 g3 46 [.int .i64 ((at_ : Int)), .int .i64 (201)] from hrow); clear H3 HB hrow; have HB := n1_; clear n1_)
                        go_wp2
                        refine bodyPost_ret (results_tc rfl _ _ g3 46 #[.int .i64 ((at_ : Int)), .int .i64 (201)] (0, 0) _ rfl (by obtain ⟨cur, h1, h2⟩ := HX.out; rw [h1, ← h2]) Try.underlying46 rfl (by kernel_rfl)) rfl ?_
                        rw [← HRES.out]
                        exact ⟨rfl, HB.out⟩
                  · have d3 : decide ((at_ : Int) < (e : Int)) = false := decide_eq_false (by omega)
                    rw [if_neg k3] at hres
                    have HRES := Aside0.mk hres
                    have HROW := Aside0.mk HI.out.row
                    clear hres
                    have t0 := (HT7.out.cell 0).trans (show _ = some (.slice As S.length cs) from rfl); have t1 := (HT7.out.cell 1).trans (show _ = some (.slice At T.length ct) from rfl); have s0 := (HU.out.cell 0).trans (show _ = some (.int .i64 _) from rfl); have s1 := (HU.out.cell 1).trans (show _ = some (.int .i64 _) from rfl)
                    have h1 := H.out.c1
                    go_wp2_with (first
                      | (go_at_call 60; refine (rok_same w _ g b _ e _ _ true H.out rfl).mono ?_; rintro xx w3 ⟨rfl, hrs, hq2⟩; clear H; have H := Aside0.mk hrs; have n1_ := Aside0.mk (H3.out.kept (hq2.2 g3 H3.out.lt (by have := HG.out; omega))); clear H3; have H3 := n1_; clear n1_; have n1_ := Aside0.mk (own_kept HROW.out (fun k hk => hq2.2 k (own_lt HROW.out k hk) (by have := own_base HROW.out k hk; have := HG7.out; have := HGU.out; omega))); clear HROW hq2 hrs; have HROW := n1_; clear n1_; have HB := Aside0.mk H.out.old)
                      | ((with_reducible refine gate_store (t := 46) (p := 3) rfl ?_); (refine put_event rfl rfl 46 (.tmp 3) (.tmp 165) rfl (off := 0) (u := .agg #[.int .i64 (0), .int .i64 (0)]) (seg := [.int .i64 (0), .int .i64 (0)]) rfl rfl H3.out rfl (by kernel_rfl) (by simp) (by simp [Value.oneCell']) ?_; intro w5 hrow hgr; have n1_ := Aside0.mk (pw_below_grown HB.out (some g3) HB.out.size hgr (fun k hk => by injection hk with hk; have := HG3.out; omega)); have HX := Aside0.mk (show RowAt w5 g3 46 [.int .i64 (0), .int .i64 (0)] from hrow); clear H3 HB hrow; have HB := n1_; clear n1_); have HGR := Aside0.mk hgr; clear hgr))
                    refine bodyPost_ret (results_tc rfl _ _ g3 46 #[.int .i64 (0), .int .i64 (0)] (0, 0) _ rfl (by obtain ⟨cur, h1, h2⟩ := HX.out; rw [h1, ← h2]) Try.underlying46 rfl (by kernel_rfl)) rfl ?_
                    rw [← HRES.out]
                    refine ⟨⟨_, rfl, own_less (own_kept HROW.out (fun k hk => HGR.out.block k (own_lt HROW.out k hk) (by have := own_base HROW.out k hk; have := HI.out.ord; simp; omega))) (by have := HI.out.ord; omega)⟩, HB.out⟩
          · all_goals
              have HF := Aside0.mk (show (f.2 == 0) = false by simpa using hf)
              have H := Aside0.mk hrs
              have hres := HRES.out
              rw [hpe] at hres
              clear HRES
              have HRES := Aside0.mk (show Except.error f = res from hres)
              clear hcase hrs hf hres hpe
              have H3 := Aside0.mk HI.out.h3
              have HT7 := Aside0.mk HI.out.tb
              have HU := Aside0.mk HI.out.us
              have HS := Aside0.mk HI.out.s
              have HT := Aside0.mk HI.out.t
              have hbb : decide ((q : Int) < (n : Int)) = true ∨ decide ((q : Int) < (n : Int)) = false := by cases decide ((q : Int) < (n : Int)) <;> simp
              rcases hbb with b11 | b11
              all_goals
                have t0 := (HT7.out.cell 0).trans (show _ = some (.slice As S.length cs) from rfl); have t1 := (HT7.out.cell 1).trans (show _ = some (.slice At T.length ct) from rfl); have s0 := (HU.out.cell 0).trans (show _ = some (.int .i64 _) from rfl); have s1 := (HU.out.cell 1).trans (show _ = some (.int .i64 _) from rfl)
                have h1 := H.out.c1
                go_wp2_with (first
                  | (go_at_call 59; refine (wrong_bad w _ g b _ e _ _ _ _ H.out (by simpa using HF.out)).mono ?_; rintro xx w3 ⟨rfl, hrs, hq2⟩; clear H h1; have H := Aside0.mk hrs; have n1_ := Aside0.mk (H3.out.kept (hq2.2 g3 H3.out.lt (by have := HG.out; omega))); clear H3; have H3 := n1_; clear n1_; have n1_ := Aside0.mk (HT7.out.kept (hq2.2 g7 HT7.out.lt (by have := HG7.out; omega))); clear HT7; have HT7 := n1_; clear n1_; have n1_ := Aside0.mk (own_kept HS.out (fun k hk => hq2.2 k (own_lt HS.out k hk) (by have := own_base HS.out k hk; omega))); clear HS; have HS := n1_; clear n1_; have n1_ := Aside0.mk (own_kept HT.out (fun k hk => hq2.2 k (own_lt HT.out k hk) (by have := own_base HT.out k hk; have := HG7.out; omega))); clear HT; have HT := n1_; clear n1_; have n1_ := Aside0.mk (HU.out.kept (hq2.2 gu HU.out.lt (by have := HG7.out; have := HGU.out; omega))); clear HU t0 t1 s0 s1; have HU := n1_; clear n1_; clear hq2 hrs; have h1 := H.out.c1; have t0 := (HT7.out.cell 0).trans (show _ = some (.slice As S.length cs) from rfl); have t1 := (HT7.out.cell 1).trans (show _ = some (.slice At T.length ct) from rfl); have s0 := (HU.out.cell 0).trans (show _ = some (.int .i64 _) from rfl); have s1 := (HU.out.cell 1).trans (show _ = some (.int .i64 _) from rfl))
                  | (go_at_call 60; refine (rok_same w _ g b _ e _ _ false H.out HF.out).mono ?_; rintro xx w3 ⟨rfl, hrs, hq2⟩; clear H h1; have H := Aside0.mk hrs; have n1_ := Aside0.mk (H3.out.kept (hq2.2 g3 H3.out.lt (by have := HG.out; omega))); clear H3; have H3 := n1_; clear n1_; have n1_ := Aside0.mk (HT7.out.kept (hq2.2 g7 HT7.out.lt (by have := HG7.out; omega))); clear HT7; have HT7 := n1_; clear n1_; have n1_ := Aside0.mk (own_kept HS.out (fun k hk => hq2.2 k (own_lt HS.out k hk) (by have := own_base HS.out k hk; omega))); clear HS; have HS := n1_; clear n1_; have n1_ := Aside0.mk (own_kept HT.out (fun k hk => hq2.2 k (own_lt HT.out k hk) (by have := own_base HT.out k hk; have := HG7.out; omega))); clear HT; have HT := n1_; clear n1_; have n1_ := Aside0.mk (HU.out.kept (hq2.2 gu HU.out.lt (by have := HG7.out; have := HGU.out; omega))); clear HU t0 t1 s0 s1; have HU := n1_; clear n1_; clear hq2 hrs; have h1 := H.out.c1; have t0 := (HT7.out.cell 0).trans (show _ = some (.slice As S.length cs) from rfl); have t1 := (HT7.out.cell 1).trans (show _ = some (.slice At T.length ct) from rfl); have s0 := (HU.out.cell 0).trans (show _ = some (.int .i64 _) from rfl); have s1 := (HU.out.cell 1).trans (show _ = some (.int .i64 _) from rfl); have h3 := H.out.c3; have h4 := H.out.c4))
                all_goals
                  go_still_tail 5, (by kernel_rfl)
                  have HB := Aside0.mk (below_drew H.out.old)
                  have n2_ := Aside0.mk (H3.out.below (below_drew (Below.refl _ _)))
                  clear H3
                  have H3 := n2_
                  clear n2_
                  (refine put_event rfl rfl 46 (.tmp 3) (.tmp 163) rfl (off := 0) (u := .agg #[.int .i64 (f.1), .int .i64 (f.2)]) (seg := [.int .i64 (f.1), .int .i64 (f.2)]) rfl rfl H3.out rfl (by kernel_rfl) (by simp) (by simp [Value.oneCell']) ?_; intro w5 hrow hgr; have n1_ := Aside0.mk (pw_below_grown HB.out (some g3) HB.out.size hgr (fun k hk => by injection hk with hk; have := HG3.out; omega)); have HX := Aside0.mk (show RowAt w5 g3 46 [.int .i64 (f.1), .int .i64 (f.2)] from hrow); clear H3 HB hrow; have HB := n1_; clear n1_)
                  go_wp2
                  refine bodyPost_ret (results_tc rfl _ _ g3 46 #[.int .i64 (f.1), .int .i64 (f.2)] (0, 0) _ rfl (by obtain ⟨cur, h1, h2⟩ := HX.out; rw [h1, ← h2]) Try.underlying46 rfl (by kernel_rfl)) rfl ?_
                  rw [← HRES.out]
                  exact ⟨rfl, HB.out⟩
end
end Go.Proofs.Ytebiogaacikphaa.Pack
end
