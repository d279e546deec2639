/- Parts of the proof of packForged and packDecodes and Pack and Pack and Pack: PackRefDecodeT. -/
import Derived.Test.YtebiogaacikphaaTP19
section
namespace Go.Proofs.Ytebiogaacikphaa.Pack
open Go.RowKit Go.Proofs.YtebiogaacikphaaW.PrintWords Go.Proofs.Ytebiogaacikphaa.PAll
set_option linter.unusedVariables false
set_option linter.unusedSimpArgs false
set_option linter.unnecessarySimpa false
section
variable (w : World) (A : Option Addr) (c : Nat) (b : List Int)
set_option maxHeartbeats 400000000 in
set_option maxRecDepth 100000 in
theorem refdecode_tables (hr : Kd.C (Kd.int .u8) w A b.length b) (hc : b.length ≤ c) (hl : b.length ≤ 140737488351232) (hby : ∀ x ∈ b, 0 ≤ x ∧ x < 256) (res : Except (Int × Int) (List Ins)) (hf : framedL b = (0, 0)) (hres : insideL (b.length - 4) ((b.take (b.length - 4)).drop 5) = res) (hnb : ∀ S l1 T l2, tableC (b.length - 4) ((b.take (b.length - 4)).drop 5) = .ok (S, l1) → tableN (b.length - 4) l1 = .ok (T, l2) → False) : Calls Try.prog 24 #[.slice A b.length c] w fun x w' => Decoded w w' x res ∧ Below w.heap.size w w' := by
  have HNB := Aside0.mk hnb
  clear hnb
  have HR := Aside0.mk hr
  have HC := Aside0.mk hc
  have HL := Aside0.mk hl
  have HY := Aside0.mk hby
  have HRES := Aside0.mk hres
  clear hr hc hby hres
  rw [framedL] at hf
  have big : ¬ 4194304 < b.length := fun h => by rw [if_pos h] at hf; simp at hf
  rw [if_neg big] at hf
  have b1 : decide ((b.length : Int) > 4194304) = false := decide_eq_false (by omega)
  have HF := Aside0.mk hf
  clear hf
  go_enter Try.func24, Try.ntmps24
  go_wp2_with (first
    | ((with_reducible refine gate_dst (N := 3) rfl ?_); refine box_event (N := 3) rfl rfl (cs := #[.int .i64 0, .int .i64 0]) (t := 46) ?hr2 ?_; (case hr2 => first | (go_simp; done) | (go_simp; rfl)); intro g3 hg3 w1 hbox hb1; have HB := Aside0.mk hb1; have H3 := Aside0.mk (show RowAt w1 g3 46 [.int .i64 0, .int .i64 0] from ⟨_, hbox, rfl⟩); have HG3 := Aside0.mk (show w.heap.size ≤ g3 by omega); clear hbox hb1 hg3))
  go_loopw [4] (fun v4 wr => ∃ (q : Nat), v4 = .int .i64 q ∧ q ≤ 5 ∧ q ≤ b.length ∧ Aside0 (missL 0 magicL b = missL q (magicL.drop q) (b.drop q)) ∧ Aside0 (Below w.heap.size w wr) ∧ Aside0 (RowAt wr g3 46 [.int .i64 0, .int .i64 0])) (fun v4 _ => 5 - (intOf v4).toNat)
  case atStart => exact ⟨0, rfl, by omega, by omega, ⟨rfl⟩, HB, H3⟩
  case round =>
    clear HB H3
    obtain ⟨q, rfl, hq5, hqb, HM, HB, H3⟩ := hrel
    by_cases c5 : q < 5
    · have b5 : decide ((q : Int) < 5) = true := decide_eq_true (by omega)
      by_cases cb : q < b.length
      · have b6 : decide ((q : Int) < (b.length : Int)) = true := decide_eq_true (by omega)
        have hq5' : q < magicL.length := c5
        obtain ⟨ad, rfl, hcb⟩ := Kd.at_int (Kd.C_below HR.out HB.out) (q : Int) (by omega) (by omega)
        rw [Int.toNat_natCast, rd_nat b q cb] at hcb
        have hmd := HM.out
        rw [missL_drop magicL b q q hq5' cb] at hmd
        have hidx := fun W => idx_magic W q hq5'
        generalize b[q] = x at *
        generalize magicL[q] = y at *
        clear HM
        by_cases e : x = y
        · rw [if_pos e] at hmd
          have b7 : (x != y) = false := by simp [e]
          have HM := Aside0.mk hmd
          clear hmd e
          go_wp2
          go_quiet (fail)
          have n1_ := Aside0.mk (pw_below_drewN HB.out nq)
          have n3_ := Aside0.mk (H3.out.below (pw_below_drewN (Below.refl wr.heap.size wr) nq))
          clear HB H3 hcb
          have HB := n1_
          have H3 := n3_
          clear n1_ n3_
          generalize wr.drewN nq = w8 at *
          try simp only [b7]
          go_wp2
          go_roundw
          case measure => simp [intOf]; omega
          case rel => first | exact ⟨q + 1, by go_num, by omega, by omega, HM, HB, H3⟩ | exact ⟨q + 1, by go_num, by omega, by omega, HM⟩
        · rw [if_neg e] at hmd
          have hf := HF.out
          rw [hmd] at hf
          simp at hf
      · have hf := HF.out
        rw [HM.out, missL_nil magicL b q q (.inr (by omega))] at hf
        dsimp only at hf
        rw [if_pos (by omega)] at hf
        simp at hf
    · have b5 : decide ((q : Int) < 5) = false := decide_eq_false (by omega)
      have hf := HF.out
      rw [HM.out, missL_nil magicL b q q (.inl (by show 5 ≤ q; omega))] at hf
      dsimp only at hf
      by_cases c9 : b.length < 9
      · rw [if_pos c9] at hf
        simp at hf
      · have b9 : decide ((b.length : Int) < 9) = false := decide_eq_false (by omega)
        rw [if_neg c9] at hf
        have hw4 : IntKind.i64.wrap ((b.length : Int) - 4) = ((b.length - 4 : Nat) : Int) := by rw [IntWalk.i64_in _ (by omega)]; omega
        have HF2 := Aside0.mk hf
        clear hf HF HM
        have hle : (b.take (b.length - 4)).length = b.length - 4 := by rw [List.length_take]; omega
        have hsz : (Try.prog.info? 5).map (fun i => i.size) = some 1 := by kernel_rfl
        obtain ⟨i5, hi5, hs5⟩ := Option.map_eq_some_iff.1 hsz
        have hto := cut_to (P := Try.prog) 37 5 .i64 Try.underlying37 hi5 A b.length c ((b.length - 4 : Nat) : Int) (by omega) (by omega) HC.out
        rw [Int.toNat_natCast] at hto
        have htake := fun W (h : Kd.C (Kd.int .u8) W A b.length b) => Kd.C_take (m := b.length - 4) h (by omega)
        have hsum := fun W h => refsum_lit A c (b.take (b.length - 4)) W h (by have := HC.out; omega) (by omega)
        rw [hle] at htake hsum
        have hd4 : b.drop (b.length - 4) = [rd b ((b.length - 4 : Nat) : Int), rd b (((b.length - 4 : Nat) : Int) + 1), rd b (((b.length - 4 : Nat) : Int) + 2), rd b (((b.length - 4 : Nat) : Int) + 3)] := drop4 b (by omega)
        have hcr := crc_range (b.take (b.length - 4))
        have he4 : b.length - 4 + 4 = b.length := by omega
        generalize crcL (b.take (b.length - 4)) = s at *
        rw [hd4] at HF2
        have hx0 := rd_byte HY.out ((b.length - 4 : Nat) : Int)
        have hx1 := rd_byte HY.out (((b.length - 4 : Nat) : Int) + 1)
        have hx2 := rd_byte HY.out (((b.length - 4 : Nat) : Int) + 2)
        have hx3 := rd_byte HY.out (((b.length - 4 : Nat) : Int) + 3)
        clear hd4
        generalize hE : b.length - 4 = e at *
        obtain ⟨ad, had, y0⟩ := Kd.at_int (Kd.C_below HR.out HB.out) (e : Int) (by omega) (by omega)
        obtain ⟨ad1, had1, y1⟩ := Kd.at_int (Kd.C_below HR.out HB.out) ((e : Int) + 1) (by omega) (by omega)
        obtain ⟨ad2, had2, y2⟩ := Kd.at_int (Kd.C_below HR.out HB.out) ((e : Int) + 2) (by omega) (by omega)
        obtain ⟨ad3, had3, y3⟩ := Kd.at_int (Kd.C_below HR.out HB.out) ((e : Int) + 3) (by omega) (by omega)
        rw [had] at had1 had2 had3
        cases had1
        cases had2
        cases had3
        subst had
        generalize rd b (e : Int) = x0 at *
        generalize rd b ((e : Int) + 1) = x1 at *
        generalize rd b ((e : Int) + 2) = x2 at *
        generalize rd b ((e : Int) + 3) = x3 at *
        have y0' : wr.cell? (ad.add e) = some (.int .u8 x0) := by rw [Int.toNat_natCast] at y0; exact y0
        have y1' : wr.cell? ⟨ad.block, ad.off + (e + 1), none⟩ = some (.int .u8 x1) := by rw [show ((e : Int) + 1).toNat = e + 1 by omega, Addr.add, if_neg (by omega)] at y1; exact y1
        have y2' : wr.cell? ⟨ad.block, ad.off + (e + 2), none⟩ = some (.int .u8 x2) := by rw [show ((e : Int) + 2).toNat = e + 2 by omega, Addr.add, if_neg (by omega)] at y2; exact y2
        have y3' : wr.cell? ⟨ad.block, ad.off + (e + 3), none⟩ = some (.int .u8 x3) := by rw [show ((e : Int) + 3).toNat = e + 3 by omega, Addr.add, if_neg (by omega)] at y3; exact y3
        have hb0 : (e : Int) < (b.length : Int) := by omega
        have hb1 : (e : Int) + 1 < (b.length : Int) := by omega
        have hb2 : (e : Int) + 2 < (b.length : Int) := by omega
        have hb3 : (e : Int) + 3 < (b.length : Int) := by omega
        have hc0 : (0 : Int) ≤ (e : Int) := by omega
        have hc1 : (0 : Int) ≤ (e : Int) + 1 := by omega
        have hc2 : (0 : Int) ≤ (e : Int) + 2 := by omega
        have hc3 : (0 : Int) ≤ (e : Int) + 3 := by omega
        have hw1 : IntKind.i64.wrap ((e : Int) + 1) = (e : Int) + 1 := IntWalk.i64_in _ (by omega)
        have hw2 : IntKind.i64.wrap ((e : Int) + 2) = (e : Int) + 2 := IntWalk.i64_in _ (by omega)
        have hw3 : IntKind.i64.wrap ((e : Int) + 3) = (e : Int) + 3 := IntWalk.i64_in _ (by omega)
        have HTO := Aside0.mk hto
        have HTAKE := Aside0.mk htake
        have HSUM := Aside0.mk hsum
        clear htake hsum hE
        go_wp2
        go_quiet ((go_at_call 29; exact Calls.quiet_of ((HSUM.out _ (HTAKE.out _ (Kd.C_below HR.out (pw_below_drewN HB.out _)))).mono (fun _ _ h => ⟨h.1, h.2.out⟩))))
        have HB8 := Aside0.mk (pw_below_drewN HB.out nq)
        have H38 := Aside0.mk (H3.out.below (pw_below_drewN (Below.refl wr.heap.size wr) nq))
        clear HB H3 y0 y1 y2 y3 y0' y1' y2' y3' hb0 hb1 hb2 hb3 hc0 hc1 hc2 hc3 hw1 hw2 hw3
        have HB := HB8
        have H3 := H38
        clear HB8 H38
        generalize wr.drewN nq = w8 at *
        have hbits := bits_le x0 x1 x2 x3 hx0 hx1 hx2 hx3
        by_cases he : leN 4 s = [x0, x1, x2, x3]
        case neg =>
          have hf := HF2.out
          rw [if_neg he] at hf
          simp at hf
        have b10 : (s != Go.bits .or .u32 (Go.bits .or .u32 (Go.bits .or .u32 x0 (x1 * 256)) (x2 * 65536)) (x3 * 16777216)) = false := by
          rw [hbits]
          have := (leN_iff s x0 x1 x2 x3 hcr hx0 hx1 hx2 hx3).1 he
          simpa using this
        simp only [b10]
        clear hbits b10 hx0 hx1 hx2 hx3 hcr he HF2 HSUM HTAKE HTO hto hle
        have HE5 := Aside0.mk (show 5 ≤ e ∧ e ≤ b.length by omega)
        have hres := HRES.out
        rw [insideL] at hres
        generalize htc : tableC e ((b.take e).drop 5) = tc at *
        have HTC := Aside0.mk htc
        clear HRES htc
        match tc with
        | .error f =>
          as_aux_lemma =>
            have HRES := Aside0.mk hres
            clear hres
            go_wp2_with (first
              | ((with_reducible refine gate_dst (N := 85) rfl ?_); refine box_event (N := 85) rfl rfl (cs := #[.slice (some ad) b.length c, .int .i64 5, .int .i64 e, .int .i64 0, .int .i64 0]) (t := 110) ?hr2 ?_; (case hr2 => first | (go_simp; done) | (go_simp; rfl)); intro g hg w1 hbox hb1; have HG := Aside0.mk (show w.heap.size ≤ g ∧ g3 < g by have := HB.out.size; have := H3.out.lt; omega); have H := Aside0.mk (RR.start HR.out HL.out HB.out (below_step HB.out hb1) hg hbox HE5.out); have n2_ := Aside0.mk (H3.out.below hb1); clear HB H3 hbox hb1 hg; have H3 := n2_; clear n2_)
              | (go_at_call 56; refine (rclasses_ok w _ g b 5 e H.out HY.out _ HTC.out).mono ?_; rintro xx w3 ⟨vs, S, rfl, hrow, hq1, hq2, _⟩; obtain ⟨As, cs, rfl⟩ := own_len hrow; have HS := Aside0.mk (own_less hrow (show g + 1 ≤ _ from H.out.lt)); have n1_ := Aside0.mk (H3.out.kept (hq2.2 g3 H3.out.lt (by have := HG.out; omega))); clear H3; have H3 := n1_; clear n1_; obtain ⟨jc, hf, hrs⟩ := hq1; have HF := Aside0.mk (show (f.2 == 0) = false by simpa using hf); clear H; have H := Aside0.mk hrs; clear hq2 hrow hf hrs)
              | ((with_reducible refine gate_dst (N := 7) rfl ?_); refine box_event (N := 7) rfl rfl (cs := #[.slice none 0 0, .slice none 0 0, .slice none 0 0]) (t := 112) ?hr2 ?_; (case hr2 => first | (go_simp; done) | (go_simp; rfl)); intro g7 hg7 w1 hbox hb1; have HG7 := Aside0.mk (show g < g7 ∧ (∀ k, (Value.slice As S.length cs).ownBlock = some k → k ≠ g7) by refine ⟨?_, fun k hk => by have := own_lt HS.out k hk; omega⟩; have := H.out.lt; omega); have HT7 := Aside0.mk (show RowAt w1 g7 112 [.slice none 0 0, .slice none 0 0, .slice none 0 0] from ⟨_, hbox, rfl⟩); have n1_ := Aside0.mk (H.out.below hb1); have n2_ := Aside0.mk (H3.out.below hb1); have n3_ := Aside0.mk (own_kept HS.out (fun k hk => hb1.block k (own_lt HS.out k hk))); clear H H3 HS hbox hb1 hg7; have H := n1_; have H3 := n2_; have HS := n3_; clear n1_ n2_ n3_)
              | ((with_reducible refine gate_store (t := 112) (p := 7) rfl ?_); refine put_event rfl rfl 112 (.tmp 7) (.tmp 88) rfl (off := 0) (u := .agg #[.slice As S.length cs, .slice none 0 0, .slice none 0 0]) (seg := [.slice As S.length cs, .slice none 0 0, .slice none 0 0]) rfl rfl HT7.out rfl (by kernel_rfl) (by simp) (by simp [Value.oneCell']) ?_; intro w4 hrow hgr; have n1_ := Aside0.mk (H.out.through hgr (fun k hk => by injection hk with hk; have := HG7.out; have := H.out.ge; omega)); have n2_ := Aside0.mk (H3.out.grown hgr (by have := HG.out; have := HG7.out; simp; omega)); have n3_ := Aside0.mk (own_kept HS.out (fun k hk => hgr.block k (own_lt HS.out k hk) (by have := HG7.out.2 k hk; simpa using this))); clear H H3 HS; have H := n1_; have H3 := n2_; have HS := n3_; clear n1_ n2_ n3_; clear HT7; have HT7 := Aside0.mk (show RowAt w4 g7 112 [.slice As S.length cs, .slice none 0 0, .slice none 0 0] from hrow); clear hrow hgr; have h1 := H.out.c1)
              | (go_at_call 57; refine (rnames_bad w _ g b _ e _ _ H.out (by simpa using HF.out)).mono ?_; rintro xx w3 ⟨vt, rfl, hR, hrs, hq2⟩; have hrow := own_of_R hR; obtain ⟨At, ct, rfl⟩ := own_len hrow; have HT := Aside0.mk (show World.ownsRow _ (g7 + 1) 9 1 (.slice At 0 ct) 0 [] from own_less hrow (show g7 + 1 ≤ _ from HT7.out.lt)); clear H h1; have H := Aside0.mk hrs; have n1_ := Aside0.mk (H3.out.kept (hq2.2 g3 H3.out.lt (by have := HG.out; omega))); clear H3; have H3 := n1_; clear n1_; have n1_ := Aside0.mk (HT7.out.kept (hq2.2 g7 HT7.out.lt (by have := HG7.out; omega))); clear HT7; have HT7 := n1_; clear n1_; have n1_ := Aside0.mk (own_kept HS.out (fun k hk => hq2.2 k (own_lt HS.out k hk) (by have := own_base HS.out k hk; omega))); clear HS; have HS := n1_; clear n1_; clear hq2 hrow hR hrs)
              | ((with_reducible refine gate_store (t := 86) (p := 95) rfl ?_); refine put_event rfl rfl 86 (.tmp 95) (.tmp 94) rfl (off := 1) (u := .slice At 0 ct) (seg := [.slice At 0 ct]) rfl rfl HT7.out rfl (by kernel_rfl) (by simp) (by simp [Value.oneCell']) ?_; intro w4 hrow hgr; have n1_ := Aside0.mk (H.out.through hgr (fun k hk => by injection hk with hk; have := HG7.out; have := H.out.ge; omega)); have n2_ := Aside0.mk (H3.out.grown hgr (by have := HG.out; have := HG7.out; simp; omega)); have n3_ := Aside0.mk (own_kept HS.out (fun k hk => hgr.block k (own_lt HS.out k hk) (by have := HG7.out.2 k hk; simpa using this))); clear H H3 HS; have H := n1_; have H3 := n2_; have HS := n3_; clear n1_ n2_ n3_; have n1_ := Aside0.mk (own_kept HT.out (fun k hk => hgr.block k (own_lt HT.out k hk) (by have := own_base HT.out k hk; simp; omega))); clear HT7 HT; have HT7 := Aside0.mk (show RowAt w4 g7 112 [.slice As S.length cs, .slice At 0 ct, .slice none 0 0] from hrow); have HT := n1_; clear n1_ hrow hgr; have h1 := H.out.c1)
              | (go_at_call 58; refine (rcount_bad w _ g b _ e _ _ H.out (by simpa using HF.out)).mono ?_; rintro xx w3 ⟨rfl, hrs, hq2⟩; clear H h1; have H := Aside0.mk hrs; have n1_ := Aside0.mk (H3.out.kept (hq2.2 g3 H3.out.lt (by have := HG.out; omega))); clear H3; have H3 := n1_; clear n1_; have n1_ := Aside0.mk (HT7.out.kept (hq2.2 g7 HT7.out.lt (by have := HG7.out; omega))); clear HT7; have HT7 := n1_; clear n1_; have n1_ := Aside0.mk (own_kept HS.out (fun k hk => hq2.2 k (own_lt HS.out k hk) (by have := own_base HS.out k hk; omega))); clear HS; have HS := n1_; clear n1_; have n1_ := Aside0.mk (own_kept HT.out (fun k hk => hq2.2 k (own_lt HT.out k hk) (by have := own_base HT.out k hk; have := HG7.out; omega))); clear HT; have HT := n1_; clear n1_; clear hq2 hrs)
              | (go_at_call 59; refine (wrong_bad w _ g b _ e _ _ _ _ H.out (by simpa using HF.out)).mono ?_; rintro xx w3 ⟨rfl, hrs, hq2⟩; clear H; have H := Aside0.mk hrs; have n1_ := Aside0.mk (H3.out.kept (hq2.2 g3 H3.out.lt (by have := HG.out; omega))); clear H3; have H3 := n1_; clear n1_; have n1_ := Aside0.mk (HT7.out.kept (hq2.2 g7 HT7.out.lt (by have := HG7.out; omega))); clear HT7; have HT7 := n1_; clear n1_; have n1_ := Aside0.mk (own_kept HS.out (fun k hk => hq2.2 k (own_lt HS.out k hk) (by have := own_base HS.out k hk; omega))); clear HS; have HS := n1_; clear n1_; have n1_ := Aside0.mk (own_kept HT.out (fun k hk => hq2.2 k (own_lt HT.out k hk) (by have := own_base HT.out k hk; have := HG7.out; omega))); clear HT; have HT := n1_; clear n1_; clear hq2 hrs)
              | (((with_reducible refine gate_dst (N := 12) rfl ?_); refine box_event (N := 12) rfl rfl (cs := #[.int .i64 0, .int .i64 0]) (t := 115) ?hr2 ?_; (case hr2 => first | (go_simp; done) | (go_simp; rfl)); intro gu hgu w1 hbox hb1; have HU := Aside0.mk (show RowAt w1 gu 115 [.int .i64 0, .int .i64 0] from ⟨_, hbox, rfl⟩); have HGU := Aside0.mk (show g7 < gu ∧ (∀ k, (Value.slice As S.length cs).ownBlock = some k → k < gu) ∧ (∀ k, (Value.slice At 0 ct).ownBlock = some k → k < gu) by refine ⟨?_, fun k hk => ?_, fun k hk => ?_⟩; (have := HT7.out.lt; omega); (have := own_lt HS.out k hk; omega); (have := own_lt HT.out k hk; omega)); have n1_ := Aside0.mk (H.out.below hb1); have n2_ := Aside0.mk (H3.out.below hb1); have n3_ := Aside0.mk (own_kept HS.out (fun k hk => hb1.block k (own_lt HS.out k hk))); have n4_ := Aside0.mk (own_kept HT.out (fun k hk => hb1.block k (own_lt HT.out k hk))); have n5_ := Aside0.mk (HT7.out.below hb1); clear H H3 HS HT HT7 hbox hb1 hgu; have H := n1_; have H3 := n2_; have HS := n3_; have HT := n4_; have HT7 := n5_; clear n1_ n2_ n3_ n4_ n5_)))
            refine wp_loop_once ?_
            have t0 := (HT7.out.cell 0).trans (show _ = some (.slice As S.length cs) from rfl); have t1 := (HT7.out.cell 1).trans (show _ = some (.slice At 0 ct) from rfl); have s0 := (HU.out.cell 0).trans (show _ = some (.int .i64 _) from rfl); have s1 := (HU.out.cell 1).trans (show _ = some (.int .i64 _) from rfl)
            have h1 := H.out.c1
            go_wp2_with (first
              | (go_at_call 59; refine (wrong_bad w _ g b _ e _ _ _ _ H.out (by simpa using HF.out)).mono ?_; rintro xx w3 ⟨rfl, hrs, hq2⟩; clear H h1; have H := Aside0.mk hrs; have n1_ := Aside0.mk (H3.out.kept (hq2.2 g3 H3.out.lt (by have := HG.out; omega))); clear H3; have H3 := n1_; clear n1_; have n1_ := Aside0.mk (HT7.out.kept (hq2.2 g7 HT7.out.lt (by have := HG7.out; omega))); clear HT7; have HT7 := n1_; clear n1_; have n1_ := Aside0.mk (own_kept HS.out (fun k hk => hq2.2 k (own_lt HS.out k hk) (by have := own_base HS.out k hk; omega))); clear HS; have HS := n1_; clear n1_; have n1_ := Aside0.mk (own_kept HT.out (fun k hk => hq2.2 k (own_lt HT.out k hk) (by have := own_base HT.out k hk; have := HG7.out; omega))); clear HT; have HT := n1_; clear n1_; have n1_ := Aside0.mk (HU.out.kept (hq2.2 gu HU.out.lt (by have := HG7.out; have := HGU.out; omega))); clear HU t0 t1 s0 s1; have HU := n1_; clear n1_; clear hq2 hrs; have h1 := H.out.c1; have t0 := (HT7.out.cell 0).trans (show _ = some (.slice As S.length cs) from rfl); have t1 := (HT7.out.cell 1).trans (show _ = some (.slice At 0 ct) from rfl); have s0 := (HU.out.cell 0).trans (show _ = some (.int .i64 _) from rfl); have s1 := (HU.out.cell 1).trans (show _ = some (.int .i64 _) from rfl))
              | (go_at_call 60; refine (rok_same w _ g b _ e _ _ false H.out HF.out).mono ?_; rintro xx w3 ⟨rfl, hrs, hq2⟩; clear H; have H := Aside0.mk hrs; have n1_ := Aside0.mk (H3.out.kept (hq2.2 g3 H3.out.lt (by have := HG.out; omega))); clear H3; have H3 := n1_; clear n1_; have n1_ := Aside0.mk (HT7.out.kept (hq2.2 g7 HT7.out.lt (by have := HG7.out; omega))); clear HT7; have HT7 := n1_; clear n1_; have n1_ := Aside0.mk (own_kept HS.out (fun k hk => hq2.2 k (own_lt HS.out k hk) (by have := own_base HS.out k hk; omega))); clear HS; have HS := n1_; clear n1_; have n1_ := Aside0.mk (own_kept HT.out (fun k hk => hq2.2 k (own_lt HT.out k hk) (by have := own_base HT.out k hk; have := HG7.out; omega))); clear HT; have HT := n1_; clear n1_; clear hq2 hrs; have h3 := H.out.c3; have h4 := H.out.c4))
            all_goals
              go_still_tail 5, (by kernel_rfl)
              have HB := Aside0.mk (below_drew H.out.old)
              have n2_ := Aside0.mk (H3.out.below (below_drew (Below.refl _ _)))
              clear H3
              have H3 := n2_
              clear n2_
              (refine put_event rfl rfl 46 (.tmp 3) (.tmp 163) rfl (off := 0) (u := .agg #[.int .i64 (f.1), .int .i64 (f.2)]) (seg := [.int .i64 (f.1), .int .i64 (f.2)]) rfl rfl H3.out rfl (by kernel_rfl) (by simp) (by simp [Value.oneCell']) ?_; intro w5 hrow hgr; have n1_ := Aside0.mk (pw_below_grown HB.out (some g3) HB.out.size hgr (fun k hk => by injection hk with hk; have := HG3.out; omega)); have HX := Aside0.mk (show RowAt w5 g3 46 [.int .i64 (f.1), .int .i64 (f.2)] from hrow); clear H3 HB hrow; have HB := n1_; clear n1_)
              go_wp2
              refine bodyPost_ret (results_tc rfl _ _ g3 46 #[.int .i64 (f.1), .int .i64 (f.2)] (0, 0) _ rfl (by obtain ⟨cur, h1, h2⟩ := HX.out; rw [h1, ← h2]) Try.underlying46 rfl (by kernel_rfl)) rfl ?_
              rw [← HRES.out]
              exact ⟨rfl, HB.out⟩
        | .ok (S, l1) =>
          dsimp only at hres
          generalize htn : tableN e l1 = tn at *
          have HTN := Aside0.mk htn
          clear htn
          match tn with
          | .error f =>
            as_aux_lemma =>
              have HRES := Aside0.mk hres
              clear hres
              go_wp2_with (first
                | ((with_reducible refine gate_dst (N := 85) rfl ?_); refine box_event (N := 85) rfl rfl (cs := #[.slice (some ad) b.length c, .int .i64 5, .int .i64 e, .int .i64 0, .int .i64 0]) (t := 110) ?hr2 ?_; (case hr2 => first | (go_simp; done) | (go_simp; rfl)); intro g hg w1 hbox hb1; have HG := Aside0.mk (show w.heap.size ≤ g ∧ g3 < g by have := HB.out.size; have := H3.out.lt; omega); have H := Aside0.mk (RR.start HR.out HL.out HB.out (below_step HB.out hb1) hg hbox HE5.out); have n2_ := Aside0.mk (H3.out.below hb1); clear HB H3 hbox hb1 hg; have H3 := n2_; clear n2_)
                | (go_at_call 56; refine (rclasses_ok w _ g b 5 e H.out HY.out _ HTC.out).mono ?_; rintro xx w3 ⟨vs, S0, rfl, hrow, hq1, hq2, hqs⟩; obtain rfl := (hqs S l1 rfl).symm; obtain ⟨As, cs, rfl⟩ := own_len hrow; have HS := Aside0.mk (own_less hrow (show g + 1 ≤ _ from H.out.lt)); have n1_ := Aside0.mk (H3.out.kept (hq2.2 g3 H3.out.lt (by have := HG.out; omega))); clear H3; have H3 := n1_; clear n1_; obtain ⟨jc, hrs, hl1⟩ := hq1; have HTN2 := Aside0.mk (show tableN e ((b.take e).drop jc) = _ from (congrArg (tableN e) (show l1 = (b.take e).drop jc from hl1)).symm.trans HTN.out); have HJC := Aside0.mk (show l1.length = e - jc from rleft_len hrs hl1); have HJE := Aside0.mk (show jc ≤ e from hrs.at_); clear H; have H := Aside0.mk hrs; clear hq2 hrow hqs hl1 hrs)
                | ((with_reducible refine gate_dst (N := 7) rfl ?_); refine box_event (N := 7) rfl rfl (cs := #[.slice none 0 0, .slice none 0 0, .slice none 0 0]) (t := 112) ?hr2 ?_; (case hr2 => first | (go_simp; done) | (go_simp; rfl)); intro g7 hg7 w1 hbox hb1; have HG7 := Aside0.mk (show g < g7 ∧ (∀ k, (Value.slice As S.length cs).ownBlock = some k → k ≠ g7) by refine ⟨?_, fun k hk => by have := own_lt HS.out k hk; omega⟩; have := H.out.lt; omega); have HT7 := Aside0.mk (show RowAt w1 g7 112 [.slice none 0 0, .slice none 0 0, .slice none 0 0] from ⟨_, hbox, rfl⟩); have n1_ := Aside0.mk (H.out.below hb1); have n2_ := Aside0.mk (H3.out.below hb1); have n3_ := Aside0.mk (own_kept HS.out (fun k hk => hb1.block k (own_lt HS.out k hk))); clear H H3 HS hbox hb1 hg7; have H := n1_; have H3 := n2_; have HS := n3_; clear n1_ n2_ n3_)
                | ((with_reducible refine gate_store (t := 112) (p := 7) rfl ?_); refine put_event rfl rfl 112 (.tmp 7) (.tmp 88) rfl (off := 0) (u := .agg #[.slice As S.length cs, .slice none 0 0, .slice none 0 0]) (seg := [.slice As S.length cs, .slice none 0 0, .slice none 0 0]) rfl rfl HT7.out rfl (by kernel_rfl) (by simp) (by simp [Value.oneCell']) ?_; intro w4 hrow hgr; have n1_ := Aside0.mk (H.out.through hgr (fun k hk => by injection hk with hk; have := HG7.out; have := H.out.ge; omega)); have n2_ := Aside0.mk (H3.out.grown hgr (by have := HG.out; have := HG7.out; simp; omega)); have n3_ := Aside0.mk (own_kept HS.out (fun k hk => hgr.block k (own_lt HS.out k hk) (by have := HG7.out.2 k hk; simpa using this))); clear H H3 HS; have H := n1_; have H3 := n2_; have HS := n3_; clear n1_ n2_ n3_; clear HT7; have HT7 := Aside0.mk (show RowAt w4 g7 112 [.slice As S.length cs, .slice none 0 0, .slice none 0 0] from hrow); clear hrow hgr; have h1 := H.out.c1)
                | (go_at_call 57; refine (rnames_ok w _ g b jc e H.out HY.out _ HTN2.out).mono ?_; rintro xx w3 ⟨vt, T, rfl, hR, hq1, hq2, _⟩; have hrow := own_of_R hR; obtain ⟨At, ct, rfl⟩ := own_len hrow; have HT := Aside0.mk (own_less hrow (show g7 + 1 ≤ _ from HT7.out.lt)); have n1_ := Aside0.mk (H3.out.kept (hq2.2 g3 H3.out.lt (by have := HG.out; omega))); clear H3; have H3 := n1_; clear n1_; have n1_ := Aside0.mk (HT7.out.kept (hq2.2 g7 HT7.out.lt (by have := HG7.out; omega))); clear HT7; have HT7 := n1_; clear n1_; have n1_ := Aside0.mk (own_kept HS.out (fun k hk => hq2.2 k (own_lt HS.out k hk) (by have := own_base HS.out k hk; omega))); clear HS; have HS := n1_; clear n1_; obtain ⟨jn, hf, hrs⟩ := hq1; have HF := Aside0.mk (show (f.2 == 0) = false by simpa using hf); clear H h1; have H := Aside0.mk hrs; clear hq2 hrow hR hf hrs)
                | ((with_reducible refine gate_store (t := 86) (p := 95) rfl ?_); refine put_event rfl rfl 86 (.tmp 95) (.tmp 94) rfl (off := 1) (u := .slice At T.length ct) (seg := [.slice At T.length ct]) rfl rfl HT7.out rfl (by kernel_rfl) (by simp) (by simp [Value.oneCell']) ?_; intro w4 hrow hgr; have n1_ := Aside0.mk (H.out.through hgr (fun k hk => by injection hk with hk; have := HG7.out; have := H.out.ge; omega)); have n2_ := Aside0.mk (H3.out.grown hgr (by have := HG.out; have := HG7.out; simp; omega)); have n3_ := Aside0.mk (own_kept HS.out (fun k hk => hgr.block k (own_lt HS.out k hk) (by have := HG7.out.2 k hk; simpa using this))); clear H H3 HS; have H := n1_; have H3 := n2_; have HS := n3_; clear n1_ n2_ n3_; have n1_ := Aside0.mk (own_kept HT.out (fun k hk => hgr.block k (own_lt HT.out k hk) (by have := own_base HT.out k hk; simp; omega))); clear HT7 HT; have HT7 := Aside0.mk (show RowAt w4 g7 112 [.slice As S.length cs, .slice At T.length ct, .slice none 0 0] from hrow); have HT := n1_; clear n1_ hrow hgr; have h1 := H.out.c1)
                | (go_at_call 58; refine (rcount_bad w _ g b _ e _ _ H.out (by simpa using HF.out)).mono ?_; rintro xx w3 ⟨rfl, hrs, hq2⟩; clear H h1; have H := Aside0.mk hrs; have n1_ := Aside0.mk (H3.out.kept (hq2.2 g3 H3.out.lt (by have := HG.out; omega))); clear H3; have H3 := n1_; clear n1_; have n1_ := Aside0.mk (HT7.out.kept (hq2.2 g7 HT7.out.lt (by have := HG7.out; omega))); clear HT7; have HT7 := n1_; clear n1_; have n1_ := Aside0.mk (own_kept HS.out (fun k hk => hq2.2 k (own_lt HS.out k hk) (by have := own_base HS.out k hk; omega))); clear HS; have HS := n1_; clear n1_; have n1_ := Aside0.mk (own_kept HT.out (fun k hk => hq2.2 k (own_lt HT.out k hk) (by have := own_base HT.out k hk; have := HG7.out; omega))); clear HT; have HT := n1_; clear n1_; clear hq2 hrs)
                | (go_at_call 59; refine (wrong_bad w _ g b _ e _ _ _ _ H.out (by simpa using HF.out)).mono ?_; rintro xx w3 ⟨rfl, hrs, hq2⟩; clear H; have H := Aside0.mk hrs; have n1_ := Aside0.mk (H3.out.kept (hq2.2 g3 H3.out.lt (by have := HG.out; omega))); clear H3; have H3 := n1_; clear n1_; have n1_ := Aside0.mk (HT7.out.kept (hq2.2 g7 HT7.out.lt (by have := HG7.out; omega))); clear HT7; have HT7 := n1_; clear n1_; have n1_ := Aside0.mk (own_kept HS.out (fun k hk => hq2.2 k (own_lt HS.out k hk) (by have := own_base HS.out k hk; omega))); clear HS; have HS := n1_; clear n1_; have n1_ := Aside0.mk (own_kept HT.out (fun k hk => hq2.2 k (own_lt HT.out k hk) (by have := own_base HT.out k hk; have := HG7.out; omega))); clear HT; have HT := n1_; clear n1_; clear hq2 hrs)
                | (((with_reducible refine gate_dst (N := 12) rfl ?_); refine box_event (N := 12) rfl rfl (cs := #[.int .i64 0, .int .i64 0]) (t := 115) ?hr2 ?_; (case hr2 => first | (go_simp; done) | (go_simp; rfl)); intro gu hgu w1 hbox hb1; have HU := Aside0.mk (show RowAt w1 gu 115 [.int .i64 0, .int .i64 0] from ⟨_, hbox, rfl⟩); have HGU := Aside0.mk (show g7 < gu ∧ (∀ k, (Value.slice As S.length cs).ownBlock = some k → k < gu) ∧ (∀ k, (Value.slice At T.length ct).ownBlock = some k → k < gu) by refine ⟨?_, fun k hk => ?_, fun k hk => ?_⟩; (have := HT7.out.lt; omega); (have := own_lt HS.out k hk; omega); (have := own_lt HT.out k hk; omega)); have n1_ := Aside0.mk (H.out.below hb1); have n2_ := Aside0.mk (H3.out.below hb1); have n3_ := Aside0.mk (own_kept HS.out (fun k hk => hb1.block k (own_lt HS.out k hk))); have n4_ := Aside0.mk (own_kept HT.out (fun k hk => hb1.block k (own_lt HT.out k hk))); have n5_ := Aside0.mk (HT7.out.below hb1); clear H H3 HS HT HT7 hbox hb1 hgu; have H := n1_; have H3 := n2_; have HS := n3_; have HT := n4_; have HT7 := n5_; clear n1_ n2_ n3_ n4_ n5_)))
              refine wp_loop_once ?_
              have t0 := (HT7.out.cell 0).trans (show _ = some (.slice As S.length cs) from rfl); have t1 := (HT7.out.cell 1).trans (show _ = some (.slice At T.length ct) from rfl); have s0 := (HU.out.cell 0).trans (show _ = some (.int .i64 _) from rfl); have s1 := (HU.out.cell 1).trans (show _ = some (.int .i64 _) from rfl)
              have h1 := H.out.c1
              go_wp2_with (first
                | (go_at_call 59; refine (wrong_bad w _ g b _ e _ _ _ _ H.out (by simpa using HF.out)).mono ?_; rintro xx w3 ⟨rfl, hrs, hq2⟩; clear H h1; have H := Aside0.mk hrs; have n1_ := Aside0.mk (H3.out.kept (hq2.2 g3 H3.out.lt (by have := HG.out; omega))); clear H3; have H3 := n1_; clear n1_; have n1_ := Aside0.mk (HT7.out.kept (hq2.2 g7 HT7.out.lt (by have := HG7.out; omega))); clear HT7; have HT7 := n1_; clear n1_; have n1_ := Aside0.mk (own_kept HS.out (fun k hk => hq2.2 k (own_lt HS.out k hk) (by have := own_base HS.out k hk; omega))); clear HS; have HS := n1_; clear n1_; have n1_ := Aside0.mk (own_kept HT.out (fun k hk => hq2.2 k (own_lt HT.out k hk) (by have := own_base HT.out k hk; have := HG7.out; omega))); clear HT; have HT := n1_; clear n1_; have n1_ := Aside0.mk (HU.out.kept (hq2.2 gu HU.out.lt (by have := HG7.out; have := HGU.out; omega))); clear HU t0 t1 s0 s1; have HU := n1_; clear n1_; clear hq2 hrs; have h1 := H.out.c1; have t0 := (HT7.out.cell 0).trans (show _ = some (.slice As S.length cs) from rfl); have t1 := (HT7.out.cell 1).trans (show _ = some (.slice At T.length ct) from rfl); have s0 := (HU.out.cell 0).trans (show _ = some (.int .i64 _) from rfl); have s1 := (HU.out.cell 1).trans (show _ = some (.int .i64 _) from rfl))
                | (go_at_call 60; refine (rok_same w _ g b _ e _ _ false H.out HF.out).mono ?_; rintro xx w3 ⟨rfl, hrs, hq2⟩; clear H; have H := Aside0.mk hrs; have n1_ := Aside0.mk (H3.out.kept (hq2.2 g3 H3.out.lt (by have := HG.out; omega))); clear H3; have H3 := n1_; clear n1_; have n1_ := Aside0.mk (HT7.out.kept (hq2.2 g7 HT7.out.lt (by have := HG7.out; omega))); clear HT7; have HT7 := n1_; clear n1_; have n1_ := Aside0.mk (own_kept HS.out (fun k hk => hq2.2 k (own_lt HS.out k hk) (by have := own_base HS.out k hk; omega))); clear HS; have HS := n1_; clear n1_; have n1_ := Aside0.mk (own_kept HT.out (fun k hk => hq2.2 k (own_lt HT.out k hk) (by have := own_base HT.out k hk; have := HG7.out; omega))); clear HT; have HT := n1_; clear n1_; clear hq2 hrs; have h3 := H.out.c3; have h4 := H.out.c4))
              all_goals
                go_still_tail 5, (by kernel_rfl)
                have HB := Aside0.mk (below_drew H.out.old)
                have n2_ := Aside0.mk (H3.out.below (below_drew (Below.refl _ _)))
                clear H3
                have H3 := n2_
                clear n2_
                (refine put_event rfl rfl 46 (.tmp 3) (.tmp 163) rfl (off := 0) (u := .agg #[.int .i64 (f.1), .int .i64 (f.2)]) (seg := [.int .i64 (f.1), .int .i64 (f.2)]) rfl rfl H3.out rfl (by kernel_rfl) (by simp) (by simp [Value.oneCell']) ?_; intro w5 hrow hgr; have n1_ := Aside0.mk (pw_below_grown HB.out (some g3) HB.out.size hgr (fun k hk => by injection hk with hk; have := HG3.out; omega)); have HX := Aside0.mk (show RowAt w5 g3 46 [.int .i64 (f.1), .int .i64 (f.2)] from hrow); clear H3 HB hrow; have HB := n1_; clear n1_)
                go_wp2
                refine bodyPost_ret (results_tc rfl _ _ g3 46 #[.int .i64 (f.1), .int .i64 (f.2)] (0, 0) _ rfl (by obtain ⟨cur, h1, h2⟩ := HX.out; rw [h1, ← h2]) Try.underlying46 rfl (by kernel_rfl)) rfl ?_
                rw [← HRES.out]
                exact ⟨rfl, HB.out⟩
          | .ok (T, l2) => exact (HNB.out S l1 T l2 rfl HTN.out).elim
end
end Go.Proofs.Ytebiogaacikphaa.Pack
end
