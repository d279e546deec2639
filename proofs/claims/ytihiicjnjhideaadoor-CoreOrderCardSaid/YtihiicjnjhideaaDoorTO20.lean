/- Parts of the proof of coreOrder: BuildSplitW, BuildLit. No condition beyond each lemma's own. -/
import Derived.StillTailTactics
import Derived.Test.YtihiicjnjhideaaDoorTO5
import Derived.Test.YtihiicjnjhideaaDoorTO19
section
namespace Go.Proofs.YtihiicjnjhideaaDoor.Build
open Go.RowKit Go.Proofs.YtihiicjnjhideaaDoorW.PrintWords Go.Proofs.YtihiicjnjhideaaDoor.PAll Go.Proofs.YtihiicjnjhideaaDoor.Core
set_option linter.unusedVariables false
set_option linter.unusedSimpArgs false
theorem num_zero (n : Nat) : numC (List.replicate n 0) = (List.replicate n (Value.int .i64 0).cells.toList).flatten := by
 induction n with
 | zero => rfl
 | succ n ih => rw [List.replicate_succ, List.replicate_succ, List.flatten_cons, ← ih]; rfl
def enCells (x : EN) : List Value := [.int .i64 x.f0, .int .i64 x.f1, .string x.f2, .bool x.f3, .int .u64 x.f4.f0, .int .u64 x.f4.f1, .int .u64 x.f4.f2, .int .u64 x.f4.f3, .int .i64 x.f5, .int .i64 x.f6]
def zCells : List Value := [.int .i64 0, .int .i64 0, .string (⟨#[]⟩ : ByteArray), .bool false, .int .u64 0, .int .u64 0, .int .u64 0, .int .u64 0, .int .i64 0, .int .i64 0]
theorem en_one (x : EN) : ∀ q ∈ enCells x, q.oneCell' = true := by simp [enCells, Value.oneCell']
structure SzOk (sz S : List Nat) (n i : Nat) : Prop where
 len : S.length = n
 at_ : ∀ j, j < i → S[j]? = sz[j]?
structure SzIn (sz S : List Nat) (n i x : Nat) : Prop where
 len : S.length = n
 at_ : ∀ j, j < i → S[j]? = sz[j]?
 now : S[i]? = some x
theorem SzIn.set {sz S : List Nat} {n i x : Nat} (h : SzIn sz S n i x) (y : Nat) (hi : i < n) : SzIn sz (S.set i y) n i y := ⟨by rw [List.length_set]; exact h.len, fun j hj => by rw [List.getElem?_set_ne (by omega)]; exact h.at_ j hj, by rw [List.getElem?_set_self (by rw [h.len]; exact hi)]⟩
theorem szok_next {sz S : List Nat} {n i x : Nat} (h : SzIn sz S n i x) (hx : sz[i]? = some x) : SzOk sz S n (i + 1) := ⟨h.len, fun j hj => by
 rcases Nat.lt_or_ge j i with h1 | h1
 ·exact h.at_ j h1
 ·rw [show j = i by omega, h.now, hx]⟩
theorem szok_all {sz S : List Nat} {n i : Nat} (h : SzOk sz S n i) (hi : n ≤ i) (hl : sz.length = n) : S = sz := by
 apply List.ext_getElem?
 intro j
 rcases Nat.lt_or_ge j n with h1 | h1
 ·exact h.at_ j (by omega)
 ·rw [List.getElem?_eq_none (by rw [h.len]; exact h1), List.getElem?_eq_none (by rw [hl]; exact h1)]
theorem part_zero (ad : Addr) (c : Nat) (ps : List T) : List.replicate ps.length (Value.slice none 0 0) ++ (partVs ad c ps).drop ps.length = (List.replicate ps.length (Value.slice none 0 0).cells.toList).flatten := by
 have h1 : (partVs ad c ps).drop ps.length = [] := List.drop_of_length_le (by rw [partVs_len]; exact Nat.le_refl _)
 rw [h1, List.append_nil]
 have : ∀ n, List.replicate n (Value.slice none 0 0) = (List.replicate n (Value.slice none 0 0).cells.toList).flatten := by
  intro n
  induction n with
  | zero => rfl
  | succ n ih => rw [List.replicate_succ, List.replicate_succ, List.flatten_cons, ← ih]; rfl
 exact this _
theorem qs_le (qs : List T) : qs.length ≤ lenF qs := by
 induction qs with
 | nil => exact Nat.le_refl _
 | cons t qs ih => rw [lenF_cons, List.length_cons]; have := flatT_pos t; omega
theorem lenF_drop_le (qs : List T) (k : Nat) : lenF (qs.drop k) ≤ lenF qs := by
 have : lenF (qs.take k ++ qs.drop k) = lenF qs := by rw [List.take_append_drop]
 rw [lenF_append] at this
 omega
section
variable (ad : Addr) (n c : Nat) (nd : EN) (ps : List T) (w : World)
set_option maxHeartbeats 8000000 in
set_option maxRecDepth 100000 in
theorem split_calls (hr : Kd.C kEN w (some ad) n (flatT (.mk nd ps))) (hw : wfT (.mk nd ps)) (hc : n ≤ c) (hn : n ≤ 1099511627776) :
  Calls Tryd.prog 43 #[.slice (some ad) n c] w fun e w' => ∃ g, e = .returned (.slice (some ⟨g, 0, none⟩) ps.length ps.length) ∧ RowAt w' g 38 (partVs ad c ps) ∧ Below w.heap.size w w' := by
 have HR := aK hr
 have HLEN := aK (show n = lenF ps + 1 by rw [← hr.1, flatT, List.length_append]; rfl)
 have HSL := aK (show (szsT (.mk nd ps)).length = n by rw [szsT_len, hr.1])
 have HAT := aK (show ∀ i, i < n → SzAt (flatT (.mk nd ps)) (szsT (.mk nd ps)) i from fun i hi => szT_at _ hw i (by rw [hr.1]; exact hi))
 have HF1 := aK (show nd.f1 = (ps.length : Int) by rw [wfT] at hw; exact hw.1)
 have HC := aK hc
 have nb : (n : Int) ≤ 1099511627776 := by omega
 clear hr hw hn hc
 go_enter Tryd.func43, Tryd.ntmps43
 go_wp2_with (first
  | ((with_reducible refine gate_dst (N := 12) rfl ?_); refine make_event rfl 91 (.tmp 11) (.tmp 11) rfl n rfl rfl 3 (.int .i64 0) 1 8 Tryd.underlying91 (by kernel_rfl) rfl (by omega) (by omega) ?_; intro gs hgs w3 hrow hb3; have HS := aK (show RowAt w3 gs 3 (numC (List.replicate n 0)) from by rw [show numC (List.replicate n 0) = (List.replicate n (Value.int .i64 0).cells.toList).flatten from num_zero n]; exact hrow); have HGS := aK (show w.heap.size ≤ gs by rw [hgs]; exact Nat.le_refl _); have HW := aK hb3; clear hrow hgs hb3))
 go_loopw [15] (fun v15 wr => ∃ (i : Nat) (S : List Nat), v15 = .int .i64 i ∧ Aside0 (i ≤ n) ∧ Aside0 (SzOk (szsT (.mk nd ps)) S n i) ∧ Aside0 (RowAt wr gs 3 (numC S)) ∧ Aside0 (Below w.heap.size w wr)) (fun v15 _ => n - (intOf v15).toNat)
 case atStart => exact ⟨0, _, rfl, ⟨Nat.zero_le _⟩, ⟨⟨by simp, fun j hj => absurd hj (Nat.not_lt_zero j)⟩⟩, HS, HW⟩
 case round =>
  clear HS HW
  obtain ⟨i, S, rfl, HI, HOK, HS, HW⟩ := hrel
  have ib : (i : Int) ≤ 1099511627776 := by have := HI.out; omega
  by_cases ci : i < n
  ·have b1 : decide ((i : Int) < (n : Int)) = true := decide_eq_true (by omega)
   have b1n : decide (i < n) = true := decide_eq_true ci
   obtain ⟨x, qs, hx, hf1, hsz, hle, hq⟩ := HAT.out i ci
   have hna := (node_at HR.out hx).below HW.out
   have hix := idx_en ad n c i ci
   obtain ⟨p, hp⟩ : ∃ p, ad.add (i * 10) = p := ⟨_, rfl⟩
   rw [hp] at hna hix
   have hix2 := idx_int gs n n i ci
   have HQF := aK hf1
   have HSZ := aK hsz
   have HLE := aK hle
   have HQ := aK hq
   obtain ⟨x0, x1, x2, x3, x4, x5, x6, x7, x8, x9⟩ := hna
   clear hx hf1 hsz hle hq hp
   go_wp2_with (first
    | ((with_reducible refine gate_dst (N := 5) rfl ?_); refine box_event ?hg (N := 5) ?hd (cs := #[.int .i64 0, .int .i64 0, .string (⟨#[]⟩ : ByteArray), .bool false, .int .u64 0, .int .u64 0, .int .u64 0, .int .u64 0, .int .i64 0, .int .i64 0]) (t := 51) ?hr ?_; (case hd => rfl); (case hg => rfl); (case hr => first | (go_simp; done) | (go_simp; rfl)); intro gn hgn w4 hbox hb4; have HN := aK (show RowAt w4 gn 51 zCells from ⟨_, hbox, rfl⟩); have HGN := aK (show w.heap.size ≤ gn ∧ gs < gn by rw [hgn]; exact ⟨HW.out.size, HS.out.lt⟩); have n1_ := aK (HS.out.below hb4); have n2_ := aK (below_step HW.out hb4); clear HS HW hbox hb4 hgn x0 x1 x2 x3 x4 x5 x6 x7 x8 x9; have HS := n1_; have HW := n2_; clear n1_ n2_)
    | ((with_reducible refine gate_store (t := 51) (p := 5) rfl ?_); refine put_event rfl rfl 51 (.tmp 5) (.tmp 19) rfl (g := gn) (off := 0) (u := .agg (enCells x).toArray) (seg := enCells x) rfl rfl HN.out rfl (by kernel_rfl) (Nat.le_refl _) (en_one x) ?_; intro w5 hrow hg5; have n1_ := aK (show RowAt w5 gn 51 (enCells x) from hrow); have n2_ := aK (HS.out.grown hg5 (by have := HGN.out; simp; omega)); have n3_ := aK (pw_below_grown HW.out _ HW.out.size hg5 (fun k hk => by cases hk; exact HGN.out.1)); clear HN HS HW hrow hg5; have HN := n1_; have HS := n2_; have HW := n3_; clear n1_ n2_ n3_; have x1 : w5.cell? ⟨gn, 1, none⟩ = some (.int .i64 (qs.length : Int)) := by rw [← HQF.out]; exact HN.out.cell 1)
    | ((with_reducible refine gate_store (t := 3) (p := 22) rfl ?_); refine put_event rfl rfl 3 (.tmp 22) (.const (.int .i64 1)) rfl (g := gs) (off := i) (u := .int .i64 ((1 : Nat) : Int)) (seg := [.int .i64 ((1 : Nat) : Int)]) rfl rfl HS.out rfl (by kernel_rfl) (by have := HOK.out.len; simp; omega) (by simp [Value.oneCell']) ?_; intro w6 hrow hg6; have n1_ := aK (show RowAt w6 gs 3 (numC (S.set i 1)) by rw [← put_num S i 1 (by rw [HOK.out.len]; exact ci)]; exact hrow); have n2_ := aK (HN.out.grown hg6 (by have := HGN.out; simp; omega)); have n3_ := aK (pw_below_grown HW.out _ HW.out.size hg6 (fun k hk => by cases hk; exact HGS.out)); clear HN HS HW x1 hrow hg6; have HN := n2_; have HS := n1_; have HW := n3_; clear n1_ n2_ n3_; have x1 : w6.cell? ⟨gn, 1, none⟩ = some (.int .i64 (qs.length : Int)) := by rw [← HQF.out]; exact HN.out.cell 1))
   have HL := aK (show SzIn (szsT (.mk nd ps)) (S.set i 1) n i (lenF (qs.drop (qs.length - 0)) + 1) from ⟨by rw [List.length_set]; exact HOK.out.len, fun j hj => by rw [List.getElem?_set_ne (by omega)]; exact HOK.out.at_ j hj, by rw [List.getElem?_set_self (by rw [HOK.out.len]; exact ci), Nat.sub_zero, List.drop_length]; rfl⟩)
   clear HOK x1
   go_loopw [25] (fun v25 wr => ∃ (m : Nat) (S : List Nat), v25 = .int .i64 m ∧ Aside0 (m ≤ qs.length) ∧ Aside0 (SzIn (szsT (.mk nd ps)) S n i (lenF (qs.drop (qs.length - m)) + 1)) ∧ Aside0 (RowAt wr gs 3 (numC S)) ∧ Aside0 (Below w.heap.size w wr)) (fun v25 _ => qs.length - (intOf v25).toNat)
   case atStart => exact ⟨0, _, rfl, ⟨Nat.zero_le _⟩, HL, HS, HW⟩
   case round =>
    clear HL HS HW
    obtain ⟨m, S, rfl, HM, HL, HS, HW⟩ := hrel
    have qb : (qs.length : Int) ≤ 1099511627776 := by have := qs_le qs; have := HLE.out; omega
    have mb : (m : Int) ≤ 1099511627776 := by have := HM.out; omega
    by_cases cm : m < qs.length
    ·have b2 : decide ((m : Int) < (qs.length : Int)) = true := decide_eq_true (by omega)
     have b2n : decide (m < qs.length) = true := decide_eq_true cm
     obtain ⟨t, ht, hk1, hl⟩ := sz_step cm
     have hcell := HQ.out _ t ht
     rw [hk1] at hcell
     obtain ⟨s, hs⟩ : ∃ s, lenF (qs.drop (qs.length - m)) + 1 = s := ⟨_, rfl⟩
     obtain ⟨q, hq⟩ : ∃ q, (flatT t).length = q := ⟨_, rfl⟩
     have hdl := lenF_drop_le qs (qs.length - (m + 1))
     rw [hl] at hdl
     rw [hs, hq] at hcell
     have hsi : s + q ≤ i + 1 := by have := HLE.out; omega
     have hq1 : 1 ≤ q := by rw [← hq]; exact flatT_pos t
     have hs1 : 1 ≤ s := by omega
     have HS2 := aK (show lenF (qs.drop (qs.length - (m + 1))) + 1 = s + q by omega)
     rw [hs] at HL
     have x1 : wr.cell? ⟨gs, i, none⟩ = some (.int .i64 (s : Int)) := by rw [HS.out.cell, List.getElem?_map, HL.out.now]; rfl
     have x2 : wr.cell? ⟨gs, i - s, none⟩ = some (.int .i64 (q : Int)) := by rw [HS.out.cell, List.getElem?_map, HL.out.at_ (i - s) (by omega), hcell]; rfl
     have hix1 := idx_int gs n n i ci
     have hix2 := idx_int gs n n (i - s) (by omega)
     have hw1 : IntKind.i64.wrap ((i : Int) - (s : Int)) = ((i - s : Nat) : Int) := by rw [IntWalk.i64_in _ (by omega)]; omega
     have hw2 : IntKind.i64.wrap ((s : Int) + (q : Int)) = ((s + q : Nat) : Int) := by rw [IntWalk.i64_in _ (by omega)]; omega
     clear hdl hl hk1 ht hcell hs hq
     go_wp2
     go_still_tail 14, (by kernel_rfl)
     change wpList _ _ _ _ _ wr.drew
     have n1_ := aK (HS.out.below (below_drew (Below.refl _ _)))
     have n2_ := aK (below_drew HW.out)
     clear HS HW x1 x2
     have HS := n1_
     have HW := n2_
     clear n1_ n2_
     generalize wr.drew = wd at *
     go_wp2_with (first
      | ((with_reducible refine gate_store (t := 3) (p := 41) rfl ?_); refine put_event rfl rfl 3 (.tmp 41) (.tmp 40) rfl (g := gs) (off := i) (u := .int .i64 ((s + q : Nat) : Int)) (seg := [.int .i64 ((s + q : Nat) : Int)]) rfl rfl HS.out rfl (by kernel_rfl) (by have := HL.out.len; simp; omega) (by simp [Value.oneCell']) ?_; intro w7 hrow hg7; have n1_ := aK (show RowAt w7 gs 3 (numC (S.set i (s + q))) by rw [← put_num S i (s + q) (by rw [HL.out.len]; exact ci)]; exact hrow); have n3_ := aK (pw_below_grown HW.out _ HW.out.size hg7 (fun k hk => by cases hk; exact HGS.out)); have HL2 := aK (HL.out.set (s + q) ci); clear HL HS HW hrow hg7; have HS := n1_; have HW := n3_; clear n1_ n3_))
     go_roundw
     case measure => simp [intOf]; omega
     case rel => exact ⟨m + 1, _, by go_num, ⟨cm⟩, by rw [HS2.out]; exact HL2, HS, HW⟩
    ·have b2 : decide ((m : Int) < (qs.length : Int)) = false := decide_eq_false (by omega)
     have b2n : decide (m < qs.length) = false := decide_eq_false cm
     obtain rfl : m = qs.length := by have := HM.out; omega
     have HL2 := aK (show SzOk (szsT (.mk nd ps)) S n (i + 1) from szok_next HL.out (by rw [HSZ.out, Nat.sub_self]; rfl))
     clear HL
     go_wp2
     go_roundw
     case measure => simp [intOf]; omega
     case rel => exact ⟨i + 1, S, by go_num, ⟨ci⟩, HL2, HS, HW⟩
  ·have b1 : decide ((i : Int) < (n : Int)) = false := decide_eq_false (by omega)
   have b1n : decide (i < n) = false := decide_eq_false ci
   have HSE := aK (show S = szsT (.mk nd ps) from szok_all HOK.out (by have := HI.out; omega) HSL.out)
   rw [HSE.out] at HS
   clear HOK HSE
   have hln := HLEN.out
   obtain ⟨l, hl⟩ : ∃ l, lenF ps = l := ⟨_, rfl⟩
   rw [hl] at hln
   have HLL := aK hl
   have hx : (flatT (.mk nd ps))[l]? = some nd := by rw [flatT, ← hl]; exact List.getElem?_concat_length
   have hna := (node_at HR.out hx).below HW.out
   have hix := idx_en ad n c l (by omega)
   obtain ⟨p, hp⟩ : ∃ p, ad.add (l * 10) = p := ⟨_, rfl⟩
   rw [hp] at hna hix
   obtain ⟨x0, x1, x2, x3, x4, x5, x6, x7, x8, x9⟩ := hna
   rw [HF1.out] at x1
   have hw3 : IntKind.i64.wrap ((n : Int) - 1) = (l : Int) := by rw [IntWalk.i64_in _ (by omega)]; omega
   have pb : (ps.length : Int) ≤ 1099511627776 := by have := qs_le ps; omega
   have hw4 : IntKind.i64.wrap ((ps.length : Int) - 1) = (ps.length : Int) - 1 := by rw [IntWalk.i64_in _ (by omega)]
   have HPL := aK (show ps.length ≤ l by have := qs_le ps; omega)
   have HLN := aK hln
   clear hl hln hx hp x0 x2 x3 x4 x5 x6 x7 x8 x9 HI
   go_wp2_with (first
    | ((with_reducible refine gate_dst (N := 51) rfl ?_); refine make_event rfl 97 (.tmp 50) (.tmp 50) rfl ps.length rfl rfl 38 (.slice none 0 0) 1 24 Tryd.underlying97 (by kernel_rfl) rfl (by omega) (by omega) ?_; intro gp hgp w8 hrow hb8; have HP := aK (show RowAt w8 gp 38 (List.replicate ps.length (Value.slice none 0 0) ++ (partVs ad c ps).drop ps.length) from by rw [part_zero]; exact hrow); have HGP := aK (show w.heap.size ≤ gp ∧ gs < gp by rw [hgp]; exact ⟨HW.out.size, HS.out.lt⟩); have n1_ := aK (HS.out.below hb8); have n2_ := aK (below_step HW.out hb8); clear HS HW hrow hgp hb8 x1; have HS := n1_; have HW := n2_; clear n1_ n2_))
   go_loopw [7, 8] (fun v7 v8 wr => ∃ (j : Nat), v7 = .int .i64 (lenF (ps.take j) : Nat) ∧ v8 = .int .i64 ((j : Int) - 1) ∧ Aside0 (j ≤ ps.length) ∧ Aside0 (RowAt wr gs 3 (numC (szsT (.mk nd ps)))) ∧ Aside0 (RowAt wr gp 38 (List.replicate j (.slice none 0 0) ++ (partVs ad c ps).drop j)) ∧ Aside0 (Below w.heap.size w wr)) (fun _ v8 _ => (intOf v8 + 1).toNat)
   case atStart => exact ⟨ps.length, by rw [List.take_length, HLL.out], rfl, ⟨Nat.le_refl _⟩, HS, HP, HW⟩
   case round =>
    clear HS HP HW
    obtain ⟨j, rfl, rfl, HJ, HS, HP, HW⟩ := hrel
    cases j with
    | zero =>
     have hz : (((0 : Nat) : Int) - 1) = -1 := rfl
     rw [hz]
     go_wp2
     go_ret
     exact ⟨gp, rfl, by simpa using HP.out, HW.out⟩
    | succ k =>
     have kb : (k : Int) ≤ 1099511627776 := by have := HJ.out; omega
     have hkz : (((k + 1 : Nat) : Int) - 1) = (k : Int) := by omega
     rw [hkz]
     have hk : k < ps.length := by have := HJ.out; omega
     obtain ⟨t, ht⟩ : ∃ t, ps[k]? = some t := ⟨_, List.getElem?_eq_getElem hk⟩
     have hts := lenF_take_succ ht
     have hrz := root_sz (n := nd) ht
     have hsp := lenF_split ht
     have htp := flatT_pos t
     have HPG := aK (partVs_get (ad := ad) (c := c) hk)
     have HPE : partV ad c ps k = .slice (some (ad.add (lenF (ps.take k) * 10))) (lenF (ps.take (k + 1)) - lenF (ps.take k)) (c - lenF (ps.take k)) := rfl
     obtain ⟨a, ha⟩ : ∃ a, lenF (ps.take k) = a := ⟨_, rfl⟩
     obtain ⟨b, hb⟩ : ∃ b, lenF (ps.take (k + 1)) = b := ⟨_, rfl⟩
     obtain ⟨q, hq⟩ : ∃ q, (flatT t).length = q := ⟨_, rfl⟩
     rw [hb, ha, hq] at hts
     rw [hb, hq] at hrz
     rw [ha, hq] at hsp
     rw [hq] at htp
     rw [ha, hb] at HPE
     have hln := HLN.out
     have hll := HLL.out
     rw [hb]
     have HAE := aK ha
     clear ha hb hq ht
     have hbn : b - 1 < n := by omega
     have bb : (b : Int) ≤ 1099511627776 := by omega
     have b1' : 1 ≤ b := by omega
     have hix1 := idx_int gs n n (b - 1) hbn
     have x1 : wr.cell? ⟨gs, b - 1, none⟩ = some (.int .i64 (q : Int)) := by rw [HS.out.cell, List.getElem?_map, hrz]; rfl
     have hix2 := idx_ex gp ps.length ps.length k hk
     have hw5 : IntKind.i64.wrap ((b : Int) - 1) = ((b - 1 : Nat) : Int) := by rw [IntWalk.i64_in _ (by omega)]; omega
     have hw6 : IntKind.i64.wrap ((b : Int) - (q : Int)) = (a : Int) := by rw [IntWalk.i64_in _ (by omega)]; omega
     have hw7 : IntKind.i64.wrap ((k : Int) - 1) = (k : Int) - 1 := by rw [IntWalk.i64_in _ (by omega)]
     have hcut := cut_mid (P := Tryd.prog) 38 51 .i64 .i64 Tryd.underlying38 rfl 10 (by kernel_rfl) (some ad) n c (a : Int) (b : Int) (by omega) (by omega) (by omega) HC.out
     have hcut2 : ∀ W : World, (Instr.slice 38 (.slice (some ad) n c) (some (.int .i64 (a : Int))) (some (.int .i64 (b : Int))) none).run Tryd.prog W = .ok (partV ad c ps k) W := by
      intro W
      have := HC.out
      rw [hcut W, Int.toNat_natCast, Int.toNat_natCast, if_neg (by omega), HPE]
      rfl
     have HAB := aK (show a ≤ b by omega)
     clear hcut HPE hts hrz hsp htp hln hll hbn
     have HPC := aK (show (partV ad c ps k).cells.toList = [partV ad c ps k] ∧ (partV ad c ps k).oneCell' = true from ⟨rfl, rfl⟩)
     generalize partV ad c ps k = pv at *
     go_wp2_with (first
      | ((with_reducible refine gate_store (t := 38) (p := 75) rfl ?_); refine put_event rfl rfl 38 (.tmp 75) (.tmp 74) rfl (g := gp) (off := k) (u := pv) (seg := [pv]) rfl rfl HP.out HPC.out.1 (by kernel_rfl) (by rw [List.length_append, List.length_replicate]; have : [pv].length = 1 := rfl; omega) (by intro q hq; rw [List.mem_singleton.1 hq]; exact HPC.out.2) ?_; intro w9 hrow hg9; have n1_ := aK (show RowAt w9 gp 38 (List.replicate k (.slice none 0 0) ++ (partVs ad c ps).drop k) by rw [← put_part HPG.out]; exact hrow); have n2_ := aK (HS.out.grown hg9 (by have := HGP.out; simp; omega)); have n3_ := aK (pw_below_grown HW.out _ HW.out.size hg9 (fun k hk => by cases hk; exact HGP.out.1)); clear HP HS HW hrow hg9 x1; have HP := n1_; have HS := n2_; have HW := n3_; clear n1_ n2_ n3_))
     go_roundw
     case measure => simp [intOf]
     case rel => exact ⟨k, by rw [HAE.out], rfl, ⟨Nat.le_of_lt hk⟩, HS, HP, HW⟩
end
end Go.Proofs.YtihiicjnjhideaaDoor.Build
end
section
namespace Go.Proofs.YtihiicjnjhideaaDoor.Build
open Go.RowKit Go.Proofs.YtihiicjnjhideaaDoorW.PrintWords Go.Proofs.YtihiicjnjhideaaDoor.PAll Go.Proofs.YtihiicjnjhideaaDoor.Core
set_option linter.unusedVariables false
set_option linter.unusedSimpArgs false
theorem cell_of {w : World} {g : Nat} {e : TypeId} {cs : List Value} {q : Nat} {v : Value} (h : RowAt w g e cs) (hv : cs[q]? = some v) : w.cell? ⟨g, q, none⟩ = some v := (h.cell q).trans hv
def orB (c : Int) (r : Nat) : Int := bits BinOp.or IntKind.u64 c (IntKind.u64.wrap (2 ^ r))
/-- A byte more in a class. -/
def putL (cl : List Int) (x : Nat) : List Int := cl.set (x / 64) (orB (cl.getD (x / 64) 0) (x % 64))
theorem putL_len (cl : List Int) (x : Nat) : (putL cl x).length = cl.length := by simp [putL]
abbrev clCells (cl : List Int) : List Value := cl.map (Value.int .u64)
section
variable (gC : Nat) (x : Nat) (cl : List Int) (w : World)
set_option maxHeartbeats 4000000 in
set_option maxRecDepth 100000 in
theorem put_calls (hx : x < 256) (hb : RowAt w gC 49 (clCells cl)) (hlen : cl.length = 4) :
  Calls Tryd.prog 59 #[.int .u8 x, .pointer (some ⟨gC, 0, none⟩)] w fun e w' => e = .returned (.tuple #[]) ∧ RowAt w' gC 49 (clCells (putL cl x)) ∧ w.grownBy w' (some gC) := by
 obtain ⟨q, hq⟩ : ∃ q, x / 64 = q := ⟨_, rfl⟩
 obtain ⟨r, hr⟩ : ∃ r, x % 64 = r := ⟨_, rfl⟩
 obtain ⟨c, hc⟩ : ∃ c, cl[q]? = some c := ⟨_, List.getElem?_eq_getElem (by omega)⟩
 have x0 := cell_of hb (q := q) (v := .int .u64 c) (by rw [List.getElem?_map, hc]; rfl)
 have q4 : q < 4 := by omega
 have q4i : (q : Int) < 4 := by omega
 have HB := aK hb
 have hq1 : (x : Int).tdiv 64 = (q : Int) := by rw [Int.tdiv_eq_ediv_of_nonneg (by omega)]; omega
 have hr1 : (x : Int).tmod 64 = (r : Int) := by rw [Int.tmod_eq_emod_of_nonneg (by omega)]; omega
 have r4 : r < 64 := by omega
 have hw : IntKind.u8.wrap (q : Int) = (q : Int) := by simp [IntKind.wrap, IntKind.signed, IntKind.bits]; omega
 have hw2 : IntKind.u8.wrap (r : Int) = (r : Int) := by simp [IntKind.wrap, IntKind.signed, IntKind.bits]; omega
 have HP := aK (show putL cl x = cl.take q ++ [orB c r] ++ cl.drop (q + 1) by
  rw [putL, hq, hr, List.getD_eq_getElem?_getD, hc]
  show cl.set q (orB c r) = _
  rw [List.set_eq_take_append_cons_drop, if_pos (by omega)]
  simp)
 have HLEN := aK hlen
 clear hb hq hr hx hc hlen
 go_enter Tryd.func59, Tryd.ntmps59
 go_wp2_with (first
  | ((with_reducible refine gate_store (t := 47) (p := 11) rfl ?_); refine put_event rfl rfl 47 (.tmp 11) (.tmp 10) rfl (g := gC) (off := q) (u := .int .u64 (orB c r)) (seg := [.int .u64 (orB c r)]) rfl rfl HB.out rfl (by kernel_rfl) (by have := HLEN.out; simp; omega) (by simp [Value.oneCell']) ?_; intro w5 hrow hg; have HR := aK (show RowAt w5 gC 49 (clCells (putL cl x)) by rw [HP.out]; simpa [clCells] using hrow); have HG := aK hg; clear HB x0 hrow hg))
 go_end0
 exact ⟨rfl, HR.out, HG.out⟩
end
section
variable {P : Program} {ops : Array Oper} {rest : List Oper} {o : Oper} {a : Act} {Q : Exit → Act → World → Prop}
/-- '[]byte(s)'. -/
theorem conv_event {W : World} (hgd : o.guard = none) (src dst e : TypeId) (x : Operand) (hop : o.op = .convert src dst x) (s : ByteArray) (hx : a.eval x = .string s) {u : TypeDesc} (hs : P.underlying src = some u) (hd : P.underlying dst = some (.slice e)) (he : P.underlying e = some (.int .u8)) (hsz : s.size ≤ 9223372036854775807)
  (h : ∀ g c w1, (∀ (j : Nat) (b : UInt8), s.data.toList[j]? = some b → w1.cell? ⟨g, j, none⟩ = some (.int .u8 (b.toNat : Int))) → g < w1.heap.size → Below W.heap.size W w1 → wpList P ops Q rest (a.put o.dst (.slice (some ⟨g, 0, none⟩) s.size c)) w1) : wpList P ops Q (o :: rest) a W := by
 refine wpList_plain hgd fun K hK => ?_
 unfold Oper.wp execOp
 simp only [hop, hx]
 simp only [Sem.run_bind, Lib.run_convert_string_bytes W src dst e s hs hd he, Result.andThen_ok]
 refine hK _ _ (h _ _ _ (fun j b hj => ?_) (by rw [Lib.bytesWorld_size]; omega) (bytes_below (Below.refl _ _) (Nat.le_refl _) e s))
 have hlt : j < s.data.toList.length := (List.getElem?_eq_some_iff.1 hj).1
 rw [Array.length_toList] at hlt
 rw [Lib.bytesWorld_cell W e s j hlt, List.getD_eq_getElem?_getD, hj]
 rfl
end
def lowI (x : Nat) : Int := bits BinOp.or IntKind.u8 (x : Int) 32
theorem low_fin : ∀ x : Fin 256, 0 ≤ lowI x.val ∧ lowI x.val < 256 := by decide +kernel
def lowN (x : Nat) : Nat := (lowI x).toNat
theorem low_ok {x : Nat} (h : x < 256) : lowI x = (lowN x : Int) ∧ lowN x < 256 := by
 have := low_fin ⟨x, h⟩
 unfold lowN
 simp only at this
 omega
/-- The class of a byte. -/
def litC (fold : Bool) (x : Nat) : List Int := if fold = true ∧ 97 ≤ lowN x ∧ lowN x ≤ 122 then putL (putL (putL [0, 0, 0, 0] x) (lowN x)) (lowN x - 32) else putL [0, 0, 0, 0] x
def setN (cl : List Int) : CN := ⟨1, ⟨cl.getD 0 0, cl.getD 1 0, cl.getD 2 0, cl.getD 3 0⟩, 0, ⟨#[]⟩⟩
def litB (fold : Bool) (s : ByteArray) : List (List CN) := s.data.toList.map fun x => [setN (litC fold x.toNat)]
def litL (left : Int) (fold : Bool) (s : ByteArray) : Option (List CN) := if (s.size : Int) > left then none else rowL left 4 (litB fold s)
end Go.Proofs.YtihiicjnjhideaaDoor.Build
end
