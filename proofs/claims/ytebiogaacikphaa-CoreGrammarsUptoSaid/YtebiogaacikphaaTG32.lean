/- Parts of the proof of coreGrammars: FreeOuter. No condition beyond each lemma's own. -/
import Derived.Test.YtebiogaacikphaaTG31
section
namespace Go.Proofs.Ytebiogaacikphaa.Pack
open Go.RowKit Go.Proofs.YtebiogaacikphaaW.PrintWords Go.Proofs.Ytebiogaacikphaa.PAll Go.Proofs.Ytebiogaacikphaa.Core
set_option linter.unusedVariables false
set_option linter.unusedSimpArgs false
set_option linter.unnecessarySimpa false
section
variable (base gl n : Nat) (w : World) (f : Nat → Nat) (AR : Nat → Option Addr) (CR : Nat → Nat) (ls : Nat → List Rul)
set_option maxHeartbeats 8000000 in
set_option maxRecDepth 100000 in
theorem freeOuter_calls (hbs : base ≤ w.heap.size) (hn : n ≤ 65536) (hrow : RowAt w gl 61 [nilS, .slice (AR 0) n (CR 0), nilS, .slice (AR 1) n (CR 1)]) (hf : f gl = 7)
  (hown : ∀ i, i < 2 → w.ownsRow base 125 3 (.slice (AR i) n (CR i)) n ((ls i).flatMap rulCells)) (hlen : ∀ i, i < 2 → (ls i).length = n) (htag : ∀ i, i < 2 → Tag w f (.slice (AR i) n (CR i)) i) :
  Calls Try.prog 70 #[.slice (some ⟨gl, 0, none⟩) 2 2] w fun x w' => x = .returned (.bool true) ∧ Below base w w' := by
 have HN := Aside0.mk hn
 have HO := Aside0.mk (OO.start (ls := ls) hbs (show XO gl n AR CR f w from ⟨hrow, hf⟩) hown htag)
 have HP := Aside0.mk (show PZ n 0 0 ls from ⟨fun q hq => by omega, fun p hp => by omega, hlen⟩)
 clear hbs hn hrow hf hown hlen htag
 go_enter Try.func70, Try.ntmps70
 go_wp2
 go_loopw [3] (fun v3 wr => ∃ (i : Nat) (ls : Nat → List Rul), v3 = .int .i64 i ∧ Aside0 (i ≤ 2) ∧ Aside0 (PZ n i 0 ls) ∧ Aside0 (O1 base w wr f (cO ls) gl n AR CR)) (fun v3 _ => 2 - (intOf v3).toNat)
 case atStart => exact ⟨0, ls, rfl, ⟨by omega⟩, HP, HO⟩
 case round =>
  clear HO HP
  obtain ⟨i, ls, rfl, HI, HP, HO⟩ := hrel
  by_cases c3 : i < 2
  ·have b3 : decide ((i : Int) < 2) = true := decide_eq_true (by omega)
   have b3n : decide (i < 2) = true := decide_eq_true c3
   have hix := idx_g gl 2 2 i c3
   have HP0 := HP
   go_wp2
   go_loopw [4] (fun v4 wr => ∃ (k : Nat) (ls : Nat → List Rul), v4 = .int .i64 k ∧ Aside0 (k ≤ n) ∧ Aside0 (PZ n i k ls) ∧ Aside0 (O1 base w wr f (cO ls) gl n AR CR)) (fun v4 _ => n - (intOf v4).toNat)
   case atStart => exact ⟨0, ls, rfl, ⟨Nat.zero_le _⟩, HP, HO⟩
   case round =>
    clear HO HP HP0
    obtain ⟨k, ls, rfl, HK, HP, HO⟩ := hrel
    have kb : (k : Int) ≤ 65536 := by have := HK.out; have := HN.out; omega
    have hru := HO.out.x.rules c3
    by_cases ck : k < n
    ·have b4 : decide ((k : Int) < (n : Int)) = true := decide_eq_true (by omega)
     have b4n : decide (k < n) = true := decide_eq_true ck
     obtain ⟨g, c, hg⟩ := own_atB (HO.out.own i (by omega)) (by rw [nO, if_pos c3]; omega)
     rw [vO, if_pos c3] at hg
     have HA := Aside0.mk (show AR i = some ⟨g, 0, none⟩ by injection hg)
     rw [HA.out] at hru
     have hixr := idx_r g n (CR i) k ck
     clear hg
     go_wp2
     refine wp_region_held_drew (S := fun W => ∃ cs', O1 base w W f cs' gl n AR CR) (by kernel_rfl) ⟨_, HO.out.below (below_drew (Below.refl _ _))⟩ (fun hH => ?_)
     have n1_ := HO.out.below (below_drew (Below.refl wr.heap.size wr))
     (clear HO; have HO := Aside0.mk n1_; clear n1_)
     clear hru
     generalize wr.drew = w5 at *
     refine wpAnyH_take (i := 0) (oi := _) (v := .slice (some ⟨gl, 0, none⟩) 2 2) rfl (by kernel_rfl) (by kernel_rfl) (by kernel_rfl) (fun _ _ _ h => h) (Or.inl ⟨by rfl, fun w hw => by go_simp⟩) hH ?_; simp only [List.getElem_toArray, List.getElem_cons_zero, List.getElem_cons_succ, Act.put, List.setIfInBounds_toArray, List.set_cons_zero, List.set_cons_succ]
     refine wpAnyH_take (i := 1) (oi := _) (v := .int .i64 (i : Int)) rfl (by kernel_rfl) (by kernel_rfl) (by kernel_rfl) (fun _ _ _ h => h) (Or.inl ⟨by rfl, fun w hw => by go_simp⟩) hH ?_; simp only [List.getElem_toArray, List.getElem_cons_zero, List.getElem_cons_succ, Act.put, List.setIfInBounds_toArray, List.set_cons_zero, List.set_cons_succ]
     refine wpAnyH_take (i := 2) (oi := _) (v := .pointer (some ⟨gl, i * 2, none⟩)) rfl (by kernel_rfl) (by kernel_rfl) (by kernel_rfl) (fun _ _ _ h => h) (Or.inl ⟨by rfl, fun w hw => by (have := hix w; go_simp)⟩) hH ?_; simp only [List.getElem_toArray, List.getElem_cons_zero, List.getElem_cons_succ, Act.put, List.setIfInBounds_toArray, List.set_cons_zero, List.set_cons_succ]
     refine wpAnyH_take (i := 3) (oi := _) (v := .pointer (some ⟨gl, i * 2 + 1, none⟩)) rfl (by kernel_rfl) (by kernel_rfl) (by kernel_rfl) (fun _ _ _ h => h) (Or.inl ⟨by rfl, fun w hw => by go_simp⟩) hH ?_; simp only [List.getElem_toArray, List.getElem_cons_zero, List.getElem_cons_succ, Act.put, List.setIfInBounds_toArray, List.set_cons_zero, List.set_cons_succ]
     refine wpAnyH_take (i := 4) (oi := _) (v := .slice (some ⟨g, 0, none⟩) n (CR i)) rfl (by kernel_rfl) (by kernel_rfl) (by kernel_rfl) (fun _ _ _ h => h) (Or.inl ⟨by rfl, fun w hw => by (obtain ⟨_, hw2⟩ := hw; have := hw2.x.rules c3; rw [HA.out] at this; go_simp)⟩) hH ?_; simp only [List.getElem_toArray, List.getElem_cons_zero, List.getElem_cons_succ, Act.put, List.setIfInBounds_toArray, List.set_cons_zero, List.set_cons_succ]
     refine wpAnyH_take (i := 5) (oi := _) (v := .int .i64 (k : Int)) rfl (by kernel_rfl) (by kernel_rfl) (by kernel_rfl) (fun _ _ _ h => h) (Or.inl ⟨by rfl, fun w hw => by go_simp⟩) hH ?_; simp only [List.getElem_toArray, List.getElem_cons_zero, List.getElem_cons_succ, Act.put, List.setIfInBounds_toArray, List.set_cons_zero, List.set_cons_succ]
     refine wpAnyH_take (i := 6) (oi := _) (v := .int .i64 (i : Int)) rfl (by kernel_rfl) (by kernel_rfl) (by kernel_rfl) (fun _ _ _ h => h) (Or.inl ⟨by rfl, fun w hw => by go_simp⟩) hH ?_; simp only [List.getElem_toArray, List.getElem_cons_zero, List.getElem_cons_succ, Act.put, List.setIfInBounds_toArray, List.set_cons_zero, List.set_cons_succ]
     refine wpAnyH_ready (rs := [7]) (by kernel_rfl) (by simp) ?_; refine AllReadyH.cons (o := _) rfl (fun K hK => ?_) AllReadyH.nil
     refine rstep_call (w1 := w5) (by rfl) (by go_simp) (word_lit i w5) ?_
     rintro _ w6 ⟨rfl, hb6⟩
     refine ⟨_, rfl, ?_⟩
     have n1_ := HO.out.below hb6
     (clear HO; have HO := Aside0.mk n1_; clear n1_)
     clear hH
     have hH : ∃ cs', O1 base w w6 f cs' gl n AR CR := ⟨_, HO.out⟩
     refine hK.out _ _ hH (fun _ => ?_)
     clear hK K hb6
     simp only [List.getElem_toArray, List.getElem_cons_zero, List.getElem_cons_succ, Act.put, List.setIfInBounds_toArray, List.set_cons_zero, List.set_cons_succ]
     refine wpAnyH_take (i := 8) (oi := _) (v := .agg #[.string (wordS i), .slice none 0 0, .slice none 0 0]) rfl (by kernel_rfl) (by kernel_rfl) (by kernel_rfl) (fun _ _ _ h => h) (Or.inl ⟨by rfl, fun w hw => by go_simp⟩) hH ?_; simp only [List.getElem_toArray, List.getElem_cons_zero, List.getElem_cons_succ, Act.put, List.setIfInBounds_toArray, List.set_cons_zero, List.set_cons_succ]
     refine wpAnyH_take (i := 9) (oi := _) (v := .pointer (some ⟨g, k * 3, none⟩)) rfl (by kernel_rfl) (by kernel_rfl) (by kernel_rfl) (fun _ _ _ h => h) (Or.inl ⟨by rfl, fun w hw => by (have := hixr w; go_simp)⟩) hH ?_; simp only [List.getElem_toArray, List.getElem_cons_zero, List.getElem_cons_succ, Act.put, List.setIfInBounds_toArray, List.set_cons_zero, List.set_cons_succ]
     have HOW := Aside0.mk (show w6.ownsRow base 125 3 (.slice (some ⟨g, 0, none⟩) n (CR i)) n ((ls i).flatMap rulCells) by have := HO.out.own i (by omega); rwa [vO, nO, cO, eO, sO, if_pos c3, if_pos c3, if_pos c3, if_pos c3, if_pos c3, HA.out] at this)
     obtain ⟨fl, hr, hfl, _⟩ := own_row HOW.out
     refine wpAnyH_ready (rs := [10]) (by kernel_rfl) (by simp) ?_; refine AllReadyH.cons (o := _) rfl (fun K hK => ?_) AllReadyH.nil
     refine rstep_store (by rfl) 125 (.tmp 43) (.tmp 42) rfl (g := g) (off := k * 3) (cs := fl) (seg := rulCells (zRul i)) rfl rfl hr rfl (by kernel_rfl) (by rw [rulCells_len]; omega) (by simp [rulCells, zRul, nilS, Value.oneCell']) ?_
     intro w7 hrow hgr
     have n0_ := own_set rulCells_len HOW.out (HP.out.len i c3) ck (zRul i) hr hrow
     have n1_ := HO.out.put (i := i) (cs' := ((ls i).set k (zRul i)).flatMap rulCells) (by omega) rfl rfl rfl (g := g) (by rw [vO, if_pos c3, HA.out]; rfl) (by rw [vO, nO, eO, sO, if_pos c3, if_pos c3, if_pos c3, if_pos c3, HA.out]; exact n0_) hgr
     rw [cO_upd c3] at n1_
     have n2_ := HP.out.put c3 ck
     clear HP n0_ HOW
     (clear HO; have HO := Aside0.mk n1_; clear n1_)
     have HP := Aside0.mk n2_; clear n2_; clear hH hr hrow hgr
     have hH : ∃ cs', O1 base w w7 f cs' gl n AR CR := ⟨_, HO.out⟩
     refine hK.out _ _ hH (fun _ => ?_)
     clear hK K
     simp only [List.getElem_toArray, List.getElem_cons_zero, List.getElem_cons_succ, Act.put, List.setIfInBounds_toArray, List.set_cons_zero, List.set_cons_succ]
     refine wpAnyH_done (by kernel_rfl) ?_ _
     clear hH hixr
     go_wp2
     go_roundw
     case measure => simp [intOf]; omega
     case rel => exact ⟨k + 1, _, by go_num, ⟨ck⟩, HP, HO⟩
    ·have b4 : decide ((k : Int) < (n : Int)) = false := decide_eq_false (by omega)
     have b4n : decide (k < n) = false := decide_eq_false ck
     have HKN := Aside0.mk (show k = n by have := HK.out; omega)
     go_wp2
     go_loopw [5] (fun v5 wr => v5 = .int .i64 0 ∧ Aside0 (O1 base w wr f (cO ls) gl n AR CR)) (fun v5 _ => 0)
     case atStart => exact ⟨rfl, HO⟩
     case round =>
      clear HO hru
      obtain ⟨rfl, HO⟩ := hrel
      have hus := HO.out.x.uses c3
      go_wp2
      go_roundw
      case measure => simp [intOf]; omega
      case rel => exact ⟨i + 1, ls, by go_num, ⟨c3⟩, ⟨HP.out.next c3 HKN.out⟩, HO⟩
  ·have b3 : decide ((i : Int) < 2) = false := decide_eq_false (by omega)
   have b3n : decide (i < 2) = false := decide_eq_false c3
   have n0 := HO.out
   rw [cO_full (n := n) (fun q hq => HP.out.lo q (by omega))] at n0
   have n1_ : O2 base w wr f (vO n AR CR) (nO n) (cO (fO n)) gl n AR CR := n0.look
   have n2_ := PR.start n AR CR
   have n3_ := PU.start n AR CR
   clear HO HP n0; have HO := Aside0.mk n1_; have HP := Aside0.mk n2_; have HQ := Aside0.mk n3_; clear n1_ n2_ n3_
   go_wp2
   go_loopw [6, 7, 8] (fun v6 v7 v8 wr => ∃ (i : Nat) (f : Nat → Nat) (v : Nat → Value) (ns : Nat → Nat) (cs : Nat → List Value), v8 = .int .i64 i ∧ Aside0 (v6 = v 4) ∧ Aside0 (v7 = v 5) ∧ Aside0 (PR n AR CR i 0 v ns cs) ∧ Aside0 (PU i 0 v ns cs) ∧ Aside0 (O2 base w wr f v ns cs gl n AR CR)) (fun _ _ v8 _ => 2 - (intOf v8).toNat)
   case atStart => exact ⟨0, f, _, _, _, rfl, ⟨rfl⟩, ⟨rfl⟩, HP, HQ, HO⟩
   case round =>
    clear HO HP HQ c3 b3 b3n HI
    obtain ⟨i, f, v, ns, cs, rfl, HV, HU, HP, HQ, HO⟩ := hrel
    obtain ⟨A4, c4, h4⟩ := own_len (HO.out.own 4 (by omega))
    have hv6 := HV.out.trans h4
    obtain ⟨A5, c5, h5⟩ := own_len (HO.out.own 5 (by omega))
    have hv7 := HU.out.trans h5
    subst hv6
    subst hv7
    rw [show ns 4 = i from HP.out.out.1, show ns 5 = i from HQ.out.out.1]
    rw [show ns 4 = i from HP.out.out.1] at h4
    rw [show ns 5 = i from HQ.out.out.1] at h5
    have HG4 := Aside0.mk h4; have HG5 := Aside0.mk h5; clear HV HU h4 h5
    by_cases c3 : i < 2
    ·have b3 : decide ((i : Int) < 2) = true := decide_eq_true (by omega)
     have b3n : decide (i < 2) = true := decide_eq_true c3
     have hix := idx_g gl 2 2 i c3
     have hru := HO.out.x.rules c3
     have hus := HO.out.x.uses c3
     go_wp2
     clear hru hus
     go_loopw [9, 10, 11] (fun v9 v10 v11 wr => ∃ (q : Nat) (f : Nat → Nat) (v : Nat → Value) (ns : Nat → Nat) (cs : Nat → List Value), v11 = .int .i64 q ∧ Aside0 (q ≤ 20) ∧ Aside0 (v9 = v (E1 i)) ∧ Aside0 (v10 = v (E2 i)) ∧ Aside0 (v (E1 2) = .slice A4 i c4) ∧ Aside0 (v (E2 2) = .slice A5 i c5) ∧ Aside0 (PR n AR CR i q v ns cs) ∧ Aside0 (PU i q v ns cs) ∧ Aside0 (O2 base w wr f v ns cs gl n AR CR)) (fun _ _ v11 _ => 20 - (intOf v11).toNat)
     case atStart => exact ⟨0, f, v, ns, cs, rfl, ⟨by omega⟩, ⟨(HP.out.at0 c3 rfl).symm⟩, ⟨(HQ.out.at0 c3 rfl).symm⟩, HG4, HG5, HP, HQ, HO⟩
     case round =>
      clear HO HP HQ HG4 HG5
      obtain ⟨q, f, v, ns, cs, rfl, HQ20, HV, HU, HG4, HG5, HP, HQ, HO⟩ := hrel
      obtain ⟨Ax, cx, hx⟩ := own_len (O2.own1 HO.out HP.out c3 rfl)
      obtain ⟨Ay, cy, hy⟩ := own_len (O2.own2 HO.out HQ.out c3 rfl)
      have hv9 := HV.out.trans hx
      have hv10 := HU.out.trans hy
      subst hv9
      subst hv10
      have HVX := Aside0.mk hx; have HVY := Aside0.mk hy; clear HV HU hx hy
      by_cases c20 : q < 20
      ·have b20 : decide ((q : Int) < 20) = true := decide_eq_true (by omega)
       have HC20 := Aside0.mk c20
       go_wp2_with (first
        | (go_at_call 98; refine (word_lit i _).mono ?_; rintro xx w4 ⟨rfl, hb⟩; have n1_ := HO.out.below hb; clear hb; (clear HO; have HO := Aside0.mk n1_; clear n1_))
        | ((with_reducible refine gate_builtin (b := .append) (xs := #[.tmp 84, .tmp 89]) rfl ?_); at_builtin; refine append_event base rfl (.tmp 84) (.tmp 89) 59 125 (.agg #[.string (⟨#[]⟩ : ByteArray), .slice none 0 0, .slice none 0 0]) 3 64 rfl Try.underlying59 (by kernel_rfl) rfl (by decide) (by decide) (.slice Ax (n + q) cx) (n + q) (fullR n i ++ reps q (moreR i)) (moreR i) rfl rfl rfl (by simp [moreR, nilS, Value.oneCell']) (O2.own1 HO.out HP.out c3 HVX.out) (Nat.le_trans HO.out.bs HO.out.old.size) (by have := HN.out; have := HC20.out; omega) ?_; intro v1 w5 hown hat; obtain ⟨f1, vv1, ns1, cs1, n1_, n2_, n3_, n4_⟩ := O2.app1 HO.out HP.out HQ.out c3 HVX.out hown hat; clear hown hat; have HV1 := Aside0.mk n4_; clear n4_; (clear HO HP HQ; have HO := Aside0.mk n1_; have HP := Aside0.mk n2_; have HQ := Aside0.mk n3_; clear n1_ n2_ n3_))
        | ((with_reducible refine gate_builtin (b := .append) (xs := #[.tmp 91, .tmp 96]) rfl ?_); at_builtin; refine append_event base rfl (.tmp 91) (.tmp 96) 58 129 (.agg #[.string (⟨#[]⟩ : ByteArray), .string (⟨#[]⟩ : ByteArray)]) 2 32 rfl Try.underlying58 (by kernel_rfl) rfl (by decide) (by decide) (.slice Ay q cy) q (reps q (moreU i)) (moreU i) rfl rfl rfl (by simp [moreU, Value.oneCell']) (O2.own2 HO.out HQ.out c3 (by rw [HV1.out]; exact v12 _ _ _ _ HVY.out)) (Nat.le_trans HO.out.bs HO.out.old.size) (by have := HC20.out; omega) ?_; intro v2 w5 hown hat; obtain ⟨f2, vv2, ns2, cs2, n1_, n2_, n3_, n4_⟩ := O2.app2 HO.out HP.out HQ.out c3 (by rw [HV1.out]; exact v12 _ _ _ _ HVY.out) hown hat; clear hown hat; have HV2 := Aside0.mk n4_; clear n4_; (clear HO HP HQ; have HO := Aside0.mk n1_; have HP := Aside0.mk n2_; have HQ := Aside0.mk n3_; clear n1_ n2_ n3_)))
       go_roundw
       case measure => simp [intOf]; omega
       case rel => exact ⟨q + 1, f2, vv2, ns2, cs2, by go_num, ⟨c20⟩, ⟨by rw [HV2.out]; exact (v21 _ _ _ _ (by rw [HV1.out]; exact v11 _ _ _)).symm⟩, ⟨by rw [HV2.out]; exact (upd_self _ _ _).symm⟩, ⟨by rw [HV2.out]; exact v21 _ _ _ _ (by rw [HV1.out]; exact v11' _ _ _ _ (by omega) HG4.out)⟩, ⟨by rw [HV2.out]; exact v22' _ _ _ _ (by omega) (by rw [HV1.out]; exact v12 _ _ _ _ HG5.out)⟩, HP, HQ, HO⟩
      ·have b20 : decide ((q : Int) < 20) = false := decide_eq_false (by omega)
       have HE := Aside0.mk (show q = 20 by have := HQ20.out; omega)
       obtain rfl := HE.out
       go_wp2_with (first
        | ((with_reducible refine gate_builtin (b := .append) (xs := #[.tmp 98, .tmp 100]) rfl ?_); at_builtin; refine append_event base rfl (.tmp 98) (.tmp 100) 162 59 (.slice none 0 0) 1 24 rfl Try.underlying162 (by kernel_rfl) rfl (by decide) (by decide) (.slice A4 i c4) i ((List.range i).map fun j => v (E1 j)) [.slice Ax (n + 20) cx] rfl rfl rfl (by simp [Value.oneCell']) (O2.own4 HO.out HP.out HG4.out) (Nat.le_trans HO.out.bs HO.out.old.size) (by omega) ?_; intro v1 w5 hown hat; obtain ⟨f1, vv1, ns1, cs1, n1_, n2_, n3_, n4_⟩ := O2.app4 HO.out HP.out HQ.out c3 HG4.out HVX.out hown hat; clear hown hat; have HV1 := Aside0.mk n4_; clear n4_; (clear HO HP HQ; have HO := Aside0.mk n1_; have HP := Aside0.mk n2_; have HQ := Aside0.mk n3_; clear n1_ n2_ n3_))
        | ((with_reducible refine gate_builtin (b := .append) (xs := #[.tmp 102, .tmp 104]) rfl ?_); at_builtin; refine append_event base rfl (.tmp 102) (.tmp 104) 163 58 (.slice none 0 0) 1 24 rfl Try.underlying163 (by kernel_rfl) rfl (by decide) (by decide) (.slice A5 i c5) i ((List.range i).map fun j => vv1 (E2 j)) [.slice Ay 20 cy] rfl rfl rfl (by simp [Value.oneCell']) (O2.own5 HO.out HQ.out (by rw [HV1.out]; exact v12 _ _ _ _ HG5.out)) (Nat.le_trans HO.out.bs HO.out.old.size) (by omega) ?_; intro v2 w5 hown hat; obtain ⟨f2, vv2, ns2, cs2, n1_, n2_, n3_, n4_⟩ := O2.app5 HO.out HP.out HQ.out c3 (by rw [HV1.out]; exact v12 _ _ _ _ HG5.out) (by rw [HV1.out]; exact v12 _ _ _ _ HVY.out) hown hat; clear hown hat; have HV2 := Aside0.mk n4_; clear n4_; (clear HO HP HQ; have HO := Aside0.mk n1_; have HP := Aside0.mk n2_; have HQ := Aside0.mk n3_; clear n1_ n2_ n3_)))
       go_roundw
       case measure => simp [intOf]; omega
       case rel => exact ⟨i + 1, f2, vv2, ns2, cs2, by go_num, ⟨by show v1 = vv2 (E1 2); rw [HV2.out]; exact (v21 _ _ _ _ (by rw [HV1.out]; exact v11 _ _ _)).symm⟩, ⟨by show v2 = vv2 (E2 2); rw [HV2.out]; exact (upd_self _ _ _).symm⟩, HP, HQ, HO⟩
    ·have b3 : decide ((i : Int) < 2) = false := decide_eq_false (by omega)
     have b3n : decide (i < 2) = false := decide_eq_false c3
     obtain rfl : i = 2 := by have := HP.out.le; omega
     have hg4 := HG4.out
     have hg5 := HG5.out
     obtain ⟨g4, c4', e4⟩ := own_atB (O2.own4 HO.out HP.out rfl) (by omega)
     obtain ⟨g5, c5', e5⟩ := own_atB (O2.own5 HO.out HQ.out rfl) (by omega)
     have e6 := hg4.symm.trans e4
     have e7 := hg5.symm.trans e5
     cases e6
     cases e7
     have HG6 := Aside0.mk hg4; have HG7 := Aside0.mk hg5; clear hg4 hg5 e4 e5 HG4 HG5
     go_wp2
     refine oLoop3 base gl n w f AR CR v ns cs g4 g5 _ _ HN HP HQ HG6 HG7 _ HO _ _ _ _ _ _ _ _ _ _ _ _ _ _ _ _ _ _ _ _ _ _ _ _ _ _ _ _ _ _ _ _ _ _ _ _ _ _ _ _ _ _ _ _ _ _ _ _ _ _ _ _ _ _ _ _ _ _ _ _ _ _ _ _ _ _ _ _ _ _ _ _ _ _ _ _ _ _ _ _ _ _ _ _ _ _ _ _ _ _ _ _ _ _ _ _ _ _ _ _ _ _ _ _ _ _ _ _ _ _ _ _ _ _ _ _ _ _ _ _ _ _ _ _ _ _ _ _ _ _ _ _ _ _ _ _ _ _ _ _ _ _ _ _ _ _ _ _ _ _ _ _ _ _ _ _ _ _ _ _ _ _ _ _ _ _ _ _ _ _ _ _ _ _ _ _ _ _ _ _ _ _ _ _ _ _ _ _ _ _ _ _ _ _ _ _ _ _ _ _ _ _ _ _ _ _ _ _ _ _ _ _ _ _ _ _ _ _ _ _ _ _ _ _ _ _ _ _ _ _ _ _ _ _ _ _ _ _ _ _ _ _ _ _ _ _ _ _ _ _ _ _ _ _ _ _ _ _ _ _ _ _ _ _ _ _ _ _ _ _ _ ?_
     intro x1 x2 x3 x4 x5 x6 x7 x8 x9 x10 x11 x13 x14 x15 x16 x17 x18 x19 x20 x21 x22 x23 x24 x25 x26 x27 x28 x29 x30 x31 x32 x33 x34 x35 x36 x37 x38 x39 x40 x41 x42 x43 x44 x45 x46 x47 x48 x49 x50 x51 x52 x53 x54 x55 x56 x57 x58 x59 x60 x61 x62 x63 x64 x65 x66 x67 x68 x69 x70 x71 x72 x73 x74 x75 x76 x77 x78 x79 x80 x81 x82 x83 x84 x85 x86 x87 x88 x89 x90 x91 x92 x93 x94 x95 x96 x97 x98 x99 x100 x101 x102 x103 x104 x105 x106 x107 x108 x109 x110 x111 x112 x113 x114 x115 x116 x117 x118 x119 x120 x121 x122 x123 x124 x125 x126 x127 x128 x129 x130 x131 x132 x133 x134 x135 x136 x137 x138 x139 x140 x141 x142 x143 x144 x145 x146 x147 x148 x149 x150 x151 x152 x153 x154 x155 x156 x157 x158 x159 x160 x161 x162 x163 x164 x165 x166 x167 x168 x169 x170 x171 x172 x173 x174 x175 x176 x177 x178 x179 x180 x181 x182 x183 x184 x185 x186 x187 x188 x189 x190 x191 x192 x193 x194 x195 x196 x197 x198 x199 x200 x201 x202 x203 x204 x205 x206 x207 x208 x209 x210 x211 x212 x213 x214 x215 x216 x217 x218 x219 x220 x221 x222 x223 x224 x225 x226 x227 x228 x229 x230 x231 x232 x233 x234 x235 x236 x237 x238 x239 x240 x241 x242 x243 x244 x245 x246 x247 x248 x249 x250 x251 x252 x253 x254 x255 x256 x257 x258 x259 x260 x261 x262 x263 x264 x265 x266 x267 x268 x269 x270 x271 x272 x273 x274 w7 hO
     have HO2 := Aside0.mk hO; clear hO HO
     dsimp only
     go_wp2
     go_ret
     exact ⟨rfl, HO2.out.old⟩
end
end Go.Proofs.Ytebiogaacikphaa.Pack
end
