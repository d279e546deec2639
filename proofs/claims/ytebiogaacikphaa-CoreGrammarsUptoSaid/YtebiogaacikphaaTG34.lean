/- Parts of the proof of coreGrammars: FreeGrams. No condition beyond each lemma's own. -/
import Derived.Test.YtebiogaacikphaaTG33
section
namespace Go.Proofs.Ytebiogaacikphaa.Pack
open Go.RowKit Go.Proofs.YtebiogaacikphaaW.PrintWords Go.Proofs.Ytebiogaacikphaa.PAll Go.Proofs.Ytebiogaacikphaa.Core
set_option linter.unusedVariables false
set_option linter.unusedSimpArgs false
set_option linter.unnecessarySimpa false
theorem outer_calls {base gl n : Nat} {W : World} {f : Nat → Nat} {AR : Nat → Option Addr} {CR : Nat → Nat} {nm : Nat → ByteArray} {bv : Nat → Value} (hn : n ≤ 256) (h : XG base gl n AR CR nm bv (2 * n + 2) f W) (hbs : base ≤ W.heap.size) :
  Calls Try.prog 70 #[.slice (some ⟨gl, 0, none⟩) 2 2] W fun x w' => x = .returned (.bool true) ∧ Below base W w' := by
 refine freeOuter_calls base gl n W (fun b => if f b = 2 * n + 2 then 0 else if f b = 2 * n + 3 then 1 else 7) AR CR (fun i => (List.range n).map fun k => (⟨nm k, nilS, bv (i * n + k)⟩ : Pack.Rul)) hbs (by omega) h.row ?_ (fun i hi => by rw [List.flatMap_map]; exact h.own i hi) (fun i hi => by rw [List.length_map, List.length_range]) (fun i hi k hk => ⟨(h.tag i hi k hk).1, ?_⟩)
 ·show (if f gl = 2 * n + 2 then 0 else if f gl = 2 * n + 3 then 1 else 7) = 7
  rw [h.tg, if_neg (by omega), if_neg (by omega)]
 ·show (if f k = 2 * n + 2 then 0 else if f k = 2 * n + 3 then 1 else 7) = i
  rw [(h.tag i hi k hk).2]
  obtain rfl | rfl : i = 0 ∨ i = 1 := by omega
  ·rw [if_pos rfl]
  ·rw [if_neg (by omega), if_pos rfl]
section
variable (base gl n : Nat) (w : World) (f : Nat → Nat) (AR : Nat → Option Addr) (CR : Nat → Nat) (nm : Nat → ByteArray) (bv : Nat → Value) (nb : Nat → Nat) (xs : Nat → List Nod)
set_option maxHeartbeats 8000000 in
set_option maxRecDepth 100000 in
theorem freeGrams_calls (hbs : base ≤ w.heap.size) (hn : n ≤ 256) (hnb : ∀ m, m < 2 * n → nb m ≤ 4096) (hx : XG base gl n AR CR nm bv (2 * n + 2) f w) (hown : ∀ m, m < 2 * n → w.ownsRow base 122 10 (bv m) (nb m) ((xs m).flatMap nodCells)) (hlen : ∀ m, m < 2 * n → (xs m).length = nb m) (htag : ∀ m, m < 2 * n → Tag w f (bv m) m) :
  Calls Try.prog 33 #[.slice (some ⟨gl, 0, none⟩) 2 2] w fun x w' => x = .returned (.bool true) ∧ Below base w w' := by
 have HN := Aside0.mk hn; have HNB := Aside0.mk hnb; have HX := Aside0.mk hx; have HOWN := Aside0.mk hown; have HLEN := Aside0.mk hlen; have HTAG := Aside0.mk htag; have HBS := Aside0.mk hbs; clear hn hnb hx hown hlen htag hbs
 go_enter Try.func33, Try.ntmps33
 go_wp2
 go_loopw [3, 4] (fun v3 v4 wr => ∃ (i : Nat), v4 = .int .i64 i ∧ Aside0 (i ≤ 2) ∧ Aside0 (Below w.heap.size w wr) ∧ Aside0 (wr.ownsRow w.heap.size 86 1 v3 (i * n) (List.replicate (i * n) nilS))) (fun _ v4 _ => 2 - (intOf v4).toNat)
 case atStart => exact ⟨0, rfl, ⟨by omega⟩, ⟨Below.refl _ _⟩, ⟨by simp only [Nat.zero_mul]; exact World.ownsRow_nil _ _ _ _⟩⟩
 case round =>
  obtain ⟨i, rfl, HI, HB, HP⟩ := hrel
  by_cases c3 : i < 2
  ·have b3 : decide ((i : Int) < 2) = true := decide_eq_true (by omega)
   have b3n : decide (i < 2) = true := decide_eq_true (by omega)
   have hix := idx_g gl 2 2 i c3
   go_wp2
   go_loopw [3, 5] (fun v3 v5 wr => ∃ (k : Nat), v5 = .int .i64 k ∧ Aside0 (k ≤ n) ∧ Aside0 (Below w.heap.size w wr) ∧ Aside0 (wr.ownsRow w.heap.size 86 1 v3 (i * n + k) (List.replicate (i * n + k) nilS))) (fun _ v5 _ => n - (intOf v5).toNat)
   case atStart => exact ⟨0, rfl, ⟨by omega⟩, HB, HP⟩
   case round =>
    clear HB HP
    obtain ⟨k, rfl, HK, HB, HP⟩ := hrel
    obtain ⟨Ag, cg, rfl⟩ := own_len HP.out
    have kb : (k : Int) ≤ 256 := by have := HK.out; have := HN.out; omega
    have HXW := Aside0.mk (XG.step (i := 0) (by omega) HX.out (Step.below (f := f) HB.out))
    have hru := HXW.out.rules c3
    by_cases ck : k < n
    ·have b4 : decide ((k : Int) < (n : Int)) = true := decide_eq_true (by omega)
     have b4n : decide (k < n) = true := decide_eq_true ck
     obtain ⟨gR, hA, hp1, hp2⟩ := HXW.out.at_ c3 ck
     rw [hA] at hru
     unfold nilS at hp1
     have hixr := idx_r gR n (CR i) k ck
     have hmul : i * n + k ≤ 512 := by
      have := HN.out
      obtain rfl | rfl : i = 0 ∨ i = 1 := by omega
      ·omega
      ·omega
     obtain ⟨m, hm⟩ : ∃ m, i * n + k = m := ⟨_, rfl⟩
     rw [hm] at HP hmul
     rw [hm]
     have HMM := Aside0.mk hm; clear hm hp2
     go_wp2_with (first
      | ((with_reducible refine gate_builtin (b := .append) (xs := #[.tmp 38, .tmp 48]) rfl ?_); at_builtin; refine append_event w.heap.size rfl (.tmp 38) (.tmp 48) 132 86 (.slice none 0 0) 1 24 rfl Try.underlying132 (by kernel_rfl) rfl (by decide) (by decide) (.slice Ag m cg) m (List.replicate m nilS) [.slice none 0 0] rfl rfl rfl (by simp [Value.oneCell']) HP.out HB.out.size (by omega) ?_; intro v1 w5 hown hat; have n1_ := Aside0.mk (show Below w.heap.size w w5 by rcases hat with ⟨_, hg⟩ | ⟨_, hg⟩; exact pw_below_grown HB.out _ HB.out.size hg (fun k hk => own_base HP.out k hk); exact pw_below_grown HB.out none HB.out.size hg (fun k hk => by cases hk)); clear HB HP hat hru hp1; have HB := n1_; clear n1_; have HP := Aside0.mk hown; clear hown))
     go_roundw
     case measure => simp [intOf]; omega
     case rel => exact ⟨k + 1, by go_num, ⟨by omega⟩, HB, ⟨by have := HP.out; have e := HMM.out; rw [show i * n + (k + 1) = m + 1 by omega, List.replicate_succ']; exact this⟩⟩
    ·have b4 : decide ((k : Int) < (n : Int)) = false := decide_eq_false (by omega)
     have b4n : decide (k < n) = false := decide_eq_false ck
     have HKN := Aside0.mk (show k = n by have := HK.out; omega)
     go_wp2
     go_roundw
     case measure => simp [intOf]; omega
     case rel => exact ⟨i + 1, by go_num, ⟨by omega⟩, HB, ⟨by have := HP.out; have e := HKN.out; rw [show (i + 1) * n = i * n + k by rw [Nat.succ_mul, e]]; exact this⟩⟩
  ·have b3 : decide ((i : Int) < 2) = false := decide_eq_false (by omega)
   have b3n : decide (i < 2) = false := decide_eq_false (by omega)
   obtain rfl : i = 2 := by have := HI.out; omega
   obtain ⟨Ag, cg, rfl⟩ := own_len HP.out
   go_wp2_with (first
    | (go_at_call 69; refine (freeTexts_calls wr (2 * n) Ag cg (by have := HN.out; omega) (fun j hj => by obtain ⟨g, c, hg⟩ := own_atB HP.out (by omega); have hh := HP.out.cells (g := g) (by rw [hg]; rfl) j nilS (by rw [List.getElem?_replicate, if_pos hj]); injection hg with hg1; exact ⟨g, hg1, by rwa [show (⟨g, 0, none⟩ : Addr).add j = ⟨g, j, none⟩ from (by simp [Addr.add]; omega)] at hh, own_lt HP.out g (by rw [hg1]; rfl)⟩)).mono ?_; rintro xx w6 ⟨rfl, hb⟩; have HO := Aside0.mk (show OG base w w6 f n (vN (2 * n) bv) (nN (2 * n) nb) (csN (2 * n) xs) (fun _ => nilS) (fun _ => 0) (fun _ => []) gl AR CR nm bv from (OS.start HBS.out HX.out HOWN.out HTAG.out).below (below_step HB.out hb)); clear HB HP hb))
   go_loopw [7, 8] (fun v7 v8 wr => ∃ (i mi : Nat) (ls : Nat → List Nod), v8 = .int .i64 i ∧ v7 = .int .i64 (mi : Int) ∧ Aside0 (i ≤ 2) ∧ Aside0 (mi = i * n) ∧ Aside0 (PW (2 * n) nb mi 0 ls) ∧ Aside0 (OG base w wr f n (vN (2 * n) bv) (nN (2 * n) nb) (csN (2 * n) ls) (fun _ => nilS) (fun _ => 0) (fun _ => []) gl AR CR nm bv)) (fun _ v8 _ => 2 - (intOf v8).toNat)
   case atStart => exact ⟨0, 0, xs, rfl, rfl, ⟨by omega⟩, ⟨by omega⟩, ⟨⟨fun q hq => by omega, fun p hp => by omega, HLEN.out⟩⟩, HO⟩
   case round =>
    clear HO
    obtain ⟨i, mi, ls, rfl, rfl, HI, HMI, HP, HO⟩ := hrel
    by_cases c3 : i < 2
    ·have b3 : decide ((i : Int) < 2) = true := decide_eq_true (by omega)
     have b3n : decide (i < 2) = true := decide_eq_true (by omega)
     have hix := idx_g gl 2 2 i c3
     go_wp2
     go_loopw [7, 9] (fun v7 v9 wr => ∃ (k m : Nat) (ls : Nat → List Nod), v9 = .int .i64 k ∧ v7 = .int .i64 (m : Int) ∧ Aside0 (k ≤ n) ∧ Aside0 (m = i * n + k) ∧ Aside0 (PW (2 * n) nb m 0 ls) ∧ Aside0 (OG base w wr f n (vN (2 * n) bv) (nN (2 * n) nb) (csN (2 * n) ls) (fun _ => nilS) (fun _ => 0) (fun _ => []) gl AR CR nm bv)) (fun _ v9 _ => n - (intOf v9).toNat)
     case atStart => exact ⟨0, mi, ls, rfl, rfl, ⟨by omega⟩, ⟨by have := HMI.out; omega⟩, HP, HO⟩
     case round =>
      clear HO HP HMI
      obtain ⟨k, m, ls, rfl, rfl, HK, HMK, HP, HO⟩ := hrel
      have kb : (k : Int) ≤ 256 := by have := HK.out; have := HN.out; omega
      by_cases ck : k < n
      ·have b4 : decide ((k : Int) < (n : Int)) = true := decide_eq_true (by omega)
       have b4n : decide (k < n) = true := decide_eq_true ck
       have HM2 := Aside0.mk (show m < 2 * n by rw [HMK.out]; exact lt2 c3 ck)
       have mb : (m : Int) ≤ 512 := by have := HM2.out; have := HN.out; omega
       have hw1 : IntKind.i64.wrap ((m : Int) + 1) = ((m + 1 : Nat) : Int) := by rw [IntWalk.i64_in _ (by omega)]; omega
       have hneg : IntKind.i64.wrap (-(((m + 1 : Nat) : Int))) = -((m : Int) + 1) := by rw [IntWalk.i64_in _ (by omega)]; omega
       have hneg2 : IntKind.i64.wrap (-((m : Int) + 1)) = -((m : Int) + 1) := IntWalk.i64_in _ (by omega)
       have hru := HO.out.x.rules c3
       obtain ⟨gR, hA, _, _⟩ := HO.out.x.at_ c3 ck
       have HA := Aside0.mk hA
       rw [hA] at hru
       have hixr := idx_r gR n (CR i) k ck
       clear hA
       go_wp2
       clear hru
       go_loopw [10] (fun v10 wr => ∃ (j : Nat) (ls : Nat → List Nod), v10 = .int .i64 j ∧ Aside0 (j ≤ nb m) ∧ Aside0 (PW (2 * n) nb m j ls) ∧ Aside0 (OG base w wr f n (vN (2 * n) bv) (nN (2 * n) nb) (csN (2 * n) ls) (fun _ => nilS) (fun _ => 0) (fun _ => []) gl AR CR nm bv)) (fun v10 _ => nb m - (intOf v10).toNat)
       case atStart => exact ⟨0, ls, rfl, ⟨by omega⟩, HP, HO⟩
       case round =>
        clear HO HP
        obtain ⟨j, ls, rfl, HJ, HP, HO⟩ := hrel
        have jb : (j : Int) ≤ 4096 := by have := HJ.out; have := HNB.out m HM2.out; omega
        have hru := HO.out.x.rules c3
        obtain ⟨gR2, hA, _, hbo⟩ := HO.out.x.at_ c3 ck
        rw [HA.out] at hA
        cases hA
        rw [HA.out] at hru
        rw [← HMK.out] at hbo
        have howm := HO.out.own m (by have := HM2.out; omega)
        rw [show vN (2 * n) bv m = bv m from if_pos HM2.out, show nN (2 * n) nb m = nb m from if_pos HM2.out, show csN (2 * n) ls m = (ls m).flatMap nodCells from if_pos HM2.out, show eN (2 * n) m = 122 from if_pos HM2.out, show sN (2 * n) m = 10 from if_pos HM2.out] at howm
        obtain ⟨Ab, cb, hbv⟩ := own_len howm
        rw [hbv] at hbo howm
        have HBV := Aside0.mk hbv; have HOM := Aside0.mk howm; clear hbv howm
        by_cases cj : j < nb m
        ·have b5 : decide ((j : Int) < (nb m : Int)) = true := decide_eq_true (by omega)
         have b5n : decide (j < nb m) = true := decide_eq_true cj
         obtain ⟨g, c, hg⟩ := own_atB HOM.out (by omega)
         cases hg
         obtain ⟨fl, hr, hfl, _⟩ := own_row HOM.out
         have HRF := Aside0.mk hr; have HFL := Aside0.mk hfl
         have hixn := idx_n g (nb m) cb j cj
         clear hr hfl
         go_wp2_with (first
          | ((with_reducible refine gate_store (t := 122) (p := 97) rfl ?_); refine put_event rfl rfl 122 (.tmp 97) (.tmp 96) rfl (g := g) (off := j * 10) (cs := fl) (u := .agg #[.int .i64 (-((m : Int) + 1)), .int .i64 0, .string (⟨#[]⟩ : ByteArray), .bool false, .int .u64 0, .int .u64 0, .int .u64 0, .int .u64 0, .int .i64 0, .int .i64 0]) (seg := nodCells (markN m)) rfl rfl HRF.out rfl (by kernel_rfl) (by rw [nodCells_len]; have := HFL.out; omega) (by simp [nodCells, Value.oneCell']) ?_; intro w7 hrow hgr; have n0 := own_set nodCells_len HOM.out (HP.out.len m HM2.out) cj (markN m) HRF.out (by exact hrow); have n1 := HO.out.put (i := m) (cs' := ((ls m).set j (markN m)).flatMap nodCells) (by have := HM2.out; omega) rfl rfl rfl (g := g) (by rw [show vN (2 * n) bv m = bv m from if_pos HM2.out, HBV.out]; rfl) (by rw [show vN (2 * n) bv m = bv m from if_pos HM2.out, show nN (2 * n) nb m = nb m from if_pos HM2.out, show eN (2 * n) m = 122 from if_pos HM2.out, show sN (2 * n) m = 10 from if_pos HM2.out, HBV.out]; exact n0) hgr; rw [csN_upd HM2.out] at n1; have n2 := HP.out.put HM2.out cj; clear HO HP HOM HRF hru hbo hrow hgr n0; have HO := Aside0.mk n1; have HP := Aside0.mk n2; clear n1 n2))
         go_roundw
         case measure => simp [intOf]; omega
         case rel => exact ⟨j + 1, _, by go_num, ⟨by omega⟩, HP, HO⟩
        ·have b5 : decide ((j : Int) < (nb m : Int)) = false := decide_eq_false (by omega)
         have b5n : decide (j < nb m) = false := decide_eq_false cj
         have HJN := Aside0.mk (show j = nb m by have := HJ.out; omega)
         go_wp2
         go_roundw
         case measure => simp [intOf]; omega
         case rel => exact ⟨k + 1, m + 1, ls, by go_num, rfl, ⟨by omega⟩, ⟨by have := HMK.out; omega⟩, ⟨by have := HP.out; rw [HJN.out] at this; exact this.next HM2.out⟩, HO⟩
      ·have b4 : decide ((k : Int) < (n : Int)) = false := decide_eq_false (by omega)
       have b4n : decide (k < n) = false := decide_eq_false ck
       have HKN := Aside0.mk (show k = n by have := HK.out; omega)
       have hru := HO.out.x.rules c3
       go_wp2
       go_roundw
       case measure => simp [intOf]; omega
       case rel => exact ⟨i + 1, m, ls, by go_num, rfl, ⟨by omega⟩, ⟨by have := HMK.out; rw [Nat.succ_mul, ← HKN.out]; rw [HKN.out] at this ⊢; omega⟩, HP, HO⟩
    ·have b3 : decide ((i : Int) < 2) = false := decide_eq_false (by omega)
     have b3n : decide (i < 2) = false := decide_eq_false (by omega)
     have n0 := HO.out
     rw [csN_full (nb := nb) (fun q hq => HP.out.lo q (by have := HMI.out; obtain rfl : i = 2 := (by have := HI.out; omega); omega))] at n0
     have HO2 := Aside0.mk n0.look
     have HP2 := Aside0.mk (PG.begin_ (2 * n) bv nb)
     clear HO HP n0
     go_wp2
     go_loopw [7, 11, 12] (fun v7 v11 v12 wr => ∃ (i mi : Nat) (f : Nat → Nat) (v : Nat → Value) (ns : Nat → Nat) (cs : Nat → List Value), v12 = .int .i64 i ∧ v7 = .int .i64 (mi : Int) ∧ Aside0 (v11 = v (2 * n)) ∧ Aside0 (i ≤ 2) ∧ Aside0 (mi = i * n) ∧ Aside0 (PG (2 * n) 20 bv nb (fullN nb) moreC mi 0 v ns cs) ∧ Aside0 (OG base w wr f n v ns cs (vN (2 * n) bv) (nN (2 * n) nb) (csN (2 * n) (fullL nb)) gl AR CR nm bv)) (fun _ _ v12 _ => 2 - (intOf v12).toNat)
     case atStart => exact ⟨0, 0, f, _, _, _, rfl, rfl, ⟨(show nilS = vN (2 * n) bv (2 * n) from (if_neg (by omega)).symm)⟩, ⟨by omega⟩, ⟨by omega⟩, HP2, HO2⟩
     case round =>
      clear HO2 HP2 HI HMI c3 b3 b3n
      obtain ⟨i, mi, f, v, ns, cs, rfl, rfl, HV, HI, HMI, HP, HO⟩ := hrel
      by_cases c3 : i < 2
      ·have b3 : decide ((i : Int) < 2) = true := decide_eq_true (by omega)
       have b3n : decide (i < 2) = true := decide_eq_true (by omega)
       have hix := idx_g gl 2 2 i c3
       go_wp2
       go_loopw [7, 11, 13] (fun v7 v11 v13 wr => ∃ (k m : Nat) (f : Nat → Nat) (v : Nat → Value) (ns : Nat → Nat) (cs : Nat → List Value), v13 = .int .i64 k ∧ v7 = .int .i64 (m : Int) ∧ Aside0 (v11 = v (2 * n)) ∧ Aside0 (k ≤ n) ∧ Aside0 (m = i * n + k) ∧ Aside0 (PG (2 * n) 20 bv nb (fullN nb) moreC m 0 v ns cs) ∧ Aside0 (OG base w wr f n v ns cs (vN (2 * n) bv) (nN (2 * n) nb) (csN (2 * n) (fullL nb)) gl AR CR nm bv)) (fun _ _ v13 _ => n - (intOf v13).toNat)
       case atStart => exact ⟨0, mi, f, v, ns, cs, rfl, rfl, HV, ⟨by omega⟩, ⟨by have := HMI.out; omega⟩, HP, HO⟩
       case round =>
        clear HO HP HMI HV
        obtain ⟨k, m, f, v, ns, cs, rfl, rfl, HV, HK, HMK, HP, HO⟩ := hrel
        have kb : (k : Int) ≤ 256 := by have := HK.out; have := HN.out; omega
        obtain ⟨Ag, cg, hg⟩ := own_len (HO.out.own (2 * n) (by omega))
        have hv11 := HV.out.trans hg
        subst hv11
        rw [HP.out.out.1] at hg
        rw [HP.out.out.1]
        have HG := Aside0.mk hg; clear HV hg
        have hru := HO.out.x.rules c3
        by_cases ck : k < n
        ·have b4 : decide ((k : Int) < (n : Int)) = true := decide_eq_true (by omega)
         have b4n : decide (k < n) = true := decide_eq_true ck
         have HM2 := Aside0.mk (show m < 2 * n by rw [HMK.out]; exact lt2 c3 ck)
         have mb : (m : Int) ≤ 512 := by have := HM2.out; have := HN.out; omega
         have hw1 : IntKind.i64.wrap ((m : Int) + 1) = ((m + 1 : Nat) : Int) := by rw [IntWalk.i64_in _ (by omega)]; omega
         have hsub : IntKind.i64.wrap (-100000 - (((m + 1 : Nat) : Int))) = -100000 - ((m : Int) + 1) := by rw [IntWalk.i64_in _ (by omega)]; omega
         have hsub2 : IntKind.i64.wrap (-100000 - ((m : Int) + 1)) = -100000 - ((m : Int) + 1) := IntWalk.i64_in _ (by omega)
         obtain ⟨gR, hA, _, hbo⟩ := HO.out.x.at_ c3 ck
         rw [hA] at hru
         rw [← HMK.out, ← HP.out.at0 HM2.out rfl] at hbo
         obtain ⟨Ab, cb, hbv⟩ := own_len (HO.out.own m (by have := HM2.out; omega))
         rw [hbv] at hbo
         have HBV := Aside0.mk hbv
         have hixr := idx_r gR n (CR i) k ck
         clear hbv hA
         go_wp2
         clear hru hbo
         go_loopw [14, 15] (fun v14 v15 wr => ∃ (q : Nat) (f : Nat → Nat) (v : Nat → Value) (ns : Nat → Nat) (cs : Nat → List Value), v15 = .int .i64 q ∧ Aside0 (v14 = v m) ∧ Aside0 (v (2 * n) = .slice Ag m cg) ∧ Aside0 (q ≤ 20) ∧ Aside0 (PG (2 * n) 20 bv nb (fullN nb) moreC m q v ns cs) ∧ Aside0 (OG base w wr f n v ns cs (vN (2 * n) bv) (nN (2 * n) nb) (csN (2 * n) (fullL nb)) gl AR CR nm bv)) (fun _ v15 _ => 20 - (intOf v15).toNat)
         case atStart => exact ⟨0, f, v, ns, cs, rfl, ⟨HBV.out.symm⟩, HG, ⟨by omega⟩, HP, HO⟩
         case round =>
          clear HO HP HG HBV
          obtain ⟨q, f, v, ns, cs, rfl, HV, HG, HQ, HP, HO⟩ := hrel
          obtain ⟨Ax, cx, hx⟩ := own_len (HO.out.own m (by have := HM2.out; omega))
          have hns := (HP.out.at_ HM2.out).1
          have hcs := (HP.out.at_ HM2.out).2
          rw [hns] at hx
          have hv14 := HV.out.trans hx
          subst hv14
          have HVI := Aside0.mk hx; have HNS := Aside0.mk hns; have HCS := Aside0.mk hcs
          have HNM := Aside0.mk (HNB.out m HM2.out)
          have HX2 := Aside0.mk (show wr.ownsRow base 122 10 (.slice Ax (nb m + q) cx) (nb m + q) (fullN nb m ++ reps q (moreC m)) by have := HO.out.own m (by have := HM2.out; omega); rwa [show eN (2 * n) m = 122 from if_pos HM2.out, show sN (2 * n) m = 10 from if_pos HM2.out, hx, hns, hcs] at this)
          clear HV hx hns hcs
          by_cases c20 : q < 20
          ·have b20 : decide ((q : Int) < 20) = true := decide_eq_true (by omega)
           go_wp2_with (first
            | ((with_reducible refine gate_builtin (b := .append) (xs := #[.tmp 129, .tmp 133]) rfl ?_); at_builtin; refine append_event base rfl (.tmp 129) (.tmp 133) 120 122 (.agg #[.int .i64 0, .int .i64 0, .string (⟨#[]⟩ : ByteArray), .bool false, .int .u64 0, .int .u64 0, .int .u64 0, .int .u64 0, .int .i64 0, .int .i64 0]) 10 88 rfl Try.underlying120 (by kernel_rfl) rfl (by decide) (by decide) (.slice Ax (nb m + q) cx) (nb m + q) (fullN nb m ++ reps q (moreC m)) (moreC m) rfl rfl rfl (by simp [moreC, nodCells, Value.oneCell']) HX2.out (Nat.le_trans HO.out.bs HO.out.old.size) (by have := HNM.out; omega) ?_; intro v1 w5 hown hat; obtain ⟨f', n1⟩ := HO.out.append (i := m) (x' := v1) (ys := moreC m) (by have := HM2.out; omega) (by rw [show eN (2 * n) m = 122 from if_pos HM2.out, show sN (2 * n) m = 10 from if_pos HM2.out, HNS.out, HCS.out]; exact hown) (by rw [HVI.out]; exact hat); have n2 := HP.out.more_ (x' := v1) HM2.out; clear HO HP HX2 hown hat; have HO := Aside0.mk n1; have HP := Aside0.mk n2; clear n1 n2))
           go_roundw
           case measure => simp [intOf]; omega
           case rel => exact ⟨q + 1, f', _, _, _, by go_num, ⟨(upd_self _ _ _).symm⟩, ⟨by rw [upd_ne _ _ _ (by have := HM2.out; omega)]; exact HG.out⟩, ⟨by omega⟩, HP, HO⟩
          ·have b20 : decide ((q : Int) < 20) = false := decide_eq_false (by omega)
           have HQ20 := Aside0.mk (show q = 20 by have := HQ.out; omega)
           have HOU := Aside0.mk HP.out.out
           have HXN := Aside0.mk (show wr.ownsRow base 120 1 (.slice Ag m cg) m ((List.range m).map v) by have := HO.out.own (2 * n) (by omega); rwa [show eN (2 * n) (2 * n) = 120 from if_neg (by omega), show sN (2 * n) (2 * n) = 1 from if_neg (by omega), HG.out, HOU.out.1, HOU.out.2] at this)
           clear c20
           go_wp2_with (first
            | ((with_reducible refine gate_builtin (b := .append) (xs := #[.tmp 135, .tmp 137]) rfl ?_); at_builtin; refine append_event base rfl (.tmp 135) (.tmp 137) 134 120 (.slice none 0 0) 1 24 rfl Try.underlying134 (by kernel_rfl) rfl (by decide) (by decide) (.slice Ag m cg) m ((List.range m).map v) [.slice Ax (nb m + q) cx] rfl rfl rfl (by simp [Value.oneCell']) HXN.out (Nat.le_trans HO.out.bs HO.out.old.size) (by omega) ?_; intro v1 w5 hown hat; obtain ⟨f', n1⟩ := HO.out.append (i := 2 * n) (x' := v1) (ys := [v m]) (by omega) (by rw [show eN (2 * n) (2 * n) = 120 from if_neg (by omega), show sN (2 * n) (2 * n) = 1 from if_neg (by omega), HOU.out.1, HOU.out.2, HVI.out]; exact hown) (by rw [HG.out]; exact hat); have n0 := HP.out; rw [HQ20.out] at n0; have n2 := n0.done (x' := v1) HM2.out; clear HO HP HX2 HXN hown hat n0; have HO := Aside0.mk n1; have HP := Aside0.mk n2; clear n1 n2))
           go_roundw
           case measure => simp [intOf]; omega
           case rel => exact ⟨k + 1, m + 1, f', _, _, _, by go_num, rfl, ⟨(upd_self _ _ _).symm⟩, ⟨by omega⟩, ⟨by have := HMK.out; omega⟩, HP, HO⟩
        ·have b4 : decide ((k : Int) < (n : Int)) = false := decide_eq_false (by omega)
         have b4n : decide (k < n) = false := decide_eq_false ck
         have HKN := Aside0.mk (show k = n by have := HK.out; omega)
         go_wp2
         go_roundw
         case measure => simp [intOf]; omega
         case rel => exact ⟨i + 1, m, f, v, ns, cs, by go_num, rfl, ⟨HG.out.symm⟩, ⟨by omega⟩, ⟨by have := HMK.out; rw [Nat.succ_mul, ← HKN.out]; rw [HKN.out] at this ⊢; omega⟩, HP, HO⟩
      ·have b3 : decide ((i : Int) < 2) = false := decide_eq_false (by omega)
       have b3n : decide (i < 2) = false := decide_eq_false (by omega)
       have HP3 := Aside0.mk (show PG (2 * n) 20 bv nb (fullN nb) moreC (2 * n) 0 v ns cs by have hP := HP.out; have e := HMI.out; rw [two_eq c3 HI.out] at e; rwa [e] at hP)
       have HMI2 := Aside0.mk (show mi = 2 * n by have e := HMI.out; rw [two_eq c3 HI.out] at e; exact e)
       obtain ⟨Ag, cg, hg⟩ := own_len (HO.out.own (2 * n) (Nat.lt_succ_self _))
       have hv11 := HV.out.trans hg
       subst hv11
       rw [HP3.out.out.1] at hg
       rw [HP3.out.out.1]
       have HG := Aside0.mk hg; clear HV hg HP HMI HMI2 HX HOWN HLEN HTAG HBS
       go_wp2
       refine gLoop3 base gl n w f AR CR nm bv nb v ns cs Ag cg HN HNB HP3 HG _ HO _ _ _ _ _ _ _ _ _ _ _ _ _ _ _ _ _ _ _ _ _ _ _ _ _ _ _ _ _ _ _ _ _ _ _ _ _ _ _ _ _ _ _ _ _ _ _ _ _ _ _ _ _ _ _ _ _ _ _ _ _ _ _ _ _ _ _ _ _ _ _ _ _ _ _ _ _ _ _ _ _ _ _ _ _ _ _ _ _ _ _ _ _ _ _ _ _ _ _ _ _ _ _ _ _ _ _ _ _ _ _ _ _ _ _ _ _ _ _ _ _ _ _ _ _ _ _ _ _ _ _ _ _ _ _ _ _ _ _ _ _ _ _ _ _ _ _ _ _ _ _ _ _ _ _ _ _ _ _ _ _ _ _ _ _ _ _ _ _ _ _ _ _ _ _ _ _ _ _ _ _ _ _ _ _ _ _ _ _ _ _ _ _ _ _ _ _ _ _ _ _ _ _ _ _ _ _ _ _ _ _ _ _ _ _ _ _ _ _ _ _ _ _ ?_
       intro x1 x2 x3 x4 x5 x7 x8 x9 x10 x11 x12 x13 x14 x15 x16 x17 x18 x19 x20 x21 x22 x23 x24 x25 x26 x27 x28 x29 x30 x31 x32 x33 x34 x35 x36 x37 x38 x39 x40 x41 x42 x43 x44 x45 x46 x47 x48 x49 x50 x51 x52 x53 x54 x55 x56 x57 x58 x59 x60 x61 x62 x63 x64 x65 x66 x67 x68 x69 x70 x71 x72 x73 x74 x75 x76 x77 x78 x79 x80 x81 x82 x83 x84 x85 x86 x87 x88 x89 x90 x91 x92 x93 x94 x95 x96 x97 x98 x99 x100 x101 x102 x103 x104 x105 x106 x107 x108 x109 x110 x111 x112 x113 x114 x115 x116 x117 x118 x119 x120 x121 x122 x123 x124 x125 x126 x127 x128 x129 x130 x131 x132 x133 x134 x135 x136 x137 x138 x139 x140 x141 x142 x143 x144 x145 x146 x147 x148 x149 x150 x151 x152 x153 x154 x155 x156 x157 x158 x159 x160 x161 x162 x163 x164 x165 x166 x167 x168 x169 x170 x171 x172 x173 x174 x175 x176 x177 x178 x179 x180 x181 x182 x183 x184 x185 x186 x187 x188 x189 x190 x191 x192 x193 x194 x195 x196 x197 x198 x199 x200 x201 x202 x203 x204 x205 x206 x207 x208 x209 x210 x211 x212 x213 x214 x215 x216 x217 x218 x219 x220 x221 x222 x223 x224 x225 x226 w7 hO
       have HO2 := Aside0.mk hO; clear hO HO HP3 HG
       dsimp only
       go_wp2_with (first
        | (go_at_call 70; refine (outer_calls HN.out HO2.out.x (Nat.le_trans HO2.out.bs HO2.out.old.size)).mono ?_; rintro xx w8 ⟨rfl, hb⟩; have HE := Aside0.mk (HO2.out.old.trans hb); clear hb HO2))
       go_ret
       exact ⟨rfl, HE.out⟩
end
end Go.Proofs.Ytebiogaacikphaa.Pack
end
