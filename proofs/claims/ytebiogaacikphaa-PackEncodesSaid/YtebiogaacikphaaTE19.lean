/- Parts of the proof of packEncodes: FreeBWalk. No condition beyond each lemma's own. -/
import Derived.Test.YtebiogaacikphaaTE3
import Derived.Test.YtebiogaacikphaaTE6
import Derived.Test.YtebiogaacikphaaTE18
section
namespace Go.Proofs.Ytebiogaacikphaa.Pack
open Go.RowKit Go.Proofs.YtebiogaacikphaaW.PrintWords Go.Proofs.Ytebiogaacikphaa.PAll
set_option linter.unusedVariables false
set_option linter.unusedSimpArgs false
set_option linter.unnecessarySimpa false
section
variable {base gl : Nat} {w W : World} {f : Nat → Nat} {As : Nat → Option Addr} {ns Cs : Nat → Nat} {cs : Nat → List Int} {lo i n : Nat} {vg : Value} {us : Nat → Value}
theorem row3B (h : RowAt W gl 37 [.slice (As 0) (ns 0) (Cs 0), .slice (As 1) (ns 1) (Cs 1), .slice (As 2) (ns 2) (Cs 2)]) (hi : i < 3) : W.cell? ⟨gl, i, none⟩ = some (.slice (As i) (ns i) (Cs i)) := by
  rw [h.cell i]
  obtain rfl | rfl | rfl : i = 0 ∨ i = 1 ∨ i = 2 := by omega
  · rfl
  · rfl
  · rfl
theorem F1B.blk (h : F1B base w W f gl As ns Cs cs) (hi : i < 3) {k : Nat} (hk : k < ns i) : ∃ g, As i = some ⟨g, 0, none⟩ := by
  rcases (h.own i hi).2 with ⟨hv, h0⟩ | ⟨g, cap, cur, hv, _⟩
  · omega
  · injection hv with hv
    exact ⟨g, hv⟩
theorem idx_rowB (gl n m i : Nat) (hi : i < n) (W : World) : (Instr.indexAt 80 (.slice (some ⟨gl, 0, none⟩) n m) (.int .i64 (i : Int))).run Try.prog W = .ok (.pointer (some ⟨gl, i, none⟩)) W := by
  have := run_indexAt_own (P := Try.prog) (t := 80) (size := 1) Try.underlying80 (fun W => by kernel_rfl) gl n m i hi W
  rwa [Nat.mul_one] at this
theorem idx_b (g n m k : Nat) (hk : k < n) (W : World) : (Instr.indexAt 37 (.slice (some ⟨g, 0, none⟩) n m) (.int .i64 (k : Int))).run Try.prog W = .ok (.pointer (some ⟨g, k, none⟩)) W := by
  have := run_indexAt_own (P := Try.prog) (t := 37) (size := 1) Try.underlying37 (fun W => by kernel_rfl) g n m k hk W
  rwa [Nat.mul_one] at this
theorem F2B.gat {cg gg m : Nat} (h : F2B base w W f gl As ns Cs lo m (.slice (some ⟨gg, 0, none⟩) m cg) us) (hi : i < m) : W.cell? ⟨gg, i, none⟩ = some (us i) := by
  have := h.gown.cells (g := gg) rfl i (us i) (by rw [List.getElem?_map, List.getElem?_range hi]; rfl)
  rwa [show (⟨gg, 0, none⟩ : Addr).add i = ⟨gg, i, none⟩ from (by simp [Addr.add]; omega)] at this
theorem sees_b {v : Value} {n k : Nat} {l : List Int} {y : Int} (h : Sees W v n (l.flatMap bEnc)) (hk : k < n) (hy : l[k]? = some y) : ∃ g c, v = .slice (some ⟨g, 0, none⟩) n c ∧ W.cell? ⟨g, k, none⟩ = some (.int .u8 y) := by
  obtain ⟨A, c, rfl, h0⟩ := h
  obtain ⟨g, rfl, h1⟩ := h0 (by omega)
  exact ⟨g, c, rfl, h1 k _ (by rw [bEnc_nums, nums, List.getElem?_map, hy]; rfl)⟩
theorem own_atB {e : TypeId} {size : Nat} {v : Value} {xs : List Value} (h : W.ownsRow base e size v n xs) (hp : 0 < n) : ∃ g c, v = .slice (some ⟨g, 0, none⟩) n c := by
  rcases h.2 with ⟨_, h0⟩ | ⟨g, cap, cur, hv, _⟩
  · omega
  · exact ⟨g, cap, hv⟩
theorem want_atB (ns : Nat → Nat) (i k : Nat) (h : k < ns i + 70) : (fullB ns i ++ List.replicate 70 (moreB i))[k]? = some (if k < ns i then markB i else moreB i) := by
  by_cases e : k < ns i
  · rw [if_pos e, List.getElem?_append_left (by rw [fullB, List.length_replicate]; exact e), fullB, List.getElem?_replicate, if_pos e]
  · rw [if_neg e, List.getElem?_append_right (by rw [fullB, List.length_replicate]; omega), List.getElem?_replicate, fullB, List.length_replicate, if_pos (by omega)]
theorem full_atB (ns : Nat → Nat) (i k : Nat) (h : k < ns i) : (fullB ns i)[k]? = some (markB i) := by rw [fullB, List.getElem?_replicate, if_pos h]
theorem full_ofB {l : List Int} {n : Nat} {y : Int} (hl : l.length = n) (h : ∀ m, m < n → l[m]? = some y) : l = List.replicate n y := by
  refine List.ext_getElem? (fun m => ?_)
  by_cases hm : m < n
  · rw [h m hm, List.getElem?_replicate, if_pos hm]
  · rw [List.getElem?_eq_none (by omega), List.getElem?_eq_none (by rw [List.length_replicate]; omega)]
end
section
variable (base gl : Nat) (w : World) (f : Nat → Nat) (As : Nat → Option Addr) (ns Cs : Nat → Nat) (cs : Nat → List Int)
set_option maxHeartbeats 4000000 in
set_option maxRecDepth 100000 in
theorem freeB_calls (h : F1B base w w f gl As ns Cs cs) (hn : ∀ j, j < 3 → ns j ≤ 8388608) :
    Calls Try.prog 39 #[.slice (some ⟨gl, 0, none⟩) 3 3] w fun x w' => x = .returned (.bool true) ∧ Below base w w' := by
  have HN := Aside0.mk hn
  have HF := Aside0.mk h
  clear h hn
  go_enter Try.func39, Try.ntmps39
  go_wp2
  go_loopw [3] (fun v3 wr => ∃ (i : Nat) (cs : Nat → List Int), v3 = .int .i64 i ∧ Aside0 (i ≤ 3 ∧ ∀ j, j < i → cs j = fullB ns j) ∧ Aside0 (F1B base w wr f gl As ns Cs cs)) (fun v3 _ => 3 - (intOf v3).toNat)
  case atStart => exact ⟨0, cs, rfl, ⟨by omega, fun j hj => absurd hj (by omega)⟩, HF⟩
  case round =>
    clear HF
    obtain ⟨i, cs, rfl, HI, HF⟩ := hrel
    by_cases c3 : i < 3
    · have b3 : decide ((i : Int) < 3) = true := decide_eq_true (by omega)
      go_wp2
      go_loopw [4] (fun v4 wr => ∃ (k : Nat) (cs : Nat → List Int), v4 = .int .i64 k ∧ Aside0 (k ≤ ns i ∧ (∀ j, j < i → cs j = fullB ns j) ∧ ∀ m, m < k → (cs i)[m]? = some (markB i)) ∧ Aside0 (F1B base w wr f gl As ns Cs cs)) (fun v4 _ => ns i - (intOf v4).toNat)
      case atStart => exact ⟨0, cs, rfl, ⟨Nat.zero_le _, HI.out.2, fun m hm => absurd hm (by omega)⟩, HF⟩
      case round =>
        clear HF HI
        obtain ⟨k, cs, rfl, HI, HF⟩ := hrel
        have hcell := row3B HF.out.row c3
        have hix := idx_rowB gl 3 3 i c3
        have hn := HN.out i c3
        by_cases ck : k < ns i
        · have bk : decide ((k : Int) < (ns i : Int)) = true := decide_eq_true (by omega)
          obtain ⟨g, hA⟩ := HF.out.blk c3 ck
          have hixk : ∀ W : World, (Instr.indexAt 37 (.slice (As i) (ns i) (Cs i)) (.int .i64 (k : Int))).run Try.prog W = .ok (.pointer (some ⟨g, k, none⟩)) W := fun W => by rw [hA]; exact idx_b g (ns i) (Cs i) k ck W
          have HA := Aside0.mk hA
          have HCK := Aside0.mk ck
          have HLEN := Aside0.mk (HF.out.len i c3)
          have hrem : (i : Int).tmod 100 = (i : Int) := by rw [Int.tmod_eq_emod_of_nonneg (by omega)]; omega
          have hconv : (i : Int) % 256 = (i : Int) := by omega
          have hconv2 : IntKind.u8.wrap (i : Int) = (i : Int) := Bits.wrap_u .u8 rfl i (by show _ < 2 ^ 8; omega)
          obtain ⟨fl, hr, hfl, _⟩ := own_row (by have := HF.out.own i c3; rw [HA.out] at this; exact this)
          have HRF := Aside0.mk hr
          have HFL := Aside0.mk hfl
          clear hA hr hfl
          go_wp2_with (first
            | ((with_reducible refine gate_store (t := 5) (p := 36) rfl ?_); refine put_event rfl rfl 5 (.tmp 36) (.tmp 35) rfl (g := g) (off := k) (cs := fl) (u := .int .u8 (i : Int)) (seg := [.int .u8 (i : Int)]) rfl rfl HRF.out rfl (by kernel_rfl) (by have := HFL.out; have := HCK.out; simp; omega) (by simp [Value.oneCell']) ?_; intro w7 hrow hgr; have n1_ := Aside0.mk (HF.out.put c3 HCK.out (markB i) HA.out HRF.out (by rw [Nat.mul_one]; exact hrow) hgr); clear HF hrow hgr hcell; have HF := n1_; clear n1_))
          go_roundw
          case measure => simp [intOf]; omega
          case rel =>
            refine ⟨k + 1, _, by go_num, ⟨by omega, fun j hj => ?_, fun m hm => ?_⟩, HF⟩
            · show (if j = i then (cs i).set k (markB i) else cs j) = _
              rw [if_neg (by omega)]
              exact HI.out.2.1 j hj
            · show (if i = i then (cs i).set k (markB i) else cs i)[m]? = _
              rw [if_pos rfl, List.getElem?_set]
              by_cases e : k = m
              · rw [if_pos e, if_pos (by have := HLEN.out; omega)]
              · rw [if_neg e]
                exact HI.out.2.2 m (by omega)
        · have bk : decide ((k : Int) < (ns i : Int)) = false := decide_eq_false (by omega)
          have hfull : cs i = fullB ns i := full_ofB (HF.out.len i c3) (fun m hm => HI.out.2.2 m (by have := HI.out.1; omega))
          have HFU := Aside0.mk hfull
          clear hfull
          go_wp2
          go_roundw
          case measure => simp [intOf]; omega
          case rel =>
            refine ⟨i + 1, cs, by go_num, ⟨by omega, fun j hj => ?_⟩, HF⟩
            by_cases e : j = i
            · rw [e]; exact HFU.out
            · exact HI.out.2.1 j (by omega)
    · have b3 : decide ((i : Int) < 3) = false := decide_eq_false (by omega)
      have n1_ := Aside0.mk (HF.out.next (fun j hj => HI.out.2 j (by omega)))
      clear HF HI
      have HF := n1_
      clear n1_ c3
      go_wp2
      go_loopw [5, 6] (fun v5 v6 wr => ∃ (i : Nat) (f : Nat → Nat) (us : Nat → Value), v6 = .int .i64 i ∧ Aside0 (F2B base w wr f gl As ns Cs i i v5 us)) (fun _ v6 _ => 3 - (intOf v6).toNat)
      case atStart => exact ⟨0, f, _, rfl, HF⟩
      case round =>
        clear HF
        obtain ⟨i, f, us, rfl, HF⟩ := hrel
        obtain ⟨Ag, cg, rfl⟩ := own_len HF.out.gown
        by_cases c3 : i < 3
        · have b3 : decide ((i : Int) < 3) = true := decide_eq_true (by omega)
          have hcell := row3B HF.out.row c3
          have hix := idx_rowB gl 3 3 i c3
          go_wp2
          go_loopw [7, 8] (fun v7 v8 wr => ∃ (q : Nat) (f : Nat → Nat), v8 = .int .i64 q ∧ Aside0 (q ≤ 70) ∧ Aside0 (F2B base w wr f gl As ns Cs (i + 1) i (.slice Ag i cg) us) ∧ Aside0 (wr.ownsRow base 5 1 v7 (ns i + q) ((fullB ns i ++ List.replicate q (moreB i)).flatMap bEnc)) ∧ Aside0 (Tag wr f v7 i)) (fun _ v8 _ => 70 - (intOf v8).toNat)
          case atStart => exact ⟨0, f, rfl, ⟨by omega⟩, ⟨HF.out.low (by omega)⟩, ⟨by simpa using HF.out.own i (Nat.le_refl _) c3⟩, ⟨HF.out.tag i c3⟩⟩
          case round =>
            clear HF hcell hix
            obtain ⟨q, f, rfl, HQ, HF, HX, HT⟩ := hrel
            obtain ⟨Ax, cx, rfl⟩ := own_len HX.out
            have HNI := Aside0.mk (HN.out i c3)
            by_cases c20 : q < 70
            · have b20 : decide ((q : Int) < 70) = true := decide_eq_true (by omega)
              have hrem : (i : Int).tmod 100 = (i : Int) := by rw [Int.tmod_eq_emod_of_nonneg (by omega)]; omega
              have hsum : IntKind.i64.wrap (100 + (i : Int)) = 100 + (i : Int) := IntWalk.i64_in _ (by omega)
              have hconv : (100 + (i : Int)) % 256 = 100 + (i : Int) := by omega
              go_wp2_with (first
                | ((with_reducible refine gate_builtin (b := .append) (xs := #[.tmp 51, .tmp 56]) rfl ?_); at_builtin; refine append_event base rfl (.tmp 51) (.tmp 56) 37 5 (.int .u8 0) 1 1 rfl Try.underlying37 (by kernel_rfl) rfl (by decide) (by decide) (.slice Ax (ns i + q) cx) (ns i + q) ((fullB ns i ++ List.replicate q (moreB i)).flatMap bEnc) (bEnc (moreB i)) rfl rfl rfl (by simp [bEnc, Value.oneCell']) HX.out (Nat.le_trans HF.out.bs HF.out.old.size) (by have := HNI.out; omega) ?_; intro v1 w5 hown hat; obtain ⟨f', n1, n2, n3⟩ := HF.out.more c3 HX.out HT.out hown hat; clear HF HX HT hown hat; have HF := Aside0.mk n1; have HX := Aside0.mk n2; have HT := Aside0.mk n3; clear n1 n2 n3))
              go_roundw
              case measure => simp [intOf]; omega
              case rel => exact ⟨q + 1, f', by go_num, ⟨by omega⟩, HF, HX, HT⟩
            · have b20 : decide ((q : Int) < 70) = false := decide_eq_false (by omega)
              have HQ20 := Aside0.mk (show q = 70 by have := HQ.out; omega)
              clear c20
              go_wp2_with (first
                | ((with_reducible refine gate_builtin (b := .append) (xs := #[.tmp 58, .tmp 60]) rfl ?_); at_builtin; refine append_event base rfl (.tmp 58) (.tmp 60) 80 37 (.slice none 0 0) 1 24 rfl Try.underlying80 (by kernel_rfl) rfl (by decide) (by decide) (.slice Ag i cg) i ((List.range i).map us) [.slice Ax (ns i + q) cx] rfl rfl rfl (by simp [Value.oneCell']) HF.out.gown (Nat.le_trans HF.out.bs HF.out.old.size) (by omega) ?_; intro v1 w5 hown hat; obtain ⟨f', n1⟩ := HF.out.done c3 (by have := HX.out; rw [HQ20.out] at this ⊢; exact this) HT.out hown hat; clear HF HX HT hown hat; have HF := Aside0.mk n1; clear n1))
              go_roundw
              case measure => simp [intOf]; omega
              case rel => exact ⟨i + 1, f', _, by go_num, HF⟩
        · have b3 : decide ((i : Int) < 3) = false := decide_eq_false (by omega)
          have HM3 := Aside0.mk (show i = 3 by have := HF.out.i3; omega)
          obtain ⟨gg, cg', hv⟩ := own_atB HF.out.gown (by omega)
          cases hv
          clear c3
          go_wp2
          go_loopw [9] (fun v9 wr => ∃ (p : Nat), v9 = .int .i64 p ∧ Aside0 (p ≤ 3) ∧ Aside0 (F2B base w wr f gl As ns Cs i i (.slice (some ⟨gg, 0, none⟩) i cg) us)) (fun v9 _ => 3 - (intOf v9).toNat)
          case atStart => exact ⟨0, rfl, ⟨by omega⟩, HF⟩
          case round =>
            clear HF
            obtain ⟨p, rfl, HP, HF⟩ := hrel
            by_cases c3 : p < 3
            · have b3 : decide ((p : Int) < 3) = true := decide_eq_true (by omega)
              have hpi : p < i := by have := HM3.out; omega
              obtain ⟨m, hm⟩ : ∃ m, m = ns p + 70 := ⟨_, rfl⟩
              obtain ⟨gu, cu, hu⟩ := own_atB (HF.out.uown p hpi) (by omega)
              rw [← hm] at hu
              have HM := Aside0.mk hm
              have HU := Aside0.mk hu
              have HNP := Aside0.mk (HN.out p c3)
              have hrem : (p : Int).tmod 100 = (p : Int) := by rw [Int.tmod_eq_emod_of_nonneg (by omega)]; omega
              have hconv1 : (p : Int) % 256 = (p : Int) := by omega
              have hsum : IntKind.i64.wrap (100 + (p : Int)) = 100 + (p : Int) := IntWalk.i64_in _ (by omega)
              have hconv : (100 + (p : Int)) % 256 = 100 + (p : Int) := by omega
              clear hm hu
              go_wp2
              go_loopw [10] (fun v10 wr => ∃ (k : Nat), v10 = .int .i64 k ∧ Aside0 (k ≤ m) ∧ Aside0 (F2B base w wr f gl As ns Cs i i (.slice (some ⟨gg, 0, none⟩) i cg) us)) (fun v10 _ => m - (intOf v10).toNat)
              case atStart => exact ⟨0, rfl, ⟨by omega⟩, HF⟩
              case round =>
                clear HF
                obtain ⟨k, rfl, HK, HF⟩ := hrel
                have km : (k : Int) ≤ 8388700 := by have := HK.out; have := HM.out; have := HNP.out; omega
                have hixl := idx_rowB gl 3 3 p c3
                have hixg := idx_rowB gg i cg p hpi
                have hcell := row3B HF.out.row c3
                have hgc := (HF.out.gat hpi).trans (congrArg some HU.out)
                by_cases ck : k < m
                · have bk : decide ((k : Int) < (m : Int)) = true := decide_eq_true (by omega)
                  have hixu := idx_b gu m cu k ck
                  have hS := own_sees (HF.out.uown p hpi)
                  rw [HU.out, ← HM.out] at hS
                  by_cases kn : k < ns p
                  · have b1 : decide ((k : Int) ≥ (ns p : Int)) = false := decide_eq_false (by omega)
                    obtain ⟨gu', cu', hv', y0⟩ := sees_b hS ck (y := markB p) (by rw [want_atB ns p k (by have := HM.out; omega), if_pos kn])
                    cases hv'
                    replace y0 : wr.cell? ⟨gu, k, none⟩ = some (.int .u8 (p : Int)) := y0
                    clear hS
                    go_wp2
                    go_roundw
                    case measure => simp [intOf]; omega
                    case rel => exact ⟨k + 1, by go_num, ⟨by omega⟩, HF⟩
                  · have b1 : decide ((k : Int) ≥ (ns p : Int)) = true := decide_eq_true (by omega)
                    obtain ⟨gu', cu', hv', y0⟩ := sees_b hS ck (y := moreB p) (by rw [want_atB ns p k (by have := HM.out; omega), if_neg kn])
                    cases hv'
                    replace y0 : wr.cell? ⟨gu, k, none⟩ = some (.int .u8 (100 + (p : Int))) := y0
                    clear hS
                    go_wp2
                    go_roundw
                    case measure => simp [intOf]; omega
                    case rel => exact ⟨k + 1, by go_num, ⟨by omega⟩, HF⟩
                · have bk : decide ((k : Int) < (m : Int)) = false := decide_eq_false (by omega)
                  go_wp2
                  go_loopw [12] (fun v12 wr => ∃ (k : Nat), v12 = .int .i64 k ∧ Aside0 (k ≤ ns p) ∧ Aside0 (F2B base w wr f gl As ns Cs i i (.slice (some ⟨gg, 0, none⟩) i cg) us)) (fun v12 _ => ns p - (intOf v12).toNat)
                  case atStart => exact ⟨0, rfl, ⟨by omega⟩, HF⟩
                  case round =>
                    clear HF HK ck bk km hgc hcell
                    obtain ⟨k, rfl, HK, HF⟩ := hrel
                    have km : (k : Int) ≤ 8388700 := by have := HK.out; have := HNP.out; omega
                    have hcell := row3B HF.out.row c3
                    by_cases ck : k < ns p
                    · have bk : decide ((k : Int) < (ns p : Int)) = true := decide_eq_true (by omega)
                      obtain ⟨gv, cv, hv, y0⟩ := sees_b (HF.out.sees p c3) ck (full_atB ns p k ck)
                      have hAp : As p = some ⟨gv, 0, none⟩ := by injection hv
                      have hixv : ∀ W : World, (Instr.indexAt 37 (.slice (As p) (ns p) (Cs p)) (.int .i64 (k : Int))).run Try.prog W = .ok (.pointer (some ⟨gv, k, none⟩)) W := fun W => by rw [hAp]; exact idx_b gv (ns p) (Cs p) k ck W
                      replace y0 : wr.cell? ⟨gv, k, none⟩ = some (.int .u8 (p : Int)) := y0
                      clear hv hAp
                      go_wp2
                      go_roundw
                      case measure => simp [intOf]; omega
                      case rel => exact ⟨k + 1, by go_num, ⟨by omega⟩, HF⟩
                    · have bk : decide ((k : Int) < (ns p : Int)) = false := decide_eq_false (by omega)
                      go_wp2
                      go_roundw
                      case measure => simp [intOf]; omega
                      case rel => exact ⟨p + 1, by go_num, ⟨by omega⟩, HF⟩
            · have b3 : decide ((p : Int) < 3) = false := decide_eq_false (by omega)
              go_wp2
              go_ret
              exact ⟨rfl, HF.out.old⟩
end
end Go.Proofs.Ytebiogaacikphaa.Pack
end
