/- Parts of the proof of packEncodes: Gathered, Number, Unique, EncodeKit, EncodeParts. No condition beyond each lemma's own. -/
import Derived.Test.YtebiogaacikphaaTE7
import Derived.Test.YtebiogaacikphaaTE10
import Derived.Test.YtebiogaacikphaaTE11
import Derived.Test.YtebiogaacikphaaTE12
section
namespace Go.Proofs.Ytebiogaacikphaa.Pack
open Go.RowKit Go.Proofs.YtebiogaacikphaaW.PrintWords Go.Proofs.Ytebiogaacikphaa.PAll Go.Proofs.Ytebiogaacikphaa.Names
set_option linter.unusedVariables false
set_option linter.unusedSimpArgs false
set_option linter.unnecessarySimpa false
theorem cells4 {W : World} {g : Nat} {e : TypeId} {a b c d : Value} (h : RowAt W g e [a, b, c, d]) : W.cell? ⟨g, 0, none⟩ = some a ∧ W.cell? ⟨g, 1, none⟩ = some b ∧ W.cell? ⟨g, 2, none⟩ = some c ∧ W.cell? ⟨g, 3, none⟩ = some d := ⟨h.cell 0, h.cell 1, h.cell 2, h.cell 3⟩
theorem new_off {w W : World} {gt gc gn : Nat} {cs : List Value} {vs vt : Value} {lc : List (Four × Value)} {ln : List (ByteArray × Value)} {S : List Four} {T : List ByteArray} (h : GT w W gt gc gn cs vs vt lc ln S T) {g : Nat} (hg : g = W.heap.size) : gt < g ∧ vs.ownBlock ≠ some g ∧ vt.ownBlock ≠ some g := by
  have := h.row.lt
  refine ⟨by omega, fun e => ?_, fun e => ?_⟩
  · have := own_lt h.s g e
    omega
  · have := own_lt h.t g e
    omega
section
variable (A : Option Addr) (c : Nat) (l : List Ins) (w : World)
set_option maxHeartbeats 4000000 in
set_option maxRecDepth 100000 in
theorem gathered_calls (hr : Kd.C k78 w A l.length l) (hl : l.length ≤ 65536) :
    Calls Try.prog 71 #[.slice A l.length c] w fun e w' => ∃ gt gc gn vs vt, e = .returned (.pointer (some ⟨gt, 0, none⟩)) ∧ Tabs w w' gt gc gn vs vt (l.foldl addC []) (l.foldl addN []) := by
  have HR := Aside0.mk hr
  have HL := Aside0.mk hl
  clear hr
  go_enter Try.func71, Try.ntmps71
  go_wp2_with (first
    | ((with_reducible refine gate_dst (N := 10) rfl ?_); refine map_event (encFour .u64) rfl 140 rfl ?_; intro gc hgc w1 hm hb1; have HMC := Aside0.mk hm; have HB := Aside0.mk hb1; have HGC := Aside0.mk hgc; clear hm hb1 hgc)
    | ((with_reducible refine gate_dst (N := 11) rfl ?_); refine map_event Value.string rfl 94 rfl ?_; intro gn hgn w2 hm hb2; have HMN := Aside0.mk hm; have HGN := Aside0.mk (show gc < gn by have := HMC.out.lt; omega); have n1_ := Aside0.mk (HMC.out.below hb2); have n2_ := Aside0.mk (below_step HB.out hb2); clear HMC HB hm hb2 hgn; have HMC := n1_; have HB := n2_; clear n1_ n2_)
    | ((with_reducible refine gate_dst (N := 13) rfl ?_); refine box_event (N := 13) rfl rfl (cs := #[.map (some gc), .map (some gn), .slice none 0 0, .slice none 0 0]) (t := 142) ?hr2 ?_; (case hr2 => first | (go_simp; done) | (go_simp; rfl)); intro gt hgt w3 hbox hb3; have HG : Aside0 (Tabs w w3 gt gc gn (.slice none 0 0) (.slice none 0 0) [] []) := ⟨⟨below_step HB.out hb3, ⟨_, hbox, rfl⟩, HMC.out.below hb3, HMN.out.below hb3, ⟨rfl, .inl ⟨rfl, rfl⟩⟩, ⟨rfl, .inl ⟨rfl, rfl⟩⟩, by have := HMN.out.lt; have := HGN.out; have := HGC.out; omega, fun q h => by simp [Value.ownBlock] at h, fun q h => by simp [Value.ownBlock] at h⟩⟩; clear HMC HMN HB hbox hb3 hgt))
  go_loopw [16] (fun v16 wr => ∃ (i : Int) (vs vt : Value), v16 = .int .i64 i ∧ Aside0 (0 ≤ i ∧ i ≤ l.length) ∧ Aside0 (Tabs w wr gt gc gn vs vt ((l.take i.toNat).foldl addC []) ((l.take i.toNat).foldl addN []))) (fun v16 _ => l.length - (intOf v16).toNat)
  case atStart => exact ⟨0, _, _, rfl, ⟨by omega, by omega⟩, HG⟩
  case round =>
    clear HG
    obtain ⟨i, vs, vt, rfl, HI, HG⟩ := hrel
    by_cases c2 : i < (l.length : Int)
    · have k2 : decide (i < (l.length : Int)) = true := decide_eq_true c2
      have p0 : 0 ≤ i := HI.out.1
      obtain ⟨x, hx⟩ : ∃ x, rd_T78 l i = x := ⟨_, rfl⟩
      have hget : l[i.toNat]? = some x := by
        have h1 : i.toNat < l.length := by omega
        rw [List.getElem?_eq_getElem h1, ← hx, rd_T78, List.getD_eq_getElem?_getD, List.getElem?_eq_getElem h1]
        rfl
      obtain ⟨ad, e, x0, x1, x2, x3, x4, x5, x6⟩ := at_T78 (Kd.C_below HR.out HG.out.bel) i p0 c2
      rw [hx] at x0 x1 x2 x3 x4 x5 x6
      cases e
      have HGET := Aside0.mk hget
      have HSC : Aside0 ((l.take (i + 1).toNat).foldl addC [] = addC ((l.take i.toNat).foldl addC []) x) := ⟨by rw [show (i + 1).toNat = i.toNat + 1 by omega, List.take_add_one, hget, List.foldl_append]; rfl⟩
      have HSN : Aside0 ((l.take (i + 1).toNat).foldl addN [] = addN ((l.take i.toNat).foldl addN []) x) := ⟨by rw [show (i + 1).toNat = i.toNat + 1 by omega, List.take_add_one, hget, List.foldl_append]; rfl⟩
      have HSL : Aside0 (((l.take i.toNat).foldl addC []).length ≤ 65536 ∧ ((l.take i.toNat).foldl addN []).length ≤ 65536) := by
        have h1 := foldC_length (l.take i.toNat) []
        have h2 := foldN_length (l.take i.toNat) []
        rw [List.length_take, List.length_nil] at h1 h2
        exact ⟨by omega, by omega⟩
      generalize (l.take i.toNat).foldl addC [] = S at *
      generalize (l.take i.toNat).foldl addN [] = T at *
      have hw1 : IntKind.i64.wrap (i + 1) = i + 1 := IntWalk.i64_in _ (by have := HL.out; omega)
      replace p0 := eq_true p0
      have q0 := eq_true c2
      clear hx hget c2
      rcases kind4 x.f0 with k | k | k | k
      · have HK := Aside0.mk k
        clear k
        go_wp2_with (first
          | ((with_reducible refine gate_dst (N := 5) rfl ?_); refine box_event (N := 5) rfl rfl (cs := #[.int .i64 0, .int .i64 0, .int .u64 0, .int .u64 0, .int .u64 0, .int .u64 0, .string (⟨#[]⟩ : ByteArray)]) (t := 78) ?hr2 ?_; (case hr2 => first | (go_simp; done) | (go_simp; rfl)); intro g5 hg5 w3 hbox hb1; have H5 := Aside0.mk (show RowAt w3 g5 78 (insCells zIns) from ⟨_, hbox, rfl⟩); have HG5 := Aside0.mk (show gt < g5 ∧ vs.ownBlock ≠ some g5 ∧ vt.ownBlock ≠ some g5 from new_off HG.out hg5); have n1_ := Aside0.mk (HG.out.below hb1); clear HG hbox hb1 hg5 x0 x1 x2 x3 x4 x5 x6; have HG := n1_; clear n1_)
          | ((with_reducible refine gate_store (t := 78) (p := 5) rfl ?_); refine put_event rfl rfl 78 (.tmp 5) (.tmp 19) rfl (off := 0) (u := .agg #[.int .i64 x.f0, .int .i64 x.f1, .int .u64 x.f2.f0, .int .u64 x.f2.f1, .int .u64 x.f2.f2, .int .u64 x.f2.f3, .string x.f3]) (seg := insCells x) rfl rfl H5.out rfl (by kernel_rfl) (by simp [insCells]) (by simp [insCells, Value.oneCell']) ?_; intro w4 hrow hgr; have n1_ := Aside0.mk (HG.out.other hgr HG5.out.1 HG5.out.2.1 HG5.out.2.2); clear HG H5 hgr; have HG := n1_; clear n1_; have H5 := Aside0.mk (show RowAt w4 g5 78 (insCells x) from hrow); clear hrow; obtain ⟨x0, x1, x2, x3, x4, x5, x6⟩ := cells7 H5.out)
          | (go_at_call 99; refine (operand_lit _ 0 HK.out _).mono ?_; rintro r w6 ⟨rfl, hb⟩; have n1_ := Aside0.mk (HG.out.below hb); have n2_ := Aside0.mk (H5.out.below hb); clear HG H5 hb x0 x1 x2 x3 x4 x5 x6; have HG := n1_; have H5 := n2_; clear n1_ n2_))
        go_roundw
        case measure => have h2 := of_eq_true q0; have h3 := of_eq_true p0; show l.length - (i + 1).toNat < l.length - i.toNat; omega
        case rel => exact ⟨i + 1, vs, vt, rfl, ⟨by have := HI.out; have := of_eq_true q0; omega⟩, by rw [HSC.out, HSN.out, addC, addN, HK.out]; exact HG⟩
      · have HK := Aside0.mk k
        clear k
        go_wp2_with (first
          | ((with_reducible refine gate_dst (N := 5) rfl ?_); refine box_event (N := 5) rfl rfl (cs := #[.int .i64 0, .int .i64 0, .int .u64 0, .int .u64 0, .int .u64 0, .int .u64 0, .string (⟨#[]⟩ : ByteArray)]) (t := 78) ?hr2 ?_; (case hr2 => first | (go_simp; done) | (go_simp; rfl)); intro g5 hg5 w3 hbox hb1; have H5 := Aside0.mk (show RowAt w3 g5 78 (insCells zIns) from ⟨_, hbox, rfl⟩); have HG5 := Aside0.mk (show gt < g5 ∧ vs.ownBlock ≠ some g5 ∧ vt.ownBlock ≠ some g5 from new_off HG.out hg5); have n1_ := Aside0.mk (HG.out.below hb1); clear HG hbox hb1 hg5 x0 x1 x2 x3 x4 x5 x6; have HG := n1_; clear n1_)
          | ((with_reducible refine gate_store (t := 78) (p := 5) rfl ?_); refine put_event rfl rfl 78 (.tmp 5) (.tmp 19) rfl (off := 0) (u := .agg #[.int .i64 x.f0, .int .i64 x.f1, .int .u64 x.f2.f0, .int .u64 x.f2.f1, .int .u64 x.f2.f2, .int .u64 x.f2.f3, .string x.f3]) (seg := insCells x) rfl rfl H5.out rfl (by kernel_rfl) (by simp [insCells]) (by simp [insCells, Value.oneCell']) ?_; intro w4 hrow hgr; have n1_ := Aside0.mk (HG.out.other hgr HG5.out.1 HG5.out.2.1 HG5.out.2.2); clear HG H5 hgr; have HG := n1_; clear n1_; have H5 := Aside0.mk (show RowAt w4 g5 78 (insCells x) from hrow); clear hrow; obtain ⟨x0, x1, x2, x3, x4, x5, x6⟩ := cells7 H5.out)
          | (go_at_call 99; refine (operand_lit _ 1 HK.out _).mono ?_; rintro r w6 ⟨rfl, hb⟩; have n1_ := Aside0.mk (HG.out.below hb); have n2_ := Aside0.mk (H5.out.below hb); clear HG H5 hb x0 x1 x2 x3 x4 x5 x6; have HG := n1_; have H5 := n2_; clear n1_ n2_))
        go_roundw
        case measure => have h2 := of_eq_true q0; have h3 := of_eq_true p0; show l.length - (i + 1).toNat < l.length - i.toNat; omega
        case rel => exact ⟨i + 1, vs, vt, rfl, ⟨by have := HI.out; have := of_eq_true q0; omega⟩, by rw [HSC.out, HSN.out, addC, addN, HK.out]; exact HG⟩
      · have HK := Aside0.mk k
        clear k
        go_wp2_with (first
          | ((with_reducible refine gate_dst (N := 5) rfl ?_); refine box_event (N := 5) rfl rfl (cs := #[.int .i64 0, .int .i64 0, .int .u64 0, .int .u64 0, .int .u64 0, .int .u64 0, .string (⟨#[]⟩ : ByteArray)]) (t := 78) ?hr2 ?_; (case hr2 => first | (go_simp; done) | (go_simp; rfl)); intro g5 hg5 w3 hbox hb1; have H5 := Aside0.mk (show RowAt w3 g5 78 (insCells zIns) from ⟨_, hbox, rfl⟩); have HG5 := Aside0.mk (show gt < g5 ∧ vs.ownBlock ≠ some g5 ∧ vt.ownBlock ≠ some g5 from new_off HG.out hg5); have n1_ := Aside0.mk (HG.out.below hb1); clear HG hbox hb1 hg5 x0 x1 x2 x3 x4 x5 x6; have HG := n1_; clear n1_)
          | ((with_reducible refine gate_store (t := 78) (p := 5) rfl ?_); refine put_event rfl rfl 78 (.tmp 5) (.tmp 19) rfl (off := 0) (u := .agg #[.int .i64 x.f0, .int .i64 x.f1, .int .u64 x.f2.f0, .int .u64 x.f2.f1, .int .u64 x.f2.f2, .int .u64 x.f2.f3, .string x.f3]) (seg := insCells x) rfl rfl H5.out rfl (by kernel_rfl) (by simp [insCells]) (by simp [insCells, Value.oneCell']) ?_; intro w4 hrow hgr; have n1_ := Aside0.mk (HG.out.other hgr HG5.out.1 HG5.out.2.1 HG5.out.2.2); clear HG H5 hgr; have HG := n1_; clear n1_; have H5 := Aside0.mk (show RowAt w4 g5 78 (insCells x) from hrow); clear hrow; obtain ⟨x0, x1, x2, x3, x4, x5, x6⟩ := cells7 H5.out)
          | (go_at_call 99; refine (operand_lit _ 2 HK.out _).mono ?_; rintro r w6 ⟨rfl, hb⟩; have n1_ := Aside0.mk (HG.out.below hb); have n2_ := Aside0.mk (H5.out.below hb); clear HG H5 hb x0 x1 x2 x3 x4 x5 x6; have HG := n1_; have H5 := n2_; clear n1_ n2_))
        obtain ⟨x0, x1, x2, x3, x4, x5, x6⟩ := cells7 H5.out
        obtain ⟨r0, r1, r2, r3⟩ := cells4 HG.out.row
        by_cases hin : clsI x ∈ S
        · have hlk : ∀ n, (Instr.lookup 140 (.map (some gc)) (.agg #[.int .u64 x.f2.f0, .int .u64 x.f2.f1, .int .u64 x.f2.f2, .int .u64 x.f2.f3]) true).run Try.prog (w6.drewN n) = .ok (.tuple #[.int .i64 (placeOf S (clsI x) : Int), .bool true]) (w6.drewN n) := fun n => class_old hin true _ (HG.out.drewN n).mc
          have HIN := Aside0.mk hin
          clear hin
          go_quiet (fail)
          have n1_ := Aside0.mk (HG.out.drewN nq); have n2_ := Aside0.mk (H5.out.below (pw_below_drewN (Below.refl _ _) nq)); clear HG H5 x0 x1 x2 x3 x4 x5 x6 r0 r1 hlk; have HG := n1_; have H5 := n2_; clear n1_ n2_; obtain ⟨x0, x1, x2, x3, x4, x5, x6⟩ := cells7 H5.out; obtain ⟨r0, r1, r2, r3⟩ := cells4 HG.out.row
          go_wp2
          go_roundw
          case measure => have h2 := of_eq_true q0; have h3 := of_eq_true p0; show l.length - (i + 1).toNat < l.length - i.toNat; omega
          case rel => exact ⟨i + 1, vs, vt, rfl, ⟨by have := HI.out; have := of_eq_true q0; omega⟩, by rw [HSC.out, HSN.out, addC, addN, HK.out, if_pos rfl, once, if_pos HIN.out]; exact HG⟩
        · have hlk : ∀ n, (Instr.lookup 140 (.map (some gc)) (.agg #[.int .u64 x.f2.f0, .int .u64 x.f2.f1, .int .u64 x.f2.f2, .int .u64 x.f2.f3]) true).run Try.prog (w6.drewN n) = .ok (.tuple #[.int .i64 0, .bool false]) (w6.drewN n) := fun n => class_new hin _ (HG.out.drewN n).mc
          have HIN := Aside0.mk hin
          obtain ⟨As, cs, rfl⟩ := own_len HG.out.s
          clear hin
          go_quiet (fail)
          have n1_ := Aside0.mk (HG.out.drewN nq); have n2_ := Aside0.mk (H5.out.below (pw_below_drewN (Below.refl _ _) nq)); clear HG H5 x0 x1 x2 x3 x4 x5 x6 r0 r1 hlk; have HG := n1_; have H5 := n2_; clear n1_ n2_; obtain ⟨x0, x1, x2, x3, x4, x5, x6⟩ := cells7 H5.out; obtain ⟨r0, r1, r2, r3⟩ := cells4 HG.out.row
          generalize w6.drewN nq = w7 at *
          go_wp2
          go_still_tail 11, (by kernel_rfl)
          change wpList _ _ _ _ _ w7.drew
          have n1_ := Aside0.mk (HG.out.below (below_drew (Below.refl _ _))); have n2_ := Aside0.mk (H5.out.below (below_drew (Below.refl _ _))); clear HG H5 x0 x1 x2 x3 x4 x5 x6 r0 r1 r2 r3; generalize w7.drew = w8 at *; have HG := n1_; have H5 := n2_; clear n1_ n2_
          obtain ⟨w9, hr9, hm9, hg9⟩ := map_update_new (P := Try.prog) cls_keys Try.underlying140 HG.out.mc (clsI x) (.int .i64 (S.length : Int)) (by rw [numbered_keys]; exact HIN.out)
          replace hr9 : (Instr.mapUpdate 140 (.map (some gc)) (.agg #[.int .u64 x.f2.f0, .int .u64 x.f2.f1, .int .u64 x.f2.f2, .int .u64 x.f2.f3]) (.int .i64 (S.length : Int))).run Try.prog w8 = .ok () w9 := hr9
          refine wpList_mute (w' := w9) rfl (by go_simp) ?_
          have n1_ := Aside0.mk (HG.out.mapC hm9 hg9)
          have n2_ := Aside0.mk (H5.out.grown hg9 (by have := HG5.out; have := HG.out.ge; simp; omega))
          clear HG H5 hm9 hr9 hg9
          have HG := n1_
          have H5 := n2_
          clear n1_ n2_
          go_wp2
          refine wp_region_held_drew (S := fun W => RowAt W g5 78 (insCells x)) (by kernel_rfl) (H5.out.below (below_drew (Below.refl _ _))) (fun hH => ?_)
          have n1_ := Aside0.mk (HG.out.below (below_drew (Below.refl _ _)))
          clear HG H5
          have HG := n1_
          clear n1_
          generalize w9.drew = w5 at *
          refine wpAnyH_take (i := 0) (oi := _) (v := .pointer (some ⟨gt, 0, none⟩)) rfl (by kernel_rfl) (by kernel_rfl) (by kernel_rfl) (fun _ _ _ h => h) (Or.inl ⟨by rfl, fun w hw => by go_simp⟩) hH ?_; simp only [List.getElem_toArray, List.getElem_cons_zero, List.getElem_cons_succ, Act.put, List.setIfInBounds_toArray, List.set_cons_zero, List.set_cons_succ]
          refine wpAnyH_take (i := 1) (oi := _) (v := .pointer (some ⟨gt, 0, none⟩)) rfl (by kernel_rfl) (by kernel_rfl) (by kernel_rfl) (fun _ _ _ h => h) (Or.inl ⟨by rfl, fun w hw => by go_simp⟩) hH ?_; simp only [List.getElem_toArray, List.getElem_cons_zero, List.getElem_cons_succ, Act.put, List.setIfInBounds_toArray, List.set_cons_zero, List.set_cons_succ]
          refine wpAnyH_take (i := 2) (oi := _) (v := .pointer (some ⟨gt, 0, none⟩)) rfl (by kernel_rfl) (by kernel_rfl) (by kernel_rfl) (fun _ _ _ h => h) (Or.inl ⟨by rfl, fun w hw => by go_simp⟩) hH ?_; simp only [List.getElem_toArray, List.getElem_cons_zero, List.getElem_cons_succ, Act.put, List.setIfInBounds_toArray, List.set_cons_zero, List.set_cons_succ]
          refine wpAnyH_take (i := 3) (oi := _) (v := .pointer (some ⟨gt, 2, none⟩)) rfl (by kernel_rfl) (by kernel_rfl) (by kernel_rfl) (fun _ _ _ h => h) (Or.inl ⟨by rfl, fun w hw => by go_simp⟩) hH ?_; simp only [List.getElem_toArray, List.getElem_cons_zero, List.getElem_cons_succ, Act.put, List.setIfInBounds_toArray, List.set_cons_zero, List.set_cons_succ]
          refine wpAnyH_take (i := 5) (oi := _) (v := .pointer (some ⟨g5, 2, none⟩)) rfl (by kernel_rfl) (by kernel_rfl) (by kernel_rfl) (fun _ _ _ h => h) (Or.inl ⟨by rfl, fun w hw => by go_simp⟩) hH ?_; simp only [List.getElem_toArray, List.getElem_cons_zero, List.getElem_cons_succ, Act.put, List.setIfInBounds_toArray, List.set_cons_zero, List.set_cons_succ]
          refine wpAnyH_take (i := 6) (oi := _) (v := .agg #[.int .u64 x.f2.f0, .int .u64 x.f2.f1, .int .u64 x.f2.f2, .int .u64 x.f2.f3]) rfl (by kernel_rfl) (by kernel_rfl) (by kernel_rfl) (fun _ _ _ h => h) (Or.inl ⟨by rfl, fun w hw => by (obtain ⟨x0, x1, x2, x3, x4, x5, x6⟩ := cells7 hw; go_simp)⟩) hH ?_; simp only [List.getElem_toArray, List.getElem_cons_zero, List.getElem_cons_succ, Act.put, List.setIfInBounds_toArray, List.set_cons_zero, List.set_cons_succ]
          refine wpAnyH_ready (rs := [4, 7]) (by kernel_rfl) (by simp) ?_
          refine AllReadyH.cons (o := _) rfl (fun K hK => ?A) (AllReadyH.cons (o := _) rfl (fun K hK => ?B) AllReadyH.nil)
          case' A =>
            refine rstep_value (v := .slice As S.length cs) (w' := w5) (by rfl) (by (obtain ⟨r0, r1, r2, r3⟩ := cells4 HG.out.row; go_simp)) ?_
            refine hK.out _ _ hH (fun _ => ?_); clear hK K; simp only [List.getElem_toArray, List.getElem_cons_zero, List.getElem_cons_succ, Act.put, List.setIfInBounds_toArray, List.set_cons_zero, List.set_cons_succ]
            refine wpAnyH_ready (rs := [7]) (by kernel_rfl) (by simp) ?_; refine AllReadyH.cons (o := _) rfl (fun K hK => ?_) AllReadyH.nil
            refine rstep_value (v := .slice (some ⟨w5.heap.size, 0, none⟩) 1 1) (w' := w5.alloc (.cells #[.int .u64 x.f2.f0, .int .u64 x.f2.f1, .int .u64 x.f2.f2, .int .u64 x.f2.f3] 76 (0, 0))) (by rfl) (by go_simp) ?_
            refine hK.out _ _ (hH.below (below_alloc (Below.refl _ _) _)) (fun _ => ?_)
            clear hK K
            simp only [List.getElem_toArray, List.getElem_cons_zero, List.getElem_cons_succ, Act.put, List.setIfInBounds_toArray, List.set_cons_zero, List.set_cons_succ]
          case' B =>
            refine rstep_value (v := .slice (some ⟨w5.heap.size, 0, none⟩) 1 1) (w' := w5.alloc (.cells #[.int .u64 x.f2.f0, .int .u64 x.f2.f1, .int .u64 x.f2.f2, .int .u64 x.f2.f3] 76 (0, 0))) (by rfl) (by go_simp) ?_
            have hH9 := hH.below (below_alloc (Below.refl w5.heap.size w5) (.cells #[.int .u64 x.f2.f0, .int .u64 x.f2.f1, .int .u64 x.f2.f2, .int .u64 x.f2.f3] 76 (0, 0)))
            refine hK.out _ _ hH9 (fun _ => ?_)
            clear hK K
            simp only [List.getElem_toArray, List.getElem_cons_zero, List.getElem_cons_succ, Act.put, List.setIfInBounds_toArray, List.set_cons_zero, List.set_cons_succ]
            refine wpAnyH_ready (rs := [4]) (by kernel_rfl) (by simp) ?_; refine AllReadyH.cons (o := _) rfl (fun K hK => ?_) AllReadyH.nil
            refine rstep_value (v := .slice As S.length cs) (w' := w5.alloc (.cells #[.int .u64 x.f2.f0, .int .u64 x.f2.f1, .int .u64 x.f2.f2, .int .u64 x.f2.f3] 76 (0, 0))) (by rfl) (by (obtain ⟨r0, r1, r2, r3⟩ := cells4 (HG.out.row.below (below_alloc (Below.refl w5.heap.size w5) (.cells #[.int .u64 x.f2.f0, .int .u64 x.f2.f1, .int .u64 x.f2.f2, .int .u64 x.f2.f3] 76 (0, 0)))); generalize w5.alloc (.cells #[.int .u64 x.f2.f0, .int .u64 x.f2.f1, .int .u64 x.f2.f2, .int .u64 x.f2.f3] 76 (0, 0)) = wz at *; go_simp)) ?_
            refine hK.out _ _ hH9 (fun _ => ?_)
            clear hK K hH9
            simp only [List.getElem_toArray, List.getElem_cons_zero, List.getElem_cons_succ, Act.put, List.setIfInBounds_toArray, List.set_cons_zero, List.set_cons_succ]
          all_goals
            refine wpAnyH_ready (rs := [8]) (by kernel_rfl) (by simp) ?_; refine AllReadyH.cons (o := _) rfl (fun K hK => ?_) AllReadyH.nil
            refine rstep_append w.heap.size (by rfl) (.tmp 52) (.tmp 55) 85 76 (.agg #[.int .u64 0, .int .u64 0, .int .u64 0, .int .u64 0]) 4 32 rfl Try.underlying85 (by kernel_rfl) rfl (by decide) (by decide) (.slice As S.length cs) S.length (S.flatMap clsCells) (clsCells (clsI x)) rfl rfl rfl (by simp [clsCells, Value.oneCell']) HG.out.s HG.out.bel.size (by have := HSL.out; omega) ?_
            intro v5 w8 hown hgr hat
            have n1_ := Aside0.mk (HG.out.addS hown hgr hat)
            have h5 := hH.grown hgr (fun e => HG5.out.2.1 e.symm)
            obtain ⟨A5, c5, rfl⟩ := own_len hown
            clear HG hown hgr hat hH
            have HG := n1_
            have hH := h5
            clear n1_ h5
            refine hK.out _ _ hH (fun _ => ?_); clear hK K; simp only [List.getElem_toArray, List.getElem_cons_zero, List.getElem_cons_succ, Act.put, List.setIfInBounds_toArray, List.set_cons_zero, List.set_cons_succ]
            refine wpAnyH_take (i := 9) (oi := _) (v := .pointer (some ⟨gt, 0, none⟩)) rfl (by kernel_rfl) (by kernel_rfl) (by kernel_rfl) (fun _ _ _ h => h) (Or.inl ⟨by rfl, fun w hw => by go_simp⟩) hH ?_; simp only [List.getElem_toArray, List.getElem_cons_zero, List.getElem_cons_succ, Act.put, List.setIfInBounds_toArray, List.set_cons_zero, List.set_cons_succ]
            refine wpAnyH_take (i := 10) (oi := _) (v := .pointer (some ⟨gt, 2, none⟩)) rfl (by kernel_rfl) (by kernel_rfl) (by kernel_rfl) (fun _ _ _ h => h) (Or.inl ⟨by rfl, fun w hw => by go_simp⟩) hH ?_; simp only [List.getElem_toArray, List.getElem_cons_zero, List.getElem_cons_succ, Act.put, List.setIfInBounds_toArray, List.set_cons_zero, List.set_cons_succ]
            refine wpAnyH_ready (rs := [11]) (by kernel_rfl) (by simp) ?_; refine AllReadyH.cons (o := _) rfl (fun K hK => ?_) AllReadyH.nil
            refine rstep_store (by rfl) 85 (.tmp 58) (.tmp 56) rfl (g := gt) (off := 2) (u := .slice A5 (S.length + 1) c5) (seg := [.slice A5 (S.length + 1) c5]) rfl rfl HG.out.row rfl (by kernel_rfl) (by simp) (by simp [Value.oneCell']) ?_
            intro w10 hrow hgr
            have n1_ := Aside0.mk (HG.out.put hrow hgr)
            have h5 := hH.grown hgr (by have := HG5.out; simp; omega)
            clear HG hrow hgr hH
            have HG := n1_
            have hH := h5
            clear n1_ h5
            refine hK.out _ _ hH (fun _ => ?_); clear hK K; simp only [List.getElem_toArray, List.getElem_cons_zero, List.getElem_cons_succ, Act.put, List.setIfInBounds_toArray, List.set_cons_zero, List.set_cons_succ]
            refine wpAnyH_done (by kernel_rfl) ?_ _
            clear hH
            go_wp2
            go_roundw
            case measure => have h2 := of_eq_true q0; have h3 := of_eq_true p0; show l.length - (i + 1).toNat < l.length - i.toNat; omega
            case rel => exact ⟨i + 1, _, vt, rfl, ⟨by have := HI.out; have := of_eq_true q0; omega⟩, by rw [HSC.out, HSN.out, addC, addN, HK.out, if_pos rfl, once, if_neg HIN.out]; exact ⟨by have h := HG.out; rw [← numbered_snoc, ← List.length_singleton (a := clsI x)] at h; exact h⟩⟩
      · have HK := Aside0.mk k
        clear k
        go_wp2_with (first
          | ((with_reducible refine gate_dst (N := 5) rfl ?_); refine box_event (N := 5) rfl rfl (cs := #[.int .i64 0, .int .i64 0, .int .u64 0, .int .u64 0, .int .u64 0, .int .u64 0, .string (⟨#[]⟩ : ByteArray)]) (t := 78) ?hr2 ?_; (case hr2 => first | (go_simp; done) | (go_simp; rfl)); intro g5 hg5 w3 hbox hb1; have H5 := Aside0.mk (show RowAt w3 g5 78 (insCells zIns) from ⟨_, hbox, rfl⟩); have HG5 := Aside0.mk (show gt < g5 ∧ vs.ownBlock ≠ some g5 ∧ vt.ownBlock ≠ some g5 from new_off HG.out hg5); have n1_ := Aside0.mk (HG.out.below hb1); clear HG hbox hb1 hg5 x0 x1 x2 x3 x4 x5 x6; have HG := n1_; clear n1_)
          | ((with_reducible refine gate_store (t := 78) (p := 5) rfl ?_); refine put_event rfl rfl 78 (.tmp 5) (.tmp 19) rfl (off := 0) (u := .agg #[.int .i64 x.f0, .int .i64 x.f1, .int .u64 x.f2.f0, .int .u64 x.f2.f1, .int .u64 x.f2.f2, .int .u64 x.f2.f3, .string x.f3]) (seg := insCells x) rfl rfl H5.out rfl (by kernel_rfl) (by simp [insCells]) (by simp [insCells, Value.oneCell']) ?_; intro w4 hrow hgr; have n1_ := Aside0.mk (HG.out.other hgr HG5.out.1 HG5.out.2.1 HG5.out.2.2); clear HG H5 hgr; have HG := n1_; clear n1_; have H5 := Aside0.mk (show RowAt w4 g5 78 (insCells x) from hrow); clear hrow; obtain ⟨x0, x1, x2, x3, x4, x5, x6⟩ := cells7 H5.out)
          | (go_at_call 99; refine (operand_lit _ 3 HK.out _).mono ?_; rintro r w6 ⟨rfl, hb⟩; have n1_ := Aside0.mk (HG.out.below hb); have n2_ := Aside0.mk (H5.out.below hb); clear HG H5 hb x0 x1 x2 x3 x4 x5 x6; have HG := n1_; have H5 := n2_; clear n1_ n2_))
        obtain ⟨x0, x1, x2, x3, x4, x5, x6⟩ := cells7 H5.out
        obtain ⟨r0, r1, r2, r3⟩ := cells4 HG.out.row
        by_cases hin : x.f3 ∈ T
        · have hlk : ∀ n, (Instr.lookup 94 (.map (some gn)) (.string x.f3) true).run Try.prog (w6.drewN n) = .ok (.tuple #[.int .i64 (placeOf T x.f3 : Int), .bool true]) (w6.drewN n) := fun n => name_old hin true _ (HG.out.drewN n).mn
          have HIN := Aside0.mk hin
          clear hin
          go_quiet (fail)
          have n1_ := Aside0.mk (HG.out.drewN nq); have n2_ := Aside0.mk (H5.out.below (pw_below_drewN (Below.refl _ _) nq)); clear HG H5 x0 x1 x2 x3 x4 x5 x6 r0 r1 hlk; have HG := n1_; have H5 := n2_; clear n1_ n2_; obtain ⟨x0, x1, x2, x3, x4, x5, x6⟩ := cells7 H5.out; obtain ⟨r0, r1, r2, r3⟩ := cells4 HG.out.row
          go_wp2
          go_roundw
          case measure => have h2 := of_eq_true q0; have h3 := of_eq_true p0; show l.length - (i + 1).toNat < l.length - i.toNat; omega
          case rel => exact ⟨i + 1, vs, vt, rfl, ⟨by have := HI.out; have := of_eq_true q0; omega⟩, by rw [HSC.out, HSN.out, addC, addN, HK.out, if_neg (by decide), if_pos rfl, once, if_pos HIN.out]; exact HG⟩
        · have hlk : ∀ n, (Instr.lookup 94 (.map (some gn)) (.string x.f3) true).run Try.prog (w6.drewN n) = .ok (.tuple #[.int .i64 0, .bool false]) (w6.drewN n) := fun n => name_new hin _ (HG.out.drewN n).mn
          have HIN := Aside0.mk hin
          obtain ⟨As, cs, rfl⟩ := own_len HG.out.t
          clear hin
          go_quiet (fail)
          have n1_ := Aside0.mk (HG.out.drewN nq); have n2_ := Aside0.mk (H5.out.below (pw_below_drewN (Below.refl _ _) nq)); clear HG H5 x0 x1 x2 x3 x4 x5 x6 r0 r1 hlk; have HG := n1_; have H5 := n2_; clear n1_ n2_; obtain ⟨x0, x1, x2, x3, x4, x5, x6⟩ := cells7 H5.out; obtain ⟨r0, r1, r2, r3⟩ := cells4 HG.out.row
          generalize w6.drewN nq = w7 at *
          go_wp2
          go_still_tail 11, (by kernel_rfl)
          change wpList _ _ _ _ _ w7.drew
          have n1_ := Aside0.mk (HG.out.below (below_drew (Below.refl _ _))); have n2_ := Aside0.mk (H5.out.below (below_drew (Below.refl _ _))); clear HG H5 x0 x1 x2 x3 x4 x5 x6 r0 r1 r2 r3; generalize w7.drew = w8 at *; have HG := n1_; have H5 := n2_; clear n1_ n2_
          obtain ⟨w9, hr9, hm9, hg9⟩ := map_update_new (P := Try.prog) str_keys Try.underlying94 HG.out.mn x.f3 (.int .i64 (T.length : Int)) (by rw [numbered_keys]; exact HIN.out)
          replace hr9 : (Instr.mapUpdate 94 (.map (some gn)) (.string x.f3) (.int .i64 (T.length : Int))).run Try.prog w8 = .ok () w9 := hr9
          refine wpList_mute (w' := w9) rfl (by go_simp) ?_
          have n1_ := Aside0.mk (HG.out.mapN hm9 hg9)
          have n2_ := Aside0.mk (H5.out.grown hg9 (by have := HG5.out; have := HG.out.ge; simp; omega))
          clear HG H5 hm9 hr9 hg9
          have HG := n1_
          have H5 := n2_
          clear n1_ n2_
          go_wp2
          refine wp_region_held_drew (S := fun W => RowAt W g5 78 (insCells x)) (by kernel_rfl) (H5.out.below (below_drew (Below.refl _ _))) (fun hH => ?_)
          have n1_ := Aside0.mk (HG.out.below (below_drew (Below.refl _ _)))
          clear HG H5
          have HG := n1_
          clear n1_
          generalize w9.drew = w5 at *
          refine wpAnyH_take (i := 0) (oi := _) (v := .pointer (some ⟨gt, 0, none⟩)) rfl (by kernel_rfl) (by kernel_rfl) (by kernel_rfl) (fun _ _ _ h => h) (Or.inl ⟨by rfl, fun w hw => by go_simp⟩) hH ?_; simp only [List.getElem_toArray, List.getElem_cons_zero, List.getElem_cons_succ, Act.put, List.setIfInBounds_toArray, List.set_cons_zero, List.set_cons_succ]
          refine wpAnyH_take (i := 1) (oi := _) (v := .pointer (some ⟨gt, 0, none⟩)) rfl (by kernel_rfl) (by kernel_rfl) (by kernel_rfl) (fun _ _ _ h => h) (Or.inl ⟨by rfl, fun w hw => by go_simp⟩) hH ?_; simp only [List.getElem_toArray, List.getElem_cons_zero, List.getElem_cons_succ, Act.put, List.setIfInBounds_toArray, List.set_cons_zero, List.set_cons_succ]
          refine wpAnyH_take (i := 2) (oi := _) (v := .pointer (some ⟨gt, 0, none⟩)) rfl (by kernel_rfl) (by kernel_rfl) (by kernel_rfl) (fun _ _ _ h => h) (Or.inl ⟨by rfl, fun w hw => by go_simp⟩) hH ?_; simp only [List.getElem_toArray, List.getElem_cons_zero, List.getElem_cons_succ, Act.put, List.setIfInBounds_toArray, List.set_cons_zero, List.set_cons_succ]
          refine wpAnyH_take (i := 3) (oi := _) (v := .pointer (some ⟨gt, 3, none⟩)) rfl (by kernel_rfl) (by kernel_rfl) (by kernel_rfl) (fun _ _ _ h => h) (Or.inl ⟨by rfl, fun w hw => by go_simp⟩) hH ?_; simp only [List.getElem_toArray, List.getElem_cons_zero, List.getElem_cons_succ, Act.put, List.setIfInBounds_toArray, List.set_cons_zero, List.set_cons_succ]
          refine wpAnyH_take (i := 5) (oi := _) (v := .pointer (some ⟨g5, 6, none⟩)) rfl (by kernel_rfl) (by kernel_rfl) (by kernel_rfl) (fun _ _ _ h => h) (Or.inl ⟨by rfl, fun w hw => by go_simp⟩) hH ?_; simp only [List.getElem_toArray, List.getElem_cons_zero, List.getElem_cons_succ, Act.put, List.setIfInBounds_toArray, List.set_cons_zero, List.set_cons_succ]
          refine wpAnyH_take (i := 6) (oi := _) (v := .string x.f3) rfl (by kernel_rfl) (by kernel_rfl) (by kernel_rfl) (fun _ _ _ h => h) (Or.inl ⟨by rfl, fun w hw => by (obtain ⟨x0, x1, x2, x3, x4, x5, x6⟩ := cells7 hw; go_simp)⟩) hH ?_; simp only [List.getElem_toArray, List.getElem_cons_zero, List.getElem_cons_succ, Act.put, List.setIfInBounds_toArray, List.set_cons_zero, List.set_cons_succ]
          refine wpAnyH_ready (rs := [4, 7]) (by kernel_rfl) (by simp) ?_
          refine AllReadyH.cons (o := _) rfl (fun K hK => ?AA) (AllReadyH.cons (o := _) rfl (fun K hK => ?BB) AllReadyH.nil)
          case' AA =>
            refine rstep_value (v := .slice As T.length cs) (w' := w5) (by rfl) (by (obtain ⟨r0, r1, r2, r3⟩ := cells4 HG.out.row; go_simp)) ?_
            refine hK.out _ _ hH (fun _ => ?_); clear hK K; simp only [List.getElem_toArray, List.getElem_cons_zero, List.getElem_cons_succ, Act.put, List.setIfInBounds_toArray, List.set_cons_zero, List.set_cons_succ]
            refine wpAnyH_ready (rs := [7]) (by kernel_rfl) (by simp) ?_; refine AllReadyH.cons (o := _) rfl (fun K hK => ?_) AllReadyH.nil
            refine rstep_value (v := .slice (some ⟨w5.heap.size, 0, none⟩) 1 1) (w' := w5.alloc (.cells #[.string x.f3] 9 (0, 0))) (by rfl) (by go_simp) ?_
            refine hK.out _ _ (hH.below (below_alloc (Below.refl _ _) _)) (fun _ => ?_)
            clear hK K
            simp only [List.getElem_toArray, List.getElem_cons_zero, List.getElem_cons_succ, Act.put, List.setIfInBounds_toArray, List.set_cons_zero, List.set_cons_succ]
          case' BB =>
            refine rstep_value (v := .slice (some ⟨w5.heap.size, 0, none⟩) 1 1) (w' := w5.alloc (.cells #[.string x.f3] 9 (0, 0))) (by rfl) (by go_simp) ?_
            have hH9 := hH.below (below_alloc (Below.refl w5.heap.size w5) (.cells #[.string x.f3] 9 (0, 0)))
            refine hK.out _ _ hH9 (fun _ => ?_)
            clear hK K
            simp only [List.getElem_toArray, List.getElem_cons_zero, List.getElem_cons_succ, Act.put, List.setIfInBounds_toArray, List.set_cons_zero, List.set_cons_succ]
            refine wpAnyH_ready (rs := [4]) (by kernel_rfl) (by simp) ?_; refine AllReadyH.cons (o := _) rfl (fun K hK => ?_) AllReadyH.nil
            refine rstep_value (v := .slice As T.length cs) (w' := w5.alloc (.cells #[.string x.f3] 9 (0, 0))) (by rfl) (by (obtain ⟨r0, r1, r2, r3⟩ := cells4 (HG.out.row.below (below_alloc (Below.refl w5.heap.size w5) (.cells #[.string x.f3] 9 (0, 0)))); generalize w5.alloc (.cells #[.string x.f3] 9 (0, 0)) = wz at *; go_simp)) ?_
            refine hK.out _ _ hH9 (fun _ => ?_)
            clear hK K hH9
            simp only [List.getElem_toArray, List.getElem_cons_zero, List.getElem_cons_succ, Act.put, List.setIfInBounds_toArray, List.set_cons_zero, List.set_cons_succ]
          all_goals
            refine wpAnyH_ready (rs := [8]) (by kernel_rfl) (by simp) ?_; refine AllReadyH.cons (o := _) rfl (fun K hK => ?_) AllReadyH.nil
            refine rstep_append w.heap.size (by rfl) (.tmp 88) (.tmp 91) 86 9 (.string (⟨#[]⟩ : ByteArray)) 1 16 rfl Try.underlying86 (by kernel_rfl) rfl (by decide) (by decide) (.slice As T.length cs) T.length (T.map Value.string) [.string x.f3] rfl rfl rfl (by simp [Value.oneCell']) HG.out.t HG.out.bel.size (by have := HSL.out; omega) ?_
            intro v5 w8 hown hgr hat
            have n1_ := Aside0.mk (HG.out.addT hown hgr hat)
            have h5 := hH.grown hgr (fun e => HG5.out.2.2 e.symm)
            obtain ⟨A5, c5, rfl⟩ := own_len hown
            clear HG hown hgr hat hH
            have HG := n1_
            have hH := h5
            clear n1_ h5
            refine hK.out _ _ hH (fun _ => ?_); clear hK K; simp only [List.getElem_toArray, List.getElem_cons_zero, List.getElem_cons_succ, Act.put, List.setIfInBounds_toArray, List.set_cons_zero, List.set_cons_succ]
            refine wpAnyH_take (i := 9) (oi := _) (v := .pointer (some ⟨gt, 0, none⟩)) rfl (by kernel_rfl) (by kernel_rfl) (by kernel_rfl) (fun _ _ _ h => h) (Or.inl ⟨by rfl, fun w hw => by go_simp⟩) hH ?_; simp only [List.getElem_toArray, List.getElem_cons_zero, List.getElem_cons_succ, Act.put, List.setIfInBounds_toArray, List.set_cons_zero, List.set_cons_succ]
            refine wpAnyH_take (i := 10) (oi := _) (v := .pointer (some ⟨gt, 3, none⟩)) rfl (by kernel_rfl) (by kernel_rfl) (by kernel_rfl) (fun _ _ _ h => h) (Or.inl ⟨by rfl, fun w hw => by go_simp⟩) hH ?_; simp only [List.getElem_toArray, List.getElem_cons_zero, List.getElem_cons_succ, Act.put, List.setIfInBounds_toArray, List.set_cons_zero, List.set_cons_succ]
            refine wpAnyH_ready (rs := [11]) (by kernel_rfl) (by simp) ?_; refine AllReadyH.cons (o := _) rfl (fun K hK => ?_) AllReadyH.nil
            refine rstep_store (by rfl) 86 (.tmp 94) (.tmp 92) rfl (g := gt) (off := 3) (u := .slice A5 (T.length + 1) c5) (seg := [.slice A5 (T.length + 1) c5]) rfl rfl HG.out.row rfl (by kernel_rfl) (by simp) (by simp [Value.oneCell']) ?_
            intro w10 hrow hgr
            have n1_ := Aside0.mk (HG.out.put hrow hgr)
            have h5 := hH.grown hgr (by have := HG5.out; simp; omega)
            clear HG hrow hgr hH
            have HG := n1_
            have hH := h5
            clear n1_ h5
            refine hK.out _ _ hH (fun _ => ?_); clear hK K; simp only [List.getElem_toArray, List.getElem_cons_zero, List.getElem_cons_succ, Act.put, List.setIfInBounds_toArray, List.set_cons_zero, List.set_cons_succ]
            refine wpAnyH_done (by kernel_rfl) ?_ _
            clear hH
            go_wp2
            go_roundw
            case measure => have h2 := of_eq_true q0; have h3 := of_eq_true p0; show l.length - (i + 1).toNat < l.length - i.toNat; omega
            case rel => exact ⟨i + 1, vs, _, rfl, ⟨by have := HI.out; have := of_eq_true q0; omega⟩, by rw [HSC.out, HSN.out, addC, addN, HK.out, if_neg (by decide), if_pos rfl, once, if_neg HIN.out]; exact ⟨by have h := HG.out; rw [← numbered_snoc, ← List.length_singleton (a := x.f3)] at h; exact h⟩⟩
    · have k2 : decide (i < (l.length : Int)) = false := decide_eq_false c2
      go_wp2
      go_ret
      refine ⟨gt, rfl, gc, gn, vs, vt, ?_⟩
      have := HG.out
      rwa [List.take_of_length_le (by have := HI.out; omega)] at this
end
end Go.Proofs.Ytebiogaacikphaa.Pack
end
section
namespace Go.Proofs.Ytebiogaacikphaa.Pack
open Go.RowKit Go.Proofs.YtebiogaacikphaaW.PrintWords Go.Proofs.Ytebiogaacikphaa.PAll Go.Proofs.Ytebiogaacikphaa.Names
set_option linter.unusedVariables false
set_option linter.unusedSimpArgs false
set_option linter.unnecessarySimpa false
theorem place_lt {α : Type} [DecidableEq α] {L : List α} {x : α} (h : x ∈ L) : placeOf L x < L.length := List.idxOf_lt_length_of_mem h
section
variable (w0 W : World) (gt gc gn : Nat) (vs vt : Value) (S : List Four) (T : List ByteArray) (i : Nat) (x : Ins)
set_option maxHeartbeats 4000000 in
set_option maxRecDepth 100000 in
theorem number_calls (hg : Tabs w0 W gt gc gn vs vt S T) (hi : i ≤ 65536) (h1 : kindOf x.f0 = 1 → 0 ≤ x.f1 ∧ x.f1 ≤ 65536) (h2 : kindOf x.f0 = 2 → clsI x ∈ S) (h3 : kindOf x.f0 = 3 → x.f3 ∈ T) (hS : S.length ≤ 65536) (hT : T.length ≤ 65536) :
    Calls Try.prog 75 #[.pointer (some ⟨gt, 0, none⟩), .int .i64 i, .agg #[.int .i64 x.f0, .int .i64 x.f1, .int .u64 x.f2.f0, .int .u64 x.f2.f1, .int .u64 x.f2.f2, .int .u64 x.f2.f3, .string x.f3]] W fun e W' => e = .returned (.int .u64 (operN i x S T : Int)) ∧ Below W.heap.size W W' := by
  have HG := Aside0.mk hg
  clear hg
  rcases kind4 x.f0 with k | k | k | k
  · have HK := Aside0.mk k
    have hop : operN i x S T = 0 := by rw [operN, if_neg (by omega), if_neg (by omega), if_neg (by omega)]
    rw [hop]
    clear k hop h1 h2 h3
    go_enter Try.func75, Try.ntmps75
    go_wp2_with (first
      | ((with_reducible refine gate_dst (N := 5) rfl ?_); refine box_event (N := 5) rfl rfl (cs := #[.int .i64 x.f0, .int .i64 x.f1, .int .u64 x.f2.f0, .int .u64 x.f2.f1, .int .u64 x.f2.f2, .int .u64 x.f2.f3, .string x.f3]) (t := 78) ?hr2 ?_; (case hr2 => first | (go_simp; done) | (go_simp; rfl)); intro g5 hg5 w3 hbox hb1; have H5 := Aside0.mk (show RowAt w3 g5 78 (insCells x) from ⟨_, hbox, rfl⟩); have HB := Aside0.mk hb1; have n1_ := Aside0.mk (HG.out.below hb1); clear HG hbox hb1 hg5; have HG := n1_; clear n1_; obtain ⟨x0, x1, x2, x3, x4, x5, x6⟩ := cells7 H5.out)
      | (go_at_call 99; refine (operand_lit _ 0 HK.out _).mono ?_; rintro r w6 ⟨rfl, hb⟩; have n1_ := Aside0.mk (HG.out.below hb); have n2_ := Aside0.mk (H5.out.below hb); have n3_ := Aside0.mk (below_step HB.out hb); clear HG H5 HB hb x0 x1 x2 x3 x4 x5 x6; have HG := n1_; have H5 := n2_; have HB := n3_; clear n1_ n2_ n3_; obtain ⟨x0, x1, x2, x3, x4, x5, x6⟩ := cells7 H5.out))
    go_ret
    exact ⟨rfl, HB.out⟩
  · have HK := Aside0.mk k
    have hop : operN i x S T = farN i x.f1 := by rw [operN, if_pos k]
    rw [hop]
    have hr := h1 k
    clear k hop h1 h2 h3
    have w1 : IntKind.i64.wrap (x.f1 - (i : Int)) = x.f1 - (i : Int) := IntWalk.i64_in _ (by omega)
    by_cases c : x.f1 - (i : Int) < 0
    · have b1 : decide (x.f1 - (i : Int) < 0) = true := decide_eq_true c
      have w2 : IntKind.i64.wrap (-2 * (x.f1 - (i : Int))) = -2 * (x.f1 - (i : Int)) := IntWalk.i64_in _ (by omega)
      have w3 : IntKind.i64.wrap (-2 * (x.f1 - (i : Int)) - 1) = -2 * (x.f1 - (i : Int)) - 1 := IntWalk.i64_in _ (by omega)
      have w4 : IntKind.u64.wrap (-2 * (x.f1 - (i : Int)) - 1) = -2 * (x.f1 - (i : Int)) - 1 := Bits.wrap_u64 _ (by omega) (by omega)
      have w5 : ((farN i x.f1 : Nat) : Int) = -2 * (x.f1 - (i : Int)) - 1 := by rw [farN, if_pos c]; omega
      rw [w5]
      clear c w5
      go_enter Try.func75, Try.ntmps75
      go_wp2_with (first
        | ((with_reducible refine gate_dst (N := 5) rfl ?_); refine box_event (N := 5) rfl rfl (cs := #[.int .i64 x.f0, .int .i64 x.f1, .int .u64 x.f2.f0, .int .u64 x.f2.f1, .int .u64 x.f2.f2, .int .u64 x.f2.f3, .string x.f3]) (t := 78) ?hr2 ?_; (case hr2 => first | (go_simp; done) | (go_simp; rfl)); intro g5 hg5 w3 hbox hb1; have H5 := Aside0.mk (show RowAt w3 g5 78 (insCells x) from ⟨_, hbox, rfl⟩); have HB := Aside0.mk hb1; have n1_ := Aside0.mk (HG.out.below hb1); clear HG hbox hb1 hg5; have HG := n1_; clear n1_; obtain ⟨x0, x1, x2, x3, x4, x5, x6⟩ := cells7 H5.out)
        | (go_at_call 99; refine (operand_lit _ 1 HK.out _).mono ?_; rintro r w6 ⟨rfl, hb⟩; have n1_ := Aside0.mk (HG.out.below hb); have n2_ := Aside0.mk (H5.out.below hb); have n3_ := Aside0.mk (below_step HB.out hb); clear HG H5 HB hb x0 x1 x2 x3 x4 x5 x6; have HG := n1_; have H5 := n2_; have HB := n3_; clear n1_ n2_ n3_; obtain ⟨x0, x1, x2, x3, x4, x5, x6⟩ := cells7 H5.out))
      go_ret
      exact ⟨rfl, HB.out⟩
    · have b1 : decide (x.f1 - (i : Int) < 0) = false := decide_eq_false c
      have w2 : IntKind.i64.wrap (2 * (x.f1 - (i : Int))) = 2 * (x.f1 - (i : Int)) := IntWalk.i64_in _ (by omega)
      have w4 : IntKind.u64.wrap (2 * (x.f1 - (i : Int))) = 2 * (x.f1 - (i : Int)) := Bits.wrap_u64 _ (by omega) (by omega)
      have w5 : ((farN i x.f1 : Nat) : Int) = 2 * (x.f1 - (i : Int)) := by rw [farN, if_neg c]; omega
      rw [w5]
      clear c w5
      go_enter Try.func75, Try.ntmps75
      go_wp2_with (first
        | ((with_reducible refine gate_dst (N := 5) rfl ?_); refine box_event (N := 5) rfl rfl (cs := #[.int .i64 x.f0, .int .i64 x.f1, .int .u64 x.f2.f0, .int .u64 x.f2.f1, .int .u64 x.f2.f2, .int .u64 x.f2.f3, .string x.f3]) (t := 78) ?hr2 ?_; (case hr2 => first | (go_simp; done) | (go_simp; rfl)); intro g5 hg5 w3 hbox hb1; have H5 := Aside0.mk (show RowAt w3 g5 78 (insCells x) from ⟨_, hbox, rfl⟩); have HB := Aside0.mk hb1; have n1_ := Aside0.mk (HG.out.below hb1); clear HG hbox hb1 hg5; have HG := n1_; clear n1_; obtain ⟨x0, x1, x2, x3, x4, x5, x6⟩ := cells7 H5.out)
        | (go_at_call 99; refine (operand_lit _ 1 HK.out _).mono ?_; rintro r w6 ⟨rfl, hb⟩; have n1_ := Aside0.mk (HG.out.below hb); have n2_ := Aside0.mk (H5.out.below hb); have n3_ := Aside0.mk (below_step HB.out hb); clear HG H5 HB hb x0 x1 x2 x3 x4 x5 x6; have HG := n1_; have H5 := n2_; have HB := n3_; clear n1_ n2_ n3_; obtain ⟨x0, x1, x2, x3, x4, x5, x6⟩ := cells7 H5.out))
      go_ret
      exact ⟨rfl, HB.out⟩
  · have HK := Aside0.mk k
    have hop : operN i x S T = placeOf S (clsI x) := by rw [operN, if_neg (by omega), if_pos k]
    rw [hop]
    have hin := Aside0.mk (h2 k)
    clear k hop h1 h2 h3
    have w1 : IntKind.u64.wrap (placeOf S (clsI x) : Int) = (placeOf S (clsI x) : Int) := Bits.wrap_u64 _ (by omega) (by have := place_lt hin.out; omega)
    go_enter Try.func75, Try.ntmps75
    go_wp2_with (first
      | ((with_reducible refine gate_dst (N := 5) rfl ?_); refine box_event (N := 5) rfl rfl (cs := #[.int .i64 x.f0, .int .i64 x.f1, .int .u64 x.f2.f0, .int .u64 x.f2.f1, .int .u64 x.f2.f2, .int .u64 x.f2.f3, .string x.f3]) (t := 78) ?hr2 ?_; (case hr2 => first | (go_simp; done) | (go_simp; rfl)); intro g5 hg5 w3 hbox hb1; have H5 := Aside0.mk (show RowAt w3 g5 78 (insCells x) from ⟨_, hbox, rfl⟩); have HB := Aside0.mk hb1; have n1_ := Aside0.mk (HG.out.below hb1); clear HG hbox hb1 hg5; have HG := n1_; clear n1_; obtain ⟨x0, x1, x2, x3, x4, x5, x6⟩ := cells7 H5.out)
      | (go_at_call 99; refine (operand_lit _ 2 HK.out _).mono ?_; rintro r w6 ⟨rfl, hb⟩; have n1_ := Aside0.mk (HG.out.below hb); have n2_ := Aside0.mk (H5.out.below hb); have n3_ := Aside0.mk (below_step HB.out hb); clear HG H5 HB hb x0 x1 x2 x3 x4 x5 x6; have HG := n1_; have H5 := n2_; have HB := n3_; clear n1_ n2_ n3_; obtain ⟨x0, x1, x2, x3, x4, x5, x6⟩ := cells7 H5.out))
    obtain ⟨r0, r1, r2, r3⟩ := cells4 HG.out.row
    have hlk : ∀ n, (Instr.lookup 140 (.map (some gc)) (.agg #[.int .u64 x.f2.f0, .int .u64 x.f2.f1, .int .u64 x.f2.f2, .int .u64 x.f2.f3]) false).run Try.prog (w6.drewN n) = .ok (.int .i64 (placeOf S (clsI x) : Int)) (w6.drewN n) := fun n => class_old hin.out false _ (HG.out.drewN n).mc
    go_quiet (fail)
    go_wp2
    go_ret
    exact ⟨rfl, pw_below_drewN HB.out nq⟩
  · have HK := Aside0.mk k
    have hop : operN i x S T = placeOf T x.f3 := by rw [operN, if_neg (by omega), if_neg (by omega), if_pos k]
    rw [hop]
    have hin := Aside0.mk (h3 k)
    clear k hop h1 h2 h3
    have w1 : IntKind.u64.wrap (placeOf T x.f3 : Int) = (placeOf T x.f3 : Int) := Bits.wrap_u64 _ (by omega) (by have := place_lt hin.out; omega)
    go_enter Try.func75, Try.ntmps75
    go_wp2_with (first
      | ((with_reducible refine gate_dst (N := 5) rfl ?_); refine box_event (N := 5) rfl rfl (cs := #[.int .i64 x.f0, .int .i64 x.f1, .int .u64 x.f2.f0, .int .u64 x.f2.f1, .int .u64 x.f2.f2, .int .u64 x.f2.f3, .string x.f3]) (t := 78) ?hr2 ?_; (case hr2 => first | (go_simp; done) | (go_simp; rfl)); intro g5 hg5 w3 hbox hb1; have H5 := Aside0.mk (show RowAt w3 g5 78 (insCells x) from ⟨_, hbox, rfl⟩); have HB := Aside0.mk hb1; have n1_ := Aside0.mk (HG.out.below hb1); clear HG hbox hb1 hg5; have HG := n1_; clear n1_; obtain ⟨x0, x1, x2, x3, x4, x5, x6⟩ := cells7 H5.out)
      | (go_at_call 99; refine (operand_lit _ 3 HK.out _).mono ?_; rintro r w6 ⟨rfl, hb⟩; have n1_ := Aside0.mk (HG.out.below hb); have n2_ := Aside0.mk (H5.out.below hb); have n3_ := Aside0.mk (below_step HB.out hb); clear HG H5 HB hb x0 x1 x2 x3 x4 x5 x6; have HG := n1_; have H5 := n2_; have HB := n3_; clear n1_ n2_ n3_; obtain ⟨x0, x1, x2, x3, x4, x5, x6⟩ := cells7 H5.out))
    obtain ⟨r0, r1, r2, r3⟩ := cells4 HG.out.row
    have hlk : ∀ n, (Instr.lookup 94 (.map (some gn)) (.string x.f3) false).run Try.prog (w6.drewN n) = .ok (.int .i64 (placeOf T x.f3 : Int)) (w6.drewN n) := fun n => name_old hin.out false _ (HG.out.drewN n).mn
    go_quiet (fail)
    go_wp2
    go_ret
    exact ⟨rfl, pw_below_drewN HB.out nq⟩
end
end Go.Proofs.Ytebiogaacikphaa.Pack
end
section
namespace Go.Proofs.Ytebiogaacikphaa.Pack
open Go.RowKit Go.Proofs.YtebiogaacikphaaW.PrintWords Go.Proofs.Ytebiogaacikphaa.PAll Go.Proofs.Ytebiogaacikphaa.Names
set_option linter.unusedVariables false
theorem idx_uniq {α : Type} [DecidableEq α] {L : List α} (h : L.Nodup) {n : Nat} {x : α} (hx : L[n]? = some x) : placeOf L x = n := by
  obtain ⟨hn, rfl⟩ := List.getElem?_eq_some_iff.1 hx
  exact h.idxOf_getElem n hn
end Go.Proofs.Ytebiogaacikphaa.Pack
end
section
namespace Go.Proofs.Ytebiogaacikphaa.Pack
open Go.RowKit Go.Proofs.YtebiogaacikphaaW.PrintWords Go.Proofs.Ytebiogaacikphaa.PAll Go.Proofs.Ytebiogaacikphaa.Names
set_option linter.unusedVariables false
set_option linter.unusedSimpArgs false
set_option maxRecDepth 10000 in
theorem or_128 (x : Nat) : Go.bits .or .u8 ((x : Int) % 256) 128 = (((x % 128 : Nat) : Int) + 128) := by
  have key : ∀ y : Fin 256, y.val ||| 128 = y.val % 128 + 128 := by decide
  have h : ((x : Int) % 256) = ((x % 256 : Nat) : Int) := by omega
  rw [h]
  have hb := Bits.bits_or .u8 rfl (x % 256) 128 (by show _ < 2 ^ 8; omega) (by decide)
  have hk := key ⟨x % 256, by omega⟩
  simp only at hk
  rw [hk] at hb
  rw [show (128 : Int) = ((128 : Nat) : Int) from rfl, hb]
  omega
theorem counts_in (R : List Int) (l : List Int) : ∀ (m n : Nat), n ≤ m → ∀ (b : List Int), b.length + n < 140737488355328 → Ev (fun k => pack_counts.l0 k (b ++ cntE n) l 1 1) R → Ev (fun k => pack_counts.l1 k b (n : Int) l 1 0) R := by
  intro m
  induction m with
  | zero =>
    intro n hn b hb hr
    obtain rfl : n = 0 := by omega
    refine Ev.step (fun _ => by rw [pack_counts.l1]) ?_
    refine Ev.neg (by omega) (Ev.pos (by omega) ?_)
    rw [cntE, dif_pos (by omega)] at hr
    rw [show wrap64 (0 + 1) = 1 from (w64 (by decide) (by decide)), show (((0 : Nat) : Int) % 256) = ((0 : Nat) : Int) by decide]
    exact hr
  | succ m ih =>
    intro n hn b hb hr
    refine Ev.step (fun _ => by rw [pack_counts.l1]) ?_
    rw [cntE] at hr
    by_cases c : n < 128
    · rw [dif_pos c] at hr
      refine Ev.neg (by omega) (Ev.pos (by omega) ?_)
      rw [show ((n : Int) % 256) = (n : Int) by omega, show wrap64 (0 + 1) = 1 from (w64 (by decide) (by decide))]
      exact hr
    · rw [dif_neg c] at hr
      refine Ev.pos (by omega) (Ev.pos (by omega) ?_)
      rw [or_128, show ((n : Int) / 128) = ((n / 128 : Nat) : Int) by omega]
      refine ih (n / 128) (by omega) _ (by rw [List.length_append, List.length_singleton]; omega) ?_
      rw [List.append_assoc]
      exact hr
theorem counts_ev (b : List Int) (n : Nat) (hb : b.length + n < 140737488355328) : Ev (fun k => pack_counts.f k b [(n : Int)]) (b ++ cntE n) := by
  unfold pack_counts.f
  refine Ev.step (fun _ => by rw [pack_counts.l0]) ?_
  refine Ev.pos (by simp) (Ev.pos (by omega) (Ev.pos (by simp) ?_))
  refine counts_in _ _ n n (Nat.le_refl _) b hb ?_
  refine Ev.step (fun _ => by rw [pack_counts.l0]) ?_
  exact Ev.neg (by omega) (Ev.some_ rfl)
/-- A program is written: its tables, and the bytes so far. -/
structure EI (w W : World) (gt gc gn : Nat) (vs vt : Value) (S : List Four) (T : List ByteArray) (v : Value) (b : List Int) : Prop where
  tab : Tabs w W gt gc gn vs vt S T
  own : W.ownsRow w.heap.size 5 1 v b.length (nums .u8 b)
section
variable {w W W' : World} {gt gc gn : Nat} {cs : List Value} {vs vt : Value} {lc : List (Four × Value)} {ln : List (ByteArray × Value)} {S : List Four} {T : List ByteArray} {v v' : Value} {b b' : List Int}
theorem GT.kept (h : GT w W gt gc gn cs vs vt lc ln S T) (hk : ∀ q, q < W.heap.size → (q = gt ∨ q = gc ∨ q = gn ∨ vs.ownBlock = some q ∨ vt.ownBlock = some q) → W'.heap[q]? = W.heap[q]?) (hb : Below w.heap.size w W') : GT w W' gt gc gn cs vs vt lc ln S T :=
  ⟨hb, h.row.kept (hk gt h.row.lt (.inl rfl)), h.mc.kept (hk gc h.mc.lt (.inr (.inl rfl))), h.mn.kept (hk gn h.mn.lt (.inr (.inr (.inl rfl)))), own_kept h.s (fun k e => hk k (own_lt h.s k e) (.inr (.inr (.inr (.inl e))))), own_kept h.t (fun k e => hk k (own_lt h.t k e) (.inr (.inr (.inr (.inr e))))), h.ge, h.offs, h.offt⟩
theorem EI.off (h : EI w W gt gc gn vs vt S T v b) : ∀ q, v.ownBlock = some q → q ≠ gt ∧ q ≠ gc ∧ q ≠ gn ∧ vs.ownBlock ≠ some q ∧ vt.ownBlock ≠ some q := by
  intro q hq
  obtain ⟨c0, h0⟩ := own_typed h.own q hq
  refine ⟨?_, ?_, ?_, fun e => ?_, fun e => ?_⟩
  · rintro rfl
    obtain ⟨c1, h1, _⟩ := h.tab.row
    rw [h0] at h1
    injection h1 with h1
    injection h1 with _ h1
    exact absurd h1 (by decide)
  · rintro rfl
    obtain ⟨_, _, h1, _⟩ := h.tab.mc
    rw [h0] at h1
    injection h1 with h1
    cases h1
  · rintro rfl
    obtain ⟨_, _, h1, _⟩ := h.tab.mn
    rw [h0] at h1
    injection h1 with h1
    cases h1
  · obtain ⟨c1, h1⟩ := own_typed h.tab.s q e
    rw [h0] at h1
    injection h1 with h1
    injection h1 with _ h1
    exact absurd h1 (by decide)
  · obtain ⟨c1, h1⟩ := own_typed h.tab.t q e
    rw [h0] at h1
    injection h1 with h1
    injection h1 with _ h1
    exact absurd h1 (by decide)
/-- The bytes go on. -/
theorem EI.next (h : EI w W gt gc gn vs vt S T v b) (hk : Kept W W' (fun k => v.ownBlock = some k)) (hb : Below w.heap.size w W') (ho : W'.ownsRow w.heap.size 5 1 v' b'.length (nums .u8 b')) : EI w W' gt gc gn vs vt S T v' b' := by
  refine ⟨h.tab.kept (fun q hq hor => hk.2 q hq (fun e => ?_)) hb, ho⟩
  have := h.off q e
  rcases hor with hor | hor | hor | hor | hor
  · exact this.1 hor
  · exact this.2.1 hor
  · exact this.2.2.1 hor
  · exact this.2.2.2.1 hor
  · exact this.2.2.2.2 hor
theorem EI.grown (h : EI w W gt gc gn vs vt S T v b) (hg : W.grownBy W' v.ownBlock) (ho : W'.ownsRow w.heap.size 5 1 v' b'.length (nums .u8 b')) : EI w W' gt gc gn vs vt S T v' b' :=
  h.next (Kept.of_grown hg (Kept.refl _ _) (fun k hk => .inl hk)) (pw_below_grown h.tab.bel v.ownBlock h.tab.bel.size hg (fun k hk => own_base h.own k hk)) ho
theorem EI.below (h : EI w W gt gc gn vs vt S T v b) (hb : Below W.heap.size W W') : EI w W' gt gc gn vs vt S T v b :=
  ⟨h.tab.below hb, own_kept h.own (fun k hk => hb.block k (own_lt h.own k hk))⟩
theorem EI.new_off (h : EI w W gt gc gn vs vt S T v b) {g : Nat} (hg : g = W.heap.size) : gt < g ∧ vs.ownBlock ≠ some g ∧ vt.ownBlock ≠ some g ∧ v.ownBlock ≠ some g := by
  have h1 := Pack.new_off h.tab hg
  exact ⟨h1.1, h1.2.1, h1.2.2, fun e => by have := own_lt h.own g e; omega⟩
theorem EI.other (h : EI w W gt gc gn vs vt S T v b) {r : Nat} (hg : W.grownBy W' (some r)) (ho : gt < r ∧ vs.ownBlock ≠ some r ∧ vt.ownBlock ≠ some r ∧ v.ownBlock ≠ some r) : EI w W' gt gc gn vs vt S T v b :=
  ⟨h.tab.other hg ho.1 ho.2.1 ho.2.2.1, own_kept h.own (fun k hk => hg.block k (own_lt h.own k hk) (fun e => ho.2.2.2 (hk.trans e)))⟩
end
section
variable {w W : World} {gt gc gn : Nat} {vs vt : Value} {S : List Four} {T : List ByteArray} {v : Value} {b : List Int}
theorem ei_of_R {W0 W' : World} {ok : Nat → Prop} {v' : Value} {b' : List Int} (h : EI w W0 gt gc gn vs vt S T v b) (hR : Kd.R (Kd.int .u8) 5 W' w.heap.size ok v' b') (hb : Below w.heap.size w W') (hk : Kept W0 W' (fun k => v.ownBlock = some k)) : EI w W' gt gc gn vs vt S T v' b' :=
  h.next hk hb (Kd.own_of_R hR)
theorem counts_lit (h : EI w W gt gc gn vs vt S T v b) (n : Nat) (hb : b.length + n < 140737488355328) :
    Calls Try.prog 73 #[v, .slice (some ⟨W.heap.size, 0, none⟩) 1 1] (W.alloc (.cells #[.int .u64 (n : Int)] 74 (0, 0))) fun e W' => ∃ v', e = .returned v' ∧ EI w W' gt gc gn vs vt S T v' (b ++ cntE n) := by
  obtain ⟨kf, hkf⟩ := counts_ev b n hb
  have hb7 := below_alloc (Below.refl W.heap.size W) (.cells #[.int .u64 (n : Int)] 74 (0, 0))
  have hx7 := blk_new W (.cells #[.int .u64 (n : Int)] 74 (0, 0))
  have hR7 : RowAt (W.alloc (.cells #[.int .u64 (n : Int)] 74 (0, 0))) W.heap.size 74 ([(n : Int)].map (Value.int .u64)) := ⟨_, hx7, rfl⟩
  have h7 := h.below hb7
  have hcall := pack_counts.calls kf (fun k => v.ownBlock = some k) v b (some ⟨W.heap.size, 0, none⟩) 1 [(n : Int)] _ w _ h7.tab.bel (Kd.R_of_own h7.own (fun k hk => hk)) (fun W_ hk => C_row' (hR7.kept_ hk (fun e => by have := own_lt h.own _ e; omega)) (by simp)) (by simp) (hkf kf (Nat.le_refl _))
  refine hcall.mono ?_
  rintro e W' ⟨v', rfl, hR, hb', hk'⟩
  exact ⟨v', rfl, ei_of_R h7 hR hb' hk'⟩
theorem fixed_lit (h : EI w W gt gc gn vs vt S T v b) (m : Nat) (hm : m ≤ 8) (l : List Int) (hl : l.length ≤ 4) (hb : b.length ≤ 140737488351232) (n : Nat) (hn : l.length = n) :
    Calls Try.prog 74 #[v, .int .i64 (m : Int), .slice (some ⟨W.heap.size, 0, none⟩) n n] (W.alloc (.cells (l.map (Value.int .u64)).toArray 74 (0, 0))) fun e W' => ∃ v', e = .returned v' ∧ EI w W' gt gc gn vs vt S T v' (b ++ l.flatMap (leN m)) := by
  subst hn
  obtain ⟨kf, hkf⟩ := fixed_ev b m hm l hl hb
  have hb7 := below_alloc (Below.refl W.heap.size W) (.cells (l.map (Value.int .u64)).toArray 74 (0, 0))
  have hx7 := blk_new W (.cells (l.map (Value.int .u64)).toArray 74 (0, 0))
  have hR7 : RowAt (W.alloc (.cells (l.map (Value.int .u64)).toArray 74 (0, 0))) W.heap.size 74 (l.map (Value.int .u64)) := ⟨_, hx7, rfl⟩
  have h7 := h.below hb7
  have hcall := pack_fixed.calls kf (fun k => v.ownBlock = some k) v b (m : Int) (some ⟨W.heap.size, 0, none⟩) l.length l _ w _ h7.tab.bel (Kd.R_of_own h7.own (fun k hk => hk)) (fun W_ hk => C_row' (hR7.kept_ hk (fun e => by have := own_lt h.own _ e; omega)) (by omega)) (Nat.le_refl _) (hkf kf (Nat.le_refl _))
  refine hcall.mono ?_
  rintro e W' ⟨v', rfl, hR, hb', hk'⟩
  exact ⟨v', rfl, ei_of_R h7 hR hb' hk'⟩
theorem sumE_lit (h : EI w W gt gc gn vs vt S T v b) (hb : b.length ≤ 140737488351232) : Calls Try.prog 76 #[v] W fun e W' => e = .returned (.int .u32 (crcL b)) ∧ EI w W' gt gc gn vs vt S T v b := by
  obtain ⟨A, c, rfl, hc, hr⟩ := Kd.R_reads (Kd.R_of_own (h1 := fun _ => rfl) (ok := fun _ => True) h.own (fun k hk => trivial))
  refine (sum_lit A c b W hr hc hb).mono ?_
  rintro e W' ⟨he, hd⟩
  exact ⟨he, h.below hd.below⟩
end
theorem bytesOf_nums (s : ByteArray) : bytesOf s = numsOf s := rfl
theorem progE_append (S : List Four) (T : List ByteArray) (x : Ins) : ∀ (l : List Ins) (i : Nat), progE S T i (l ++ [x]) = progE S T i l ++ insE x.f0 (operN (i + l.length) x S T)
  | [], i => by simp [progE]
  | y :: l, i => by
    rw [List.cons_append, progE, progE_append S T x l (i + 1), progE, List.append_assoc, List.length_cons]
    rw [show i + 1 + l.length = i + (l.length + 1) by omega]
end Go.Proofs.Ytebiogaacikphaa.Pack
end
section
namespace Go.Proofs.Ytebiogaacikphaa.Pack
open Go.RowKit Go.Proofs.YtebiogaacikphaaW.PrintWords Go.Proofs.Ytebiogaacikphaa.PAll Go.Proofs.Ytebiogaacikphaa.Names
set_option linter.unusedVariables false
def e1 (S : List Four) (i : Nat) : List Int := (magicL ++ cntE S.length) ++ (S.take i).flatMap clsE
def e2 (S : List Four) (T : List ByteArray) (i : Nat) : List Int := (e1 S S.length ++ cntE T.length) ++ (T.take i).flatMap nameE
def e3 (S : List Four) (T : List ByteArray) (l : List Ins) (i : Nat) : List Int := (e2 S T T.length ++ cntE l.length) ++ progE S T 0 (l.take i)
section
variable {S : List Four} {T : List ByteArray} {l : List Ins} {i : Nat}
theorem e1_start : magicL ++ cntE S.length = e1 S 0 := by simp [e1]
theorem e2_start : e1 S S.length ++ cntE T.length = e2 S T 0 := by simp [e2]
theorem e3_start : e2 S T T.length ++ cntE l.length = e3 S T l 0 := by simp [e3, progE]
theorem take_snoc {α : Type} {l : List α} {i : Nat} {x : α} (h : l[i]? = some x) : l.take (i + 1) = l.take i ++ [x] := by rw [List.take_add_one, h]; rfl
theorem e1_step {y : Four} (h : S[i]? = some y) : e1 S i ++ clsE y = e1 S (i + 1) := by
  rw [e1, e1, take_snoc h, List.flatMap_append, List.append_assoc]
  simp
theorem e2_step {s : ByteArray} (h : T[i]? = some s) : (e2 S T i ++ cntE s.size) ++ numsOf s = e2 S T (i + 1) := by
  rw [e2, e2, take_snoc h, List.flatMap_append, List.append_assoc, List.append_assoc _ _ (cntE s.size ++ numsOf s)]
  simp [nameE]
theorem e3_step {x : Ins} (h : l[i]? = some x) : e3 S T l i ++ insE x.f0 (operN i x S T) = e3 S T l (i + 1) := by
  have hi := (List.getElem?_eq_some_iff.1 h).1
  rw [e3, e3, take_snoc h, progE_append, List.length_take, show min i l.length = i by omega, Nat.zero_add, List.append_assoc]
theorem e3_end (l : List Ins) : e3 (l.foldl addC []) (l.foldl addN []) l l.length = magicL ++ insideE l := by
  rw [e3, e2, e1, List.take_length, List.take_length, List.take_length, insideE]
  simp only [List.append_assoc]
theorem e1_len (hS : S.length ≤ 65536) : (e1 S i).length ≤ 2097160 := by
  have h1 := cntE_three S.length (by omega)
  rw [e1, List.length_append, List.length_append, clsE_len, List.length_take, show magicL.length = 5 from rfl]
  omega
theorem e2_len (hS : S.length ≤ 65536) (hT : T.length ≤ 65536) (hn : ∀ s ∈ T, okName s = true) : (e2 S T i).length ≤ 6357003 := by
  have h1 := cntE_three T.length (by omega)
  have h2 := e1_len (i := S.length) hS
  have h3 := namesE_len (T.take i) (fun s h => hn s (List.mem_of_mem_take h))
  rw [List.length_take] at h3
  rw [e2, List.length_append, List.length_append]
  omega
theorem e3_len (h1 : l.length ≤ 65536) (hok : ∀ x ∈ l, InsOk l.length x) (hn : ∀ x ∈ l, kindOf x.f0 = 3 → okName x.f3 = true) : (e3 (l.foldl addC []) (l.foldl addN []) l i).length ≤ 6619150 := by
  have hCl := foldC_length l []
  have hNl := foldN_length l []
  rw [List.length_nil, Nat.zero_add] at hCl hNl
  have h2 := e2_len (S := l.foldl addC []) (T := l.foldl addN []) (i := (l.foldl addN []).length) (by omega) (by omega) (fun c h => by
    rcases foldN_mem l [] c h with h | ⟨x, hx, hk, rfl⟩
    · cases h
    · exact hn x hx hk)
  have h3 := cntE_three l.length (by omega)
  have hd : l.take i ++ l.drop i = l := List.take_append_drop i l
  have p1 : (l.take i).foldl addC [] <+: l.foldl addC [] := by
    conv => rhs; rw [← hd, List.foldl_append]
    exact foldC_prefix _ _
  have p2 : (l.take i).foldl addN [] <+: l.foldl addN [] := by
    conv => rhs; rw [← hd, List.foldl_append]
    exact foldN_prefix _ _
  have h4 := (progE_len l.length (l.foldl addC []) (l.foldl addN []) h1 (by omega) (by omega) (l.take i) 0 [] [] List.nodup_nil List.nodup_nil p1 p2 (fun x hx => hok x (List.mem_of_mem_take hx)) (by rw [List.length_take]; omega)).2
  rw [List.length_take] at h4
  rw [e3, List.length_append, List.length_append]
  omega
end
theorem fixed8_lit {w W : World} {gt gc gn : Nat} {vs vt : Value} {S : List Four} {T : List ByteArray} {v : Value} {b : List Int} (h : EI w W gt gc gn vs vt S T v b) (y : Four) (hb : b.length ≤ 140737488351232) :
    Calls Try.prog 74 #[v, .int .i64 8, .slice (some ⟨W.heap.size, 0, none⟩) 4 4] (W.alloc (.cells #[.int .u64 y.1, .int .u64 y.2.1, .int .u64 y.2.2.1, .int .u64 y.2.2.2] 74 (0, 0))) fun e W' => ∃ v', e = .returned v' ∧ EI w W' gt gc gn vs vt S T v' (b ++ clsE y) := by
  have h1 := fixed_lit h 8 (by decide) [y.1, y.2.1, y.2.2.1, y.2.2.2] (by simp) hb 4 rfl
  have e : [y.1, y.2.1, y.2.2.1, y.2.2.2].flatMap (leN 8) = clsE y := by rw [clsE]; simp
  rw [e] at h1
  exact h1
theorem fixed4_lit {w W : World} {gt gc gn : Nat} {vs vt : Value} {S : List Four} {T : List ByteArray} {v : Value} {b : List Int} (h : EI w W gt gc gn vs vt S T v b) (s : Int) (hb : b.length ≤ 140737488351232) :
    Calls Try.prog 74 #[v, .int .i64 4, .slice (some ⟨W.heap.size, 0, none⟩) 1 1] (W.alloc (.cells #[.int .u64 s] 74 (0, 0))) fun e W' => ∃ v', e = .returned v' ∧ EI w W' gt gc gn vs vt S T v' (b ++ leN 4 s) := by
  have h1 := fixed_lit h 4 (by decide) [s] (by simp) hb 1 rfl
  have e : [s].flatMap (leN 4) = leN 4 s := by simp
  rw [e] at h1
  exact h1
theorem EI.push {w W W' : World} {gt gc gn : Nat} {vs vt : Value} {S : List Four} {T : List ByteArray} {v v' : Value} {b : List Int} (h : EI w W gt gc gn vs vt S T v b) {y : Int} (hown : W'.ownsRow w.heap.size 5 1 v' (b.length + 1) (nums .u8 b ++ [.int .u8 y])) (hg : W.grownBy W' v.ownBlock) : EI w W' gt gc gn vs vt S T v' (b ++ [y]) := by
  refine h.grown hg ?_
  rw [List.length_append, nums_append]
  exact hown
theorem or_low {a : Int} {n : Nat} (ha : 0 ≤ a ∧ a ≤ 15) (hn : n < 15) : Go.bits .or .u8 a ((n : Int) % 256 * 16 % 256) = a + (n : Int) * 16 := by
  obtain ⟨m, rfl⟩ := Int.eq_ofNat_of_zero_le ha.1
  have hb := Bits.bits_or .u8 rfl m (n * 16) (by show _ < 2 ^ 8; omega) (by show _ < 2 ^ 8; omega)
  have ho := Bits.or_add m n 4 (by omega)
  rw [show n * 2 ^ 4 = n * 16 from rfl] at ho
  rw [ho] at hb
  rw [show ((n : Int) % 256 * 16 % 256) = ((n * 16 : Nat) : Int) by omega, hb]
  omega
theorem or_240 {a : Int} (ha : 0 ≤ a ∧ a ≤ 15) : Go.bits .or .u8 a 240 = a + 240 := by
  obtain ⟨m, rfl⟩ := Int.eq_ofNat_of_zero_le ha.1
  have hb := Bits.bits_or .u8 rfl m (15 * 16) (by show _ < 2 ^ 8; omega) (by show _ < 2 ^ 8; omega)
  have ho := Bits.or_add m 15 4 (by omega)
  rw [show 15 * 2 ^ 4 = 15 * 16 from rfl] at ho
  rw [ho] at hb
  rw [show (240 : Int) = ((15 * 16 : Nat) : Int) from rfl, hb]
  omega
theorem foldC_has : ∀ (l : List Ins) (S : List Four) (x : Ins), x ∈ l → kindOf x.f0 = 2 → clsI x ∈ l.foldl addC S
  | y :: l, S, x, h, hk => by
    rw [List.foldl_cons]
    rcases List.mem_cons.1 h with rfl | h
    · refine (foldC_prefix l _).mem ?_
      rw [addC, if_pos hk]
      exact once_mem S _
    · exact foldC_has l _ x h hk
theorem foldN_has : ∀ (l : List Ins) (S : List ByteArray) (x : Ins), x ∈ l → kindOf x.f0 = 3 → x.f3 ∈ l.foldl addN S
  | y :: l, S, x, h, hk => by
    rw [List.foldl_cons]
    rcases List.mem_cons.1 h with rfl | h
    · refine (foldN_prefix l _).mem ?_
      rw [addN, if_pos hk]
      exact once_mem S _
    · exact foldN_has l _ x h hk
end Go.Proofs.Ytebiogaacikphaa.Pack
end
