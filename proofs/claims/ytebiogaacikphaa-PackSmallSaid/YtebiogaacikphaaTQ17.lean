/- Parts of the proof of packBack and packOne and packCuts and packSpoilt and packSmall: Gathered, Number, Unique. No condition beyond each lemma's own. -/
import Derived.Test.YtebiogaacikphaaTQ15
import Derived.Test.YtebiogaacikphaaTQ16
section
namespace Go.Proofs.Ytebiogaacikphaa.Pack
open Go.RowKit Go.Proofs.YtebiogaacikphaaW.PrintWords Go.Proofs.Ytebiogaacikphaa.PAll Go.Proofs.Ytebiogaacikphaa.Names
set_option linter.unusedVariables false
set_option linter.unusedSimpArgs false
set_option linter.unnecessarySimpa false
theorem cells4 {W : World} {g : Nat} {e : TypeId} {a b c d : Value} (h : RowAt W g e [a, b, c, d]) : W.cell? ⟨g, 0, none⟩ = some a ∧ W.cell? ⟨g, 1, none⟩ = some b ∧ W.cell? ⟨g, 2, none⟩ = some c ∧ W.cell? ⟨g, 3, none⟩ = some d := ⟨h.cell 0, h.cell 1, h.cell 2, h.cell 3⟩
theorem new_off {w W : World} {gt gc gn : Nat} {cs : List Value} {vs vt : Value} {lc : List (Four × Value)} {ln : List (ByteArray × Value)} {S : List Four} {T : List ByteArray} (h : GT w W gt gc gn cs vs vt lc ln S T) {g : Nat} (hg : g = W.heap.size) : gt < g ∧ vs.ownBlock ≠ some g ∧ vt.ownBlock ≠ some g := by
  have := h.row.lt
  refine ⟨by omega, fun e => ?_, fun e => ?_⟩
  · have := own_lt h.s g e
    omega
  · have := own_lt h.t g e
    omega
section
variable (A : Option Addr) (c : Nat) (l : List Ins) (w : World)
set_option maxHeartbeats 4000000 in
set_option maxRecDepth 100000 in
theorem gathered_calls (hr : Kd.C k78 w A l.length l) (hl : l.length ≤ 65536) :
    Calls Try.prog 71 #[.slice A l.length c] w fun e w' => ∃ gt gc gn vs vt, e = .returned (.pointer (some ⟨gt, 0, none⟩)) ∧ Tabs w w' gt gc gn vs vt (l.foldl addC []) (l.foldl addN []) := by
  have HR := Aside0.mk hr
  have HL := Aside0.mk hl
  clear hr
  go_enter Try.func71, Try.ntmps71
  go_wp2_with (first
    | ((with_reducible refine gate_dst (N := 10) rfl ?_); refine map_event (encFour .u64) rfl 140 rfl ?_; intro gc hgc w1 hm hb1; have HMC := Aside0.mk hm; have HB := Aside0.mk hb1; have HGC := Aside0.mk hgc; clear hm hb1 hgc)
    | ((with_reducible refine gate_dst (N := 11) rfl ?_); refine map_event Value.string rfl 94 rfl ?_; intro gn hgn w2 hm hb2; have HMN := Aside0.mk hm; have HGN := Aside0.mk (show gc < gn by have := HMC.out.lt; omega); have n1_ := Aside0.mk (HMC.out.below hb2); have n2_ := Aside0.mk (below_step HB.out hb2); clear HMC HB hm hb2 hgn; have HMC := n1_; have HB := n2_; clear n1_ n2_)
    | ((with_reducible refine gate_dst (N := 13) rfl ?_); refine box_event (N := 13) rfl rfl (cs := #[.map (some gc), .map (some gn), .slice none 0 0, .slice none 0 0]) (t := 142) ?hr2 ?_; (case hr2 => first | (go_simp; done) | (go_simp; rfl)); intro gt hgt w3 hbox hb3; have HG : Aside0 (Tabs w w3 gt gc gn (.slice none 0 0) (.slice none 0 0) [] []) := ⟨⟨below_step HB.out hb3, ⟨_, hbox, rfl⟩, HMC.out.below hb3, HMN.out.below hb3, ⟨rfl, .inl ⟨rfl, rfl⟩⟩, ⟨rfl, .inl ⟨rfl, rfl⟩⟩, by have := HMN.out.lt; have := HGN.out; have := HGC.out; omega, fun q h => by simp [Value.ownBlock] at h, fun q h => by simp [Value.ownBlock] at h⟩⟩; clear HMC HMN HB hbox hb3 hgt))
  go_loopw [16] (fun v16 wr => ∃ (i : Int) (vs vt : Value), v16 = .int .i64 i ∧ Aside0 (0 ≤ i ∧ i ≤ l.length) ∧ Aside0 (Tabs w wr gt gc gn vs vt ((l.take i.toNat).foldl addC []) ((l.take i.toNat).foldl addN []))) (fun v16 _ => l.length - (intOf v16).toNat)
  case atStart => exact ⟨0, _, _, rfl, ⟨by omega, by omega⟩, HG⟩
  case round =>
    clear HG
    obtain ⟨i, vs, vt, rfl, HI, HG⟩ := hrel
    by_cases c2 : i < (l.length : Int)
    · have k2 : decide (i < (l.length : Int)) = true := decide_eq_true c2
      have p0 : 0 ≤ i := HI.out.1
      obtain ⟨x, hx⟩ : ∃ x, rd_T78 l i = x := ⟨_, rfl⟩
      have hget : l[i.toNat]? = some x := by
        have h1 : i.toNat < l.length := by omega
        rw [List.getElem?_eq_getElem h1, ← hx, rd_T78, List.getD_eq_getElem?_getD, List.getElem?_eq_getElem h1]
        rfl
      obtain ⟨ad, e, x0, x1, x2, x3, x4, x5, x6⟩ := at_T78 (Kd.C_below HR.out HG.out.bel) i p0 c2
      rw [hx] at x0 x1 x2 x3 x4 x5 x6
      cases e
      have HGET := Aside0.mk hget
      have HSC : Aside0 ((l.take (i + 1).toNat).foldl addC [] = addC ((l.take i.toNat).foldl addC []) x) := ⟨by rw [show (i + 1).toNat = i.toNat + 1 by omega, List.take_add_one, hget, List.foldl_append]; rfl⟩
      have HSN : Aside0 ((l.take (i + 1).toNat).foldl addN [] = addN ((l.take i.toNat).foldl addN []) x) := ⟨by rw [show (i + 1).toNat = i.toNat + 1 by omega, List.take_add_one, hget, List.foldl_append]; rfl⟩
      have HSL : Aside0 (((l.take i.toNat).foldl addC []).length ≤ 65536 ∧ ((l.take i.toNat).foldl addN []).length ≤ 65536) := by
        have h1 := foldC_length (l.take i.toNat) []
        have h2 := foldN_length (l.take i.toNat) []
        rw [List.length_take, List.length_nil] at h1 h2
        exact ⟨by omega, by omega⟩
      generalize (l.take i.toNat).foldl addC [] = S at *
      generalize (l.take i.toNat).foldl addN [] = T at *
      have hw1 : IntKind.i64.wrap (i + 1) = i + 1 := IntWalk.i64_in _ (by have := HL.out; omega)
      replace p0 := eq_true p0
      have q0 := eq_true c2
      clear hx hget c2
      rcases kind4 x.f0 with k | k | k | k
      · have HK := Aside0.mk k
        clear k
        go_wp2_with (first
          | ((with_reducible refine gate_dst (N := 5) rfl ?_); refine box_event (N := 5) rfl rfl (cs := #[.int .i64 0, .int .i64 0, .int .u64 0, .int .u64 0, .int .u64 0, .int .u64 0, .string (⟨#[]⟩ : ByteArray)]) (t := 78) ?hr2 ?_; (case hr2 => first | (go_simp; done) | (go_simp; rfl)); intro g5 hg5 w3 hbox hb1; have H5 := Aside0.mk (show RowAt w3 g5 78 (insCells zIns) from ⟨_, hbox, rfl⟩); have HG5 := Aside0.mk (show gt < g5 ∧ vs.ownBlock ≠ some g5 ∧ vt.ownBlock ≠ some g5 from new_off HG.out hg5); have n1_ := Aside0.mk (HG.out.below hb1); clear HG hbox hb1 hg5 x0 x1 x2 x3 x4 x5 x6; have HG := n1_; clear n1_)
          | ((with_reducible refine gate_store (t := 78) (p := 5) rfl ?_); refine put_event rfl rfl 78 (.tmp 5) (.tmp 19) rfl (off := 0) (u := .agg #[.int .i64 x.f0, .int .i64 x.f1, .int .u64 x.f2.f0, .int .u64 x.f2.f1, .int .u64 x.f2.f2, .int .u64 x.f2.f3, .string x.f3]) (seg := insCells x) rfl rfl H5.out rfl (by kernel_rfl) (by simp [insCells]) (by simp [insCells, Value.oneCell']) ?_; intro w4 hrow hgr; have n1_ := Aside0.mk (HG.out.other hgr HG5.out.1 HG5.out.2.1 HG5.out.2.2); clear HG H5 hgr; have HG := n1_; clear n1_; have H5 := Aside0.mk (show RowAt w4 g5 78 (insCells x) from hrow); clear hrow; obtain ⟨x0, x1, x2, x3, x4, x5, x6⟩ := cells7 H5.out)
          | (go_at_call 99; refine (operand_lit _ 0 HK.out _).mono ?_; rintro r w6 ⟨rfl, hb⟩; have n1_ := Aside0.mk (HG.out.below hb); have n2_ := Aside0.mk (H5.out.below hb); clear HG H5 hb x0 x1 x2 x3 x4 x5 x6; have HG := n1_; have H5 := n2_; clear n1_ n2_))
        go_roundw
        case measure => have h2 := of_eq_true q0; have h3 := of_eq_true p0; show l.length - (i + 1).toNat < l.length - i.toNat; omega
        case rel => exact ⟨i + 1, vs, vt, rfl, ⟨by have := HI.out; have := of_eq_true q0; omega⟩, by rw [HSC.out, HSN.out, addC, addN, HK.out]; exact HG⟩
      · have HK := Aside0.mk k
        clear k
        go_wp2_with (first
          | ((with_reducible refine gate_dst (N := 5) rfl ?_); refine box_event (N := 5) rfl rfl (cs := #[.int .i64 0, .int .i64 0, .int .u64 0, .int .u64 0, .int .u64 0, .int .u64 0, .string (⟨#[]⟩ : ByteArray)]) (t := 78) ?hr2 ?_; (case hr2 => first | (go_simp; done) | (go_simp; rfl)); intro g5 hg5 w3 hbox hb1; have H5 := Aside0.mk (show RowAt w3 g5 78 (insCells zIns) from ⟨_, hbox, rfl⟩); have HG5 := Aside0.mk (show gt < g5 ∧ vs.ownBlock ≠ some g5 ∧ vt.ownBlock ≠ some g5 from new_off HG.out hg5); have n1_ := Aside0.mk (HG.out.below hb1); clear HG hbox hb1 hg5 x0 x1 x2 x3 x4 x5 x6; have HG := n1_; clear n1_)
          | ((with_reducible refine gate_store (t := 78) (p := 5) rfl ?_); refine put_event rfl rfl 78 (.tmp 5) (.tmp 19) rfl (off := 0) (u := .agg #[.int .i64 x.f0, .int .i64 x.f1, .int .u64 x.f2.f0, .int .u64 x.f2.f1, .int .u64 x.f2.f2, .int .u64 x.f2.f3, .string x.f3]) (seg := insCells x) rfl rfl H5.out rfl (by kernel_rfl) (by simp [insCells]) (by simp [insCells, Value.oneCell']) ?_; intro w4 hrow hgr; have n1_ := Aside0.mk (HG.out.other hgr HG5.out.1 HG5.out.2.1 HG5.out.2.2); clear HG H5 hgr; have HG := n1_; clear n1_; have H5 := Aside0.mk (show RowAt w4 g5 78 (insCells x) from hrow); clear hrow; obtain ⟨x0, x1, x2, x3, x4, x5, x6⟩ := cells7 H5.out)
          | (go_at_call 99; refine (operand_lit _ 1 HK.out _).mono ?_; rintro r w6 ⟨rfl, hb⟩; have n1_ := Aside0.mk (HG.out.below hb); have n2_ := Aside0.mk (H5.out.below hb); clear HG H5 hb x0 x1 x2 x3 x4 x5 x6; have HG := n1_; have H5 := n2_; clear n1_ n2_))
        go_roundw
        case measure => have h2 := of_eq_true q0; have h3 := of_eq_true p0; show l.length - (i + 1).toNat < l.length - i.toNat; omega
        case rel => exact ⟨i + 1, vs, vt, rfl, ⟨by have := HI.out; have := of_eq_true q0; omega⟩, by rw [HSC.out, HSN.out, addC, addN, HK.out]; exact HG⟩
      · have HK := Aside0.mk k
        clear k
        go_wp2_with (first
          | ((with_reducible refine gate_dst (N := 5) rfl ?_); refine box_event (N := 5) rfl rfl (cs := #[.int .i64 0, .int .i64 0, .int .u64 0, .int .u64 0, .int .u64 0, .int .u64 0, .string (⟨#[]⟩ : ByteArray)]) (t := 78) ?hr2 ?_; (case hr2 => first | (go_simp; done) | (go_simp; rfl)); intro g5 hg5 w3 hbox hb1; have H5 := Aside0.mk (show RowAt w3 g5 78 (insCells zIns) from ⟨_, hbox, rfl⟩); have HG5 := Aside0.mk (show gt < g5 ∧ vs.ownBlock ≠ some g5 ∧ vt.ownBlock ≠ some g5 from new_off HG.out hg5); have n1_ := Aside0.mk (HG.out.below hb1); clear HG hbox hb1 hg5 x0 x1 x2 x3 x4 x5 x6; have HG := n1_; clear n1_)
          | ((with_reducible refine gate_store (t := 78) (p := 5) rfl ?_); refine put_event rfl rfl 78 (.tmp 5) (.tmp 19) rfl (off := 0) (u := .agg #[.int .i64 x.f0, .int .i64 x.f1, .int .u64 x.f2.f0, .int .u64 x.f2.f1, .int .u64 x.f2.f2, .int .u64 x.f2.f3, .string x.f3]) (seg := insCells x) rfl rfl H5.out rfl (by kernel_rfl) (by simp [insCells]) (by simp [insCells, Value.oneCell']) ?_; intro w4 hrow hgr; have n1_ := Aside0.mk (HG.out.other hgr HG5.out.1 HG5.out.2.1 HG5.out.2.2); clear HG H5 hgr; have HG := n1_; clear n1_; have H5 := Aside0.mk (show RowAt w4 g5 78 (insCells x) from hrow); clear hrow; obtain ⟨x0, x1, x2, x3, x4, x5, x6⟩ := cells7 H5.out)
          | (go_at_call 99; refine (operand_lit _ 2 HK.out _).mono ?_; rintro r w6 ⟨rfl, hb⟩; have n1_ := Aside0.mk (HG.out.below hb); have n2_ := Aside0.mk (H5.out.below hb); clear HG H5 hb x0 x1 x2 x3 x4 x5 x6; have HG := n1_; have H5 := n2_; clear n1_ n2_))
        obtain ⟨x0, x1, x2, x3, x4, x5, x6⟩ := cells7 H5.out
        obtain ⟨r0, r1, r2, r3⟩ := cells4 HG.out.row
        by_cases hin : clsI x ∈ S
        · have hlk : ∀ n, (Instr.lookup 140 (.map (some gc)) (.agg #[.int .u64 x.f2.f0, .int .u64 x.f2.f1, .int .u64 x.f2.f2, .int .u64 x.f2.f3]) true).run Try.prog (w6.drewN n) = .ok (.tuple #[.int .i64 (placeOf S (clsI x) : Int), .bool true]) (w6.drewN n) := fun n => class_old hin true _ (HG.out.drewN n).mc
          have HIN := Aside0.mk hin
          clear hin
          go_quiet (fail)
          have n1_ := Aside0.mk (HG.out.drewN nq); have n2_ := Aside0.mk (H5.out.below (pw_below_drewN (Below.refl _ _) nq)); clear HG H5 x0 x1 x2 x3 x4 x5 x6 r0 r1 hlk; have HG := n1_; have H5 := n2_; clear n1_ n2_; obtain ⟨x0, x1, x2, x3, x4, x5, x6⟩ := cells7 H5.out; obtain ⟨r0, r1, r2, r3⟩ := cells4 HG.out.row
          go_wp2
          go_roundw
          case measure => have h2 := of_eq_true q0; have h3 := of_eq_true p0; show l.length - (i + 1).toNat < l.length - i.toNat; omega
          case rel => exact ⟨i + 1, vs, vt, rfl, ⟨by have := HI.out; have := of_eq_true q0; omega⟩, by rw [HSC.out, HSN.out, addC, addN, HK.out, if_pos rfl, once, if_pos HIN.out]; exact HG⟩
        · have hlk : ∀ n, (Instr.lookup 140 (.map (some gc)) (.agg #[.int .u64 x.f2.f0, .int .u64 x.f2.f1, .int .u64 x.f2.f2, .int .u64 x.f2.f3]) true).run Try.prog (w6.drewN n) = .ok (.tuple #[.int .i64 0, .bool false]) (w6.drewN n) := fun n => class_new hin _ (HG.out.drewN n).mc
          have HIN := Aside0.mk hin
          obtain ⟨As, cs, rfl⟩ := own_len HG.out.s
          clear hin
          go_quiet (fail)
          have n1_ := Aside0.mk (HG.out.drewN nq); have n2_ := Aside0.mk (H5.out.below (pw_below_drewN (Below.refl _ _) nq)); clear HG H5 x0 x1 x2 x3 x4 x5 x6 r0 r1 hlk; have HG := n1_; have H5 := n2_; clear n1_ n2_; obtain ⟨x0, x1, x2, x3, x4, x5, x6⟩ := cells7 H5.out; obtain ⟨r0, r1, r2, r3⟩ := cells4 HG.out.row
          generalize w6.drewN nq = w7 at *
          go_wp2
          go_still_tail 11, (by kernel_rfl)
          change wpList _ _ _ _ _ w7.drew
          have n1_ := Aside0.mk (HG.out.below (below_drew (Below.refl _ _))); have n2_ := Aside0.mk (H5.out.below (below_drew (Below.refl _ _))); clear HG H5 x0 x1 x2 x3 x4 x5 x6 r0 r1 r2 r3; generalize w7.drew = w8 at *; have HG := n1_; have H5 := n2_; clear n1_ n2_
          obtain ⟨w9, hr9, hm9, hg9⟩ := map_update_new (P := Try.prog) cls_keys Try.underlying140 HG.out.mc (clsI x) (.int .i64 (S.length : Int)) (by rw [numbered_keys]; exact HIN.out)
          replace hr9 : (Instr.mapUpdate 140 (.map (some gc)) (.agg #[.int .u64 x.f2.f0, .int .u64 x.f2.f1, .int .u64 x.f2.f2, .int .u64 x.f2.f3]) (.int .i64 (S.length : Int))).run Try.prog w8 = .ok () w9 := hr9
          refine wpList_mute (w' := w9) rfl (by go_simp) ?_
          have n1_ := Aside0.mk (HG.out.mapC hm9 hg9)
          have n2_ := Aside0.mk (H5.out.grown hg9 (by have := HG5.out; have := HG.out.ge; simp; omega))
          clear HG H5 hm9 hr9 hg9
          have HG := n1_
          have H5 := n2_
          clear n1_ n2_
          go_wp2
          refine wp_region_held_drew (S := fun W => RowAt W g5 78 (insCells x)) (by kernel_rfl) (H5.out.below (below_drew (Below.refl _ _))) (fun hH => ?_)
          have n1_ := Aside0.mk (HG.out.below (below_drew (Below.refl _ _)))
          clear HG H5
          have HG := n1_
          clear n1_
          generalize w9.drew = w5 at *
          refine wpAnyH_take (i := 0) (oi := _) (v := .pointer (some ⟨gt, 0, none⟩)) rfl (by kernel_rfl) (by kernel_rfl) (by kernel_rfl) (fun _ _ _ h => h) (Or.inl ⟨by rfl, fun w hw => by go_simp⟩) hH ?_; simp only [List.getElem_toArray, List.getElem_cons_zero, List.getElem_cons_succ, Act.put, List.setIfInBounds_toArray, List.set_cons_zero, List.set_cons_succ]
          refine wpAnyH_take (i := 1) (oi := _) (v := .pointer (some ⟨gt, 0, none⟩)) rfl (by kernel_rfl) (by kernel_rfl) (by kernel_rfl) (fun _ _ _ h => h) (Or.inl ⟨by rfl, fun w hw => by go_simp⟩) hH ?_; simp only [List.getElem_toArray, List.getElem_cons_zero, List.getElem_cons_succ, Act.put, List.setIfInBounds_toArray, List.set_cons_zero, List.set_cons_succ]
          refine wpAnyH_take (i := 2) (oi := _) (v := .pointer (some ⟨gt, 0, none⟩)) rfl (by kernel_rfl) (by kernel_rfl) (by kernel_rfl) (fun _ _ _ h => h) (Or.inl ⟨by rfl, fun w hw => by go_simp⟩) hH ?_; simp only [List.getElem_toArray, List.getElem_cons_zero, List.getElem_cons_succ, Act.put, List.setIfInBounds_toArray, List.set_cons_zero, List.set_cons_succ]
          refine wpAnyH_take (i := 3) (oi := _) (v := .pointer (some ⟨gt, 2, none⟩)) rfl (by kernel_rfl) (by kernel_rfl) (by kernel_rfl) (fun _ _ _ h => h) (Or.inl ⟨by rfl, fun w hw => by go_simp⟩) hH ?_; simp only [List.getElem_toArray, List.getElem_cons_zero, List.getElem_cons_succ, Act.put, List.setIfInBounds_toArray, List.set_cons_zero, List.set_cons_succ]
          refine wpAnyH_take (i := 5) (oi := _) (v := .pointer (some ⟨g5, 2, none⟩)) rfl (by kernel_rfl) (by kernel_rfl) (by kernel_rfl) (fun _ _ _ h => h) (Or.inl ⟨by rfl, fun w hw => by go_simp⟩) hH ?_; simp only [List.getElem_toArray, List.getElem_cons_zero, List.getElem_cons_succ, Act.put, List.setIfInBounds_toArray, List.set_cons_zero, List.set_cons_succ]
          refine wpAnyH_take (i := 6) (oi := _) (v := .agg #[.int .u64 x.f2.f0, .int .u64 x.f2.f1, .int .u64 x.f2.f2, .int .u64 x.f2.f3]) rfl (by kernel_rfl) (by kernel_rfl) (by kernel_rfl) (fun _ _ _ h => h) (Or.inl ⟨by rfl, fun w hw => by (obtain ⟨x0, x1, x2, x3, x4, x5, x6⟩ := cells7 hw; go_simp)⟩) hH ?_; simp only [List.getElem_toArray, List.getElem_cons_zero, List.getElem_cons_succ, Act.put, List.setIfInBounds_toArray, List.set_cons_zero, List.set_cons_succ]
          refine wpAnyH_ready (rs := [4, 7]) (by kernel_rfl) (by simp) ?_
          refine AllReadyH.cons (o := _) rfl (fun K hK => ?A) (AllReadyH.cons (o := _) rfl (fun K hK => ?B) AllReadyH.nil)
          case' A =>
            refine rstep_value (v := .slice As S.length cs) (w' := w5) (by rfl) (by (obtain ⟨r0, r1, r2, r3⟩ := cells4 HG.out.row; go_simp)) ?_
            refine hK.out _ _ hH (fun _ => ?_); clear hK K; simp only [List.getElem_toArray, List.getElem_cons_zero, List.getElem_cons_succ, Act.put, List.setIfInBounds_toArray, List.set_cons_zero, List.set_cons_succ]
            refine wpAnyH_ready (rs := [7]) (by kernel_rfl) (by simp) ?_; refine AllReadyH.cons (o := _) rfl (fun K hK => ?_) AllReadyH.nil
            refine rstep_value (v := .slice (some ⟨w5.heap.size, 0, none⟩) 1 1) (w' := w5.alloc (.cells #[.int .u64 x.f2.f0, .int .u64 x.f2.f1, .int .u64 x.f2.f2, .int .u64 x.f2.f3] 76 (0, 0))) (by rfl) (by go_simp) ?_
            refine hK.out _ _ (hH.below (below_alloc (Below.refl _ _) _)) (fun _ => ?_)
            clear hK K
            simp only [List.getElem_toArray, List.getElem_cons_zero, List.getElem_cons_succ, Act.put, List.setIfInBounds_toArray, List.set_cons_zero, List.set_cons_succ]
          case' B =>
            refine rstep_value (v := .slice (some ⟨w5.heap.size, 0, none⟩) 1 1) (w' := w5.alloc (.cells #[.int .u64 x.f2.f0, .int .u64 x.f2.f1, .int .u64 x.f2.f2, .int .u64 x.f2.f3] 76 (0, 0))) (by rfl) (by go_simp) ?_
            have hH9 := hH.below (below_alloc (Below.refl w5.heap.size w5) (.cells #[.int .u64 x.f2.f0, .int .u64 x.f2.f1, .int .u64 x.f2.f2, .int .u64 x.f2.f3] 76 (0, 0)))
            refine hK.out _ _ hH9 (fun _ => ?_)
            clear hK K
            simp only [List.getElem_toArray, List.getElem_cons_zero, List.getElem_cons_succ, Act.put, List.setIfInBounds_toArray, List.set_cons_zero, List.set_cons_succ]
            refine wpAnyH_ready (rs := [4]) (by kernel_rfl) (by simp) ?_; refine AllReadyH.cons (o := _) rfl (fun K hK => ?_) AllReadyH.nil
            refine rstep_value (v := .slice As S.length cs) (w' := w5.alloc (.cells #[.int .u64 x.f2.f0, .int .u64 x.f2.f1, .int .u64 x.f2.f2, .int .u64 x.f2.f3] 76 (0, 0))) (by rfl) (by (obtain ⟨r0, r1, r2, r3⟩ := cells4 (HG.out.row.below (below_alloc (Below.refl w5.heap.size w5) (.cells #[.int .u64 x.f2.f0, .int .u64 x.f2.f1, .int .u64 x.f2.f2, .int .u64 x.f2.f3] 76 (0, 0)))); generalize w5.alloc (.cells #[.int .u64 x.f2.f0, .int .u64 x.f2.f1, .int .u64 x.f2.f2, .int .u64 x.f2.f3] 76 (0, 0)) = wz at *; go_simp)) ?_
            refine hK.out _ _ hH9 (fun _ => ?_)
            clear hK K hH9
            simp only [List.getElem_toArray, List.getElem_cons_zero, List.getElem_cons_succ, Act.put, List.setIfInBounds_toArray, List.set_cons_zero, List.set_cons_succ]
          all_goals
            refine wpAnyH_ready (rs := [8]) (by kernel_rfl) (by simp) ?_; refine AllReadyH.cons (o := _) rfl (fun K hK => ?_) AllReadyH.nil
            refine rstep_append w.heap.size (by rfl) (.tmp 52) (.tmp 55) 85 76 (.agg #[.int .u64 0, .int .u64 0, .int .u64 0, .int .u64 0]) 4 32 rfl Try.underlying85 (by kernel_rfl) rfl (by decide) (by decide) (.slice As S.length cs) S.length (S.flatMap clsCells) (clsCells (clsI x)) rfl rfl rfl (by simp [clsCells, Value.oneCell']) HG.out.s HG.out.bel.size (by have := HSL.out; omega) ?_
            intro v5 w8 hown hgr hat
            have n1_ := Aside0.mk (HG.out.addS hown hgr hat)
            have h5 := hH.grown hgr (fun e => HG5.out.2.1 e.symm)
            obtain ⟨A5, c5, rfl⟩ := own_len hown
            clear HG hown hgr hat hH
            have HG := n1_
            have hH := h5
            clear n1_ h5
            refine hK.out _ _ hH (fun _ => ?_); clear hK K; simp only [List.getElem_toArray, List.getElem_cons_zero, List.getElem_cons_succ, Act.put, List.setIfInBounds_toArray, List.set_cons_zero, List.set_cons_succ]
            refine wpAnyH_take (i := 9) (oi := _) (v := .pointer (some ⟨gt, 0, none⟩)) rfl (by kernel_rfl) (by kernel_rfl) (by kernel_rfl) (fun _ _ _ h => h) (Or.inl ⟨by rfl, fun w hw => by go_simp⟩) hH ?_; simp only [List.getElem_toArray, List.getElem_cons_zero, List.getElem_cons_succ, Act.put, List.setIfInBounds_toArray, List.set_cons_zero, List.set_cons_succ]
            refine wpAnyH_take (i := 10) (oi := _) (v := .pointer (some ⟨gt, 2, none⟩)) rfl (by kernel_rfl) (by kernel_rfl) (by kernel_rfl) (fun _ _ _ h => h) (Or.inl ⟨by rfl, fun w hw => by go_simp⟩) hH ?_; simp only [List.getElem_toArray, List.getElem_cons_zero, List.getElem_cons_succ, Act.put, List.setIfInBounds_toArray, List.set_cons_zero, List.set_cons_succ]
            refine wpAnyH_ready (rs := [11]) (by kernel_rfl) (by simp) ?_; refine AllReadyH.cons (o := _) rfl (fun K hK => ?_) AllReadyH.nil
            refine rstep_store (by rfl) 85 (.tmp 58) (.tmp 56) rfl (g := gt) (off := 2) (u := .slice A5 (S.length + 1) c5) (seg := [.slice A5 (S.length + 1) c5]) rfl rfl HG.out.row rfl (by kernel_rfl) (by simp) (by simp [Value.oneCell']) ?_
            intro w10 hrow hgr
            have n1_ := Aside0.mk (HG.out.put hrow hgr)
            have h5 := hH.grown hgr (by have := HG5.out; simp; omega)
            clear HG hrow hgr hH
            have HG := n1_
            have hH := h5
            clear n1_ h5
            refine hK.out _ _ hH (fun _ => ?_); clear hK K; simp only [List.getElem_toArray, List.getElem_cons_zero, List.getElem_cons_succ, Act.put, List.setIfInBounds_toArray, List.set_cons_zero, List.set_cons_succ]
            refine wpAnyH_done (by kernel_rfl) ?_ _
            clear hH
            go_wp2
            go_roundw
            case measure => have h2 := of_eq_true q0; have h3 := of_eq_true p0; show l.length - (i + 1).toNat < l.length - i.toNat; omega
            case rel => exact ⟨i + 1, _, vt, rfl, ⟨by have := HI.out; have := of_eq_true q0; omega⟩, by rw [HSC.out, HSN.out, addC, addN, HK.out, if_pos rfl, once, if_neg HIN.out]; exact ⟨by have h := HG.out; rw [← numbered_snoc, ← List.length_singleton (a := clsI x)] at h; exact h⟩⟩
      · have HK := Aside0.mk k
        clear k
        go_wp2_with (first
          | ((with_reducible refine gate_dst (N := 5) rfl ?_); refine box_event (N := 5) rfl rfl (cs := #[.int .i64 0, .int .i64 0, .int .u64 0, .int .u64 0, .int .u64 0, .int .u64 0, .string (⟨#[]⟩ : ByteArray)]) (t := 78) ?hr2 ?_; (case hr2 => first | (go_simp; done) | (go_simp; rfl)); intro g5 hg5 w3 hbox hb1; have H5 := Aside0.mk (show RowAt w3 g5 78 (insCells zIns) from ⟨_, hbox, rfl⟩); have HG5 := Aside0.mk (show gt < g5 ∧ vs.ownBlock ≠ some g5 ∧ vt.ownBlock ≠ some g5 from new_off HG.out hg5); have n1_ := Aside0.mk (HG.out.below hb1); clear HG hbox hb1 hg5 x0 x1 x2 x3 x4 x5 x6; have HG := n1_; clear n1_)
          | ((with_reducible refine gate_store (t := 78) (p := 5) rfl ?_); refine put_event rfl rfl 78 (.tmp 5) (.tmp 19) rfl (off := 0) (u := .agg #[.int .i64 x.f0, .int .i64 x.f1, .int .u64 x.f2.f0, .int .u64 x.f2.f1, .int .u64 x.f2.f2, .int .u64 x.f2.f3, .string x.f3]) (seg := insCells x) rfl rfl H5.out rfl (by kernel_rfl) (by simp [insCells]) (by simp [insCells, Value.oneCell']) ?_; intro w4 hrow hgr; have n1_ := Aside0.mk (HG.out.other hgr HG5.out.1 HG5.out.2.1 HG5.out.2.2); clear HG H5 hgr; have HG := n1_; clear n1_; have H5 := Aside0.mk (show RowAt w4 g5 78 (insCells x) from hrow); clear hrow; obtain ⟨x0, x1, x2, x3, x4, x5, x6⟩ := cells7 H5.out)
          | (go_at_call 99; refine (operand_lit _ 3 HK.out _).mono ?_; rintro r w6 ⟨rfl, hb⟩; have n1_ := Aside0.mk (HG.out.below hb); have n2_ := Aside0.mk (H5.out.below hb); clear HG H5 hb x0 x1 x2 x3 x4 x5 x6; have HG := n1_; have H5 := n2_; clear n1_ n2_))
        obtain ⟨x0, x1, x2, x3, x4, x5, x6⟩ := cells7 H5.out
        obtain ⟨r0, r1, r2, r3⟩ := cells4 HG.out.row
        by_cases hin : x.f3 ∈ T
        · have hlk : ∀ n, (Instr.lookup 94 (.map (some gn)) (.string x.f3) true).run Try.prog (w6.drewN n) = .ok (.tuple #[.int .i64 (placeOf T x.f3 : Int), .bool true]) (w6.drewN n) := fun n => name_old hin true _ (HG.out.drewN n).mn
          have HIN := Aside0.mk hin
          clear hin
          go_quiet (fail)
          have n1_ := Aside0.mk (HG.out.drewN nq); have n2_ := Aside0.mk (H5.out.below (pw_below_drewN (Below.refl _ _) nq)); clear HG H5 x0 x1 x2 x3 x4 x5 x6 r0 r1 hlk; have HG := n1_; have H5 := n2_; clear n1_ n2_; obtain ⟨x0, x1, x2, x3, x4, x5, x6⟩ := cells7 H5.out; obtain ⟨r0, r1, r2, r3⟩ := cells4 HG.out.row
          go_wp2
          go_roundw
          case measure => have h2 := of_eq_true q0; have h3 := of_eq_true p0; show l.length - (i + 1).toNat < l.length - i.toNat; omega
          case rel => exact ⟨i + 1, vs, vt, rfl, ⟨by have := HI.out; have := of_eq_true q0; omega⟩, by rw [HSC.out, HSN.out, addC, addN, HK.out, if_neg (by decide), if_pos rfl, once, if_pos HIN.out]; exact HG⟩
        · have hlk : ∀ n, (Instr.lookup 94 (.map (some gn)) (.string x.f3) true).run Try.prog (w6.drewN n) = .ok (.tuple #[.int .i64 0, .bool false]) (w6.drewN n) := fun n => name_new hin _ (HG.out.drewN n).mn
          have HIN := Aside0.mk hin
          obtain ⟨As, cs, rfl⟩ := own_len HG.out.t
          clear hin
          go_quiet (fail)
          have n1_ := Aside0.mk (HG.out.drewN nq); have n2_ := Aside0.mk (H5.out.below (pw_below_drewN (Below.refl _ _) nq)); clear HG H5 x0 x1 x2 x3 x4 x5 x6 r0 r1 hlk; have HG := n1_; have H5 := n2_; clear n1_ n2_; obtain ⟨x0, x1, x2, x3, x4, x5, x6⟩ := cells7 H5.out; obtain ⟨r0, r1, r2, r3⟩ := cells4 HG.out.row
          generalize w6.drewN nq = w7 at *
          go_wp2
          go_still_tail 11, (by kernel_rfl)
          change wpList _ _ _ _ _ w7.drew
          have n1_ := Aside0.mk (HG.out.below (below_drew (Below.refl _ _))); have n2_ := Aside0.mk (H5.out.below (below_drew (Below.refl _ _))); clear HG H5 x0 x1 x2 x3 x4 x5 x6 r0 r1 r2 r3; generalize w7.drew = w8 at *; have HG := n1_; have H5 := n2_; clear n1_ n2_
          obtain ⟨w9, hr9, hm9, hg9⟩ := map_update_new (P := Try.prog) str_keys Try.underlying94 HG.out.mn x.f3 (.int .i64 (T.length : Int)) (by rw [numbered_keys]; exact HIN.out)
          replace hr9 : (Instr.mapUpdate 94 (.map (some gn)) (.string x.f3) (.int .i64 (T.length : Int))).run Try.prog w8 = .ok () w9 := hr9
          refine wpList_mute (w' := w9) rfl (by go_simp) ?_
          have n1_ := Aside0.mk (HG.out.mapN hm9 hg9)
          have n2_ := Aside0.mk (H5.out.grown hg9 (by have := HG5.out; have := HG.out.ge; simp; omega))
          clear HG H5 hm9 hr9 hg9
          have HG := n1_
          have H5 := n2_
          clear n1_ n2_
          go_wp2
          refine wp_region_held_drew (S := fun W => RowAt W g5 78 (insCells x)) (by kernel_rfl) (H5.out.below (below_drew (Below.refl _ _))) (fun hH => ?_)
          have n1_ := Aside0.mk (HG.out.below (below_drew (Below.refl _ _)))
          clear HG H5
          have HG := n1_
          clear n1_
          generalize w9.drew = w5 at *
          refine wpAnyH_take (i := 0) (oi := _) (v := .pointer (some ⟨gt, 0, none⟩)) rfl (by kernel_rfl) (by kernel_rfl) (by kernel_rfl) (fun _ _ _ h => h) (Or.inl ⟨by rfl, fun w hw => by go_simp⟩) hH ?_; simp only [List.getElem_toArray, List.getElem_cons_zero, List.getElem_cons_succ, Act.put, List.setIfInBounds_toArray, List.set_cons_zero, List.set_cons_succ]
          refine wpAnyH_take (i := 1) (oi := _) (v := .pointer (some ⟨gt, 0, none⟩)) rfl (by kernel_rfl) (by kernel_rfl) (by kernel_rfl) (fun _ _ _ h => h) (Or.inl ⟨by rfl, fun w hw => by go_simp⟩) hH ?_; simp only [List.getElem_toArray, List.getElem_cons_zero, List.getElem_cons_succ, Act.put, List.setIfInBounds_toArray, List.set_cons_zero, List.set_cons_succ]
          refine wpAnyH_take (i := 2) (oi := _) (v := .pointer (some ⟨gt, 0, none⟩)) rfl (by kernel_rfl) (by kernel_rfl) (by kernel_rfl) (fun _ _ _ h => h) (Or.inl ⟨by rfl, fun w hw => by go_simp⟩) hH ?_; simp only [List.getElem_toArray, List.getElem_cons_zero, List.getElem_cons_succ, Act.put, List.setIfInBounds_toArray, List.set_cons_zero, List.set_cons_succ]
          refine wpAnyH_take (i := 3) (oi := _) (v := .pointer (some ⟨gt, 3, none⟩)) rfl (by kernel_rfl) (by kernel_rfl) (by kernel_rfl) (fun _ _ _ h => h) (Or.inl ⟨by rfl, fun w hw => by go_simp⟩) hH ?_; simp only [List.getElem_toArray, List.getElem_cons_zero, List.getElem_cons_succ, Act.put, List.setIfInBounds_toArray, List.set_cons_zero, List.set_cons_succ]
          refine wpAnyH_take (i := 5) (oi := _) (v := .pointer (some ⟨g5, 6, none⟩)) rfl (by kernel_rfl) (by kernel_rfl) (by kernel_rfl) (fun _ _ _ h => h) (Or.inl ⟨by rfl, fun w hw => by go_simp⟩) hH ?_; simp only [List.getElem_toArray, List.getElem_cons_zero, List.getElem_cons_succ, Act.put, List.setIfInBounds_toArray, List.set_cons_zero, List.set_cons_succ]
          refine wpAnyH_take (i := 6) (oi := _) (v := .string x.f3) rfl (by kernel_rfl) (by kernel_rfl) (by kernel_rfl) (fun _ _ _ h => h) (Or.inl ⟨by rfl, fun w hw => by (obtain ⟨x0, x1, x2, x3, x4, x5, x6⟩ := cells7 hw; go_simp)⟩) hH ?_; simp only [List.getElem_toArray, List.getElem_cons_zero, List.getElem_cons_succ, Act.put, List.setIfInBounds_toArray, List.set_cons_zero, List.set_cons_succ]
          refine wpAnyH_ready (rs := [4, 7]) (by kernel_rfl) (by simp) ?_
          refine AllReadyH.cons (o := _) rfl (fun K hK => ?AA) (AllReadyH.cons (o := _) rfl (fun K hK => ?BB) AllReadyH.nil)
          case' AA =>
            refine rstep_value (v := .slice As T.length cs) (w' := w5) (by rfl) (by (obtain ⟨r0, r1, r2, r3⟩ := cells4 HG.out.row; go_simp)) ?_
            refine hK.out _ _ hH (fun _ => ?_); clear hK K; simp only [List.getElem_toArray, List.getElem_cons_zero, List.getElem_cons_succ, Act.put, List.setIfInBounds_toArray, List.set_cons_zero, List.set_cons_succ]
            refine wpAnyH_ready (rs := [7]) (by kernel_rfl) (by simp) ?_; refine AllReadyH.cons (o := _) rfl (fun K hK => ?_) AllReadyH.nil
            refine rstep_value (v := .slice (some ⟨w5.heap.size, 0, none⟩) 1 1) (w' := w5.alloc (.cells #[.string x.f3] 9 (0, 0))) (by rfl) (by go_simp) ?_
            refine hK.out _ _ (hH.below (below_alloc (Below.refl _ _) _)) (fun _ => ?_)
            clear hK K
            simp only [List.getElem_toArray, List.getElem_cons_zero, List.getElem_cons_succ, Act.put, List.setIfInBounds_toArray, List.set_cons_zero, List.set_cons_succ]
          case' BB =>
            refine rstep_value (v := .slice (some ⟨w5.heap.size, 0, none⟩) 1 1) (w' := w5.alloc (.cells #[.string x.f3] 9 (0, 0))) (by rfl) (by go_simp) ?_
            have hH9 := hH.below (below_alloc (Below.refl w5.heap.size w5) (.cells #[.string x.f3] 9 (0, 0)))
            refine hK.out _ _ hH9 (fun _ => ?_)
            clear hK K
            simp only [List.getElem_toArray, List.getElem_cons_zero, List.getElem_cons_succ, Act.put, List.setIfInBounds_toArray, List.set_cons_zero, List.set_cons_succ]
            refine wpAnyH_ready (rs := [4]) (by kernel_rfl) (by simp) ?_; refine AllReadyH.cons (o := _) rfl (fun K hK => ?_) AllReadyH.nil
            refine rstep_value (v := .slice As T.length cs) (w' := w5.alloc (.cells #[.string x.f3] 9 (0, 0))) (by rfl) (by (obtain ⟨r0, r1, r2, r3⟩ := cells4 (HG.out.row.below (below_alloc (Below.refl w5.heap.size w5) (.cells #[.string x.f3] 9 (0, 0)))); generalize w5.alloc (.cells #[.string x.f3] 9 (0, 0)) = wz at *; go_simp)) ?_
            refine hK.out _ _ hH9 (fun _ => ?_)
            clear hK K hH9
            simp only [List.getElem_toArray, List.getElem_cons_zero, List.getElem_cons_succ, Act.put, List.setIfInBounds_toArray, List.set_cons_zero, List.set_cons_succ]
          all_goals
            refine wpAnyH_ready (rs := [8]) (by kernel_rfl) (by simp) ?_; refine AllReadyH.cons (o := _) rfl (fun K hK => ?_) AllReadyH.nil
            refine rstep_append w.heap.size (by rfl) (.tmp 88) (.tmp 91) 86 9 (.string (⟨#[]⟩ : ByteArray)) 1 16 rfl Try.underlying86 (by kernel_rfl) rfl (by decide) (by decide) (.slice As T.length cs) T.length (T.map Value.string) [.string x.f3] rfl rfl rfl (by simp [Value.oneCell']) HG.out.t HG.out.bel.size (by have := HSL.out; omega) ?_
            intro v5 w8 hown hgr hat
            have n1_ := Aside0.mk (HG.out.addT hown hgr hat)
            have h5 := hH.grown hgr (fun e => HG5.out.2.2 e.symm)
            obtain ⟨A5, c5, rfl⟩ := own_len hown
            clear HG hown hgr hat hH
            have HG := n1_
            have hH := h5
            clear n1_ h5
            refine hK.out _ _ hH (fun _ => ?_); clear hK K; simp only [List.getElem_toArray, List.getElem_cons_zero, List.getElem_cons_succ, Act.put, List.setIfInBounds_toArray, List.set_cons_zero, List.set_cons_succ]
            refine wpAnyH_take (i := 9) (oi := _) (v := .pointer (some ⟨gt, 0, none⟩)) rfl (by kernel_rfl) (by kernel_rfl) (by kernel_rfl) (fun _ _ _ h => h) (Or.inl ⟨by rfl, fun w hw => by go_simp⟩) hH ?_; simp only [List.getElem_toArray, List.getElem_cons_zero, List.getElem_cons_succ, Act.put, List.setIfInBounds_toArray, List.set_cons_zero, List.set_cons_succ]
            refine wpAnyH_take (i := 10) (oi := _) (v := .pointer (some ⟨gt, 3, none⟩)) rfl (by kernel_rfl) (by kernel_rfl) (by kernel_rfl) (fun _ _ _ h => h) (Or.inl ⟨by rfl, fun w hw => by go_simp⟩) hH ?_; simp only [List.getElem_toArray, List.getElem_cons_zero, List.getElem_cons_succ, Act.put, List.setIfInBounds_toArray, List.set_cons_zero, List.set_cons_succ]
            refine wpAnyH_ready (rs := [11]) (by kernel_rfl) (by simp) ?_; refine AllReadyH.cons (o := _) rfl (fun K hK => ?_) AllReadyH.nil
            refine rstep_store (by rfl) 86 (.tmp 94) (.tmp 92) rfl (g := gt) (off := 3) (u := .slice A5 (T.length + 1) c5) (seg := [.slice A5 (T.length + 1) c5]) rfl rfl HG.out.row rfl (by kernel_rfl) (by simp) (by simp [Value.oneCell']) ?_
            intro w10 hrow hgr
            have n1_ := Aside0.mk (HG.out.put hrow hgr)
            have h5 := hH.grown hgr (by have := HG5.out; simp; omega)
            clear HG hrow hgr hH
            have HG := n1_
            have hH := h5
            clear n1_ h5
            refine hK.out _ _ hH (fun _ => ?_); clear hK K; simp only [List.getElem_toArray, List.getElem_cons_zero, List.getElem_cons_succ, Act.put, List.setIfInBounds_toArray, List.set_cons_zero, List.set_cons_succ]
            refine wpAnyH_done (by kernel_rfl) ?_ _
            clear hH
            go_wp2
            go_roundw
            case measure => have h2 := of_eq_true q0; have h3 := of_eq_true p0; show l.length - (i + 1).toNat < l.length - i.toNat; omega
            case rel => exact ⟨i + 1, vs, _, rfl, ⟨by have := HI.out; have := of_eq_true q0; omega⟩, by rw [HSC.out, HSN.out, addC, addN, HK.out, if_neg (by decide), if_pos rfl, once, if_neg HIN.out]; exact ⟨by have h := HG.out; rw [← numbered_snoc, ← List.length_singleton (a := x.f3)] at h; exact h⟩⟩
    · have k2 : decide (i < (l.length : Int)) = false := decide_eq_false c2
      go_wp2
      go_ret
      refine ⟨gt, rfl, gc, gn, vs, vt, ?_⟩
      have := HG.out
      rwa [List.take_of_length_le (by have := HI.out; omega)] at this
end
end Go.Proofs.Ytebiogaacikphaa.Pack
end
section
namespace Go.Proofs.Ytebiogaacikphaa.Pack
open Go.RowKit Go.Proofs.YtebiogaacikphaaW.PrintWords Go.Proofs.Ytebiogaacikphaa.PAll Go.Proofs.Ytebiogaacikphaa.Names
set_option linter.unusedVariables false
set_option linter.unusedSimpArgs false
set_option linter.unnecessarySimpa false
theorem place_lt {α : Type} [DecidableEq α] {L : List α} {x : α} (h : x ∈ L) : placeOf L x < L.length := List.idxOf_lt_length_of_mem h
section
variable (w0 W : World) (gt gc gn : Nat) (vs vt : Value) (S : List Four) (T : List ByteArray) (i : Nat) (x : Ins)
set_option maxHeartbeats 4000000 in
set_option maxRecDepth 100000 in
theorem number_calls (hg : Tabs w0 W gt gc gn vs vt S T) (hi : i ≤ 65536) (h1 : kindOf x.f0 = 1 → 0 ≤ x.f1 ∧ x.f1 ≤ 65536) (h2 : kindOf x.f0 = 2 → clsI x ∈ S) (h3 : kindOf x.f0 = 3 → x.f3 ∈ T) (hS : S.length ≤ 65536) (hT : T.length ≤ 65536) :
    Calls Try.prog 75 #[.pointer (some ⟨gt, 0, none⟩), .int .i64 i, .agg #[.int .i64 x.f0, .int .i64 x.f1, .int .u64 x.f2.f0, .int .u64 x.f2.f1, .int .u64 x.f2.f2, .int .u64 x.f2.f3, .string x.f3]] W fun e W' => e = .returned (.int .u64 (operN i x S T : Int)) ∧ Below W.heap.size W W' := by
  have HG := Aside0.mk hg
  clear hg
  rcases kind4 x.f0 with k | k | k | k
  · have HK := Aside0.mk k
    have hop : operN i x S T = 0 := by rw [operN, if_neg (by omega), if_neg (by omega), if_neg (by omega)]
    rw [hop]
    clear k hop h1 h2 h3
    go_enter Try.func75, Try.ntmps75
    go_wp2_with (first
      | ((with_reducible refine gate_dst (N := 5) rfl ?_); refine box_event (N := 5) rfl rfl (cs := #[.int .i64 x.f0, .int .i64 x.f1, .int .u64 x.f2.f0, .int .u64 x.f2.f1, .int .u64 x.f2.f2, .int .u64 x.f2.f3, .string x.f3]) (t := 78) ?hr2 ?_; (case hr2 => first | (go_simp; done) | (go_simp; rfl)); intro g5 hg5 w3 hbox hb1; have H5 := Aside0.mk (show RowAt w3 g5 78 (insCells x) from ⟨_, hbox, rfl⟩); have HB := Aside0.mk hb1; have n1_ := Aside0.mk (HG.out.below hb1); clear HG hbox hb1 hg5; have HG := n1_; clear n1_; obtain ⟨x0, x1, x2, x3, x4, x5, x6⟩ := cells7 H5.out)
      | (go_at_call 99; refine (operand_lit _ 0 HK.out _).mono ?_; rintro r w6 ⟨rfl, hb⟩; have n1_ := Aside0.mk (HG.out.below hb); have n2_ := Aside0.mk (H5.out.below hb); have n3_ := Aside0.mk (below_step HB.out hb); clear HG H5 HB hb x0 x1 x2 x3 x4 x5 x6; have HG := n1_; have H5 := n2_; have HB := n3_; clear n1_ n2_ n3_; obtain ⟨x0, x1, x2, x3, x4, x5, x6⟩ := cells7 H5.out))
    go_ret
    exact ⟨rfl, HB.out⟩
  · have HK := Aside0.mk k
    have hop : operN i x S T = farN i x.f1 := by rw [operN, if_pos k]
    rw [hop]
    have hr := h1 k
    clear k hop h1 h2 h3
    have w1 : IntKind.i64.wrap (x.f1 - (i : Int)) = x.f1 - (i : Int) := IntWalk.i64_in _ (by omega)
    by_cases c : x.f1 - (i : Int) < 0
    · have b1 : decide (x.f1 - (i : Int) < 0) = true := decide_eq_true c
      have w2 : IntKind.i64.wrap (-2 * (x.f1 - (i : Int))) = -2 * (x.f1 - (i : Int)) := IntWalk.i64_in _ (by omega)
      have w3 : IntKind.i64.wrap (-2 * (x.f1 - (i : Int)) - 1) = -2 * (x.f1 - (i : Int)) - 1 := IntWalk.i64_in _ (by omega)
      have w4 : IntKind.u64.wrap (-2 * (x.f1 - (i : Int)) - 1) = -2 * (x.f1 - (i : Int)) - 1 := Bits.wrap_u64 _ (by omega) (by omega)
      have w5 : ((farN i x.f1 : Nat) : Int) = -2 * (x.f1 - (i : Int)) - 1 := by rw [farN, if_pos c]; omega
      rw [w5]
      clear c w5
      go_enter Try.func75, Try.ntmps75
      go_wp2_with (first
        | ((with_reducible refine gate_dst (N := 5) rfl ?_); refine box_event (N := 5) rfl rfl (cs := #[.int .i64 x.f0, .int .i64 x.f1, .int .u64 x.f2.f0, .int .u64 x.f2.f1, .int .u64 x.f2.f2, .int .u64 x.f2.f3, .string x.f3]) (t := 78) ?hr2 ?_; (case hr2 => first | (go_simp; done) | (go_simp; rfl)); intro g5 hg5 w3 hbox hb1; have H5 := Aside0.mk (show RowAt w3 g5 78 (insCells x) from ⟨_, hbox, rfl⟩); have HB := Aside0.mk hb1; have n1_ := Aside0.mk (HG.out.below hb1); clear HG hbox hb1 hg5; have HG := n1_; clear n1_; obtain ⟨x0, x1, x2, x3, x4, x5, x6⟩ := cells7 H5.out)
        | (go_at_call 99; refine (operand_lit _ 1 HK.out _).mono ?_; rintro r w6 ⟨rfl, hb⟩; have n1_ := Aside0.mk (HG.out.below hb); have n2_ := Aside0.mk (H5.out.below hb); have n3_ := Aside0.mk (below_step HB.out hb); clear HG H5 HB hb x0 x1 x2 x3 x4 x5 x6; have HG := n1_; have H5 := n2_; have HB := n3_; clear n1_ n2_ n3_; obtain ⟨x0, x1, x2, x3, x4, x5, x6⟩ := cells7 H5.out))
      go_ret
      exact ⟨rfl, HB.out⟩
    · have b1 : decide (x.f1 - (i : Int) < 0) = false := decide_eq_false c
      have w2 : IntKind.i64.wrap (2 * (x.f1 - (i : Int))) = 2 * (x.f1 - (i : Int)) := IntWalk.i64_in _ (by omega)
      have w4 : IntKind.u64.wrap (2 * (x.f1 - (i : Int))) = 2 * (x.f1 - (i : Int)) := Bits.wrap_u64 _ (by omega) (by omega)
      have w5 : ((farN i x.f1 : Nat) : Int) = 2 * (x.f1 - (i : Int)) := by rw [farN, if_neg c]; omega
      rw [w5]
      clear c w5
      go_enter Try.func75, Try.ntmps75
      go_wp2_with (first
        | ((with_reducible refine gate_dst (N := 5) rfl ?_); refine box_event (N := 5) rfl rfl (cs := #[.int .i64 x.f0, .int .i64 x.f1, .int .u64 x.f2.f0, .int .u64 x.f2.f1, .int .u64 x.f2.f2, .int .u64 x.f2.f3, .string x.f3]) (t := 78) ?hr2 ?_; (case hr2 => first | (go_simp; done) | (go_simp; rfl)); intro g5 hg5 w3 hbox hb1; have H5 := Aside0.mk (show RowAt w3 g5 78 (insCells x) from ⟨_, hbox, rfl⟩); have HB := Aside0.mk hb1; have n1_ := Aside0.mk (HG.out.below hb1); clear HG hbox hb1 hg5; have HG := n1_; clear n1_; obtain ⟨x0, x1, x2, x3, x4, x5, x6⟩ := cells7 H5.out)
        | (go_at_call 99; refine (operand_lit _ 1 HK.out _).mono ?_; rintro r w6 ⟨rfl, hb⟩; have n1_ := Aside0.mk (HG.out.below hb); have n2_ := Aside0.mk (H5.out.below hb); have n3_ := Aside0.mk (below_step HB.out hb); clear HG H5 HB hb x0 x1 x2 x3 x4 x5 x6; have HG := n1_; have H5 := n2_; have HB := n3_; clear n1_ n2_ n3_; obtain ⟨x0, x1, x2, x3, x4, x5, x6⟩ := cells7 H5.out))
      go_ret
      exact ⟨rfl, HB.out⟩
  · have HK := Aside0.mk k
    have hop : operN i x S T = placeOf S (clsI x) := by rw [operN, if_neg (by omega), if_pos k]
    rw [hop]
    have hin := Aside0.mk (h2 k)
    clear k hop h1 h2 h3
    have w1 : IntKind.u64.wrap (placeOf S (clsI x) : Int) = (placeOf S (clsI x) : Int) := Bits.wrap_u64 _ (by omega) (by have := place_lt hin.out; omega)
    go_enter Try.func75, Try.ntmps75
    go_wp2_with (first
      | ((with_reducible refine gate_dst (N := 5) rfl ?_); refine box_event (N := 5) rfl rfl (cs := #[.int .i64 x.f0, .int .i64 x.f1, .int .u64 x.f2.f0, .int .u64 x.f2.f1, .int .u64 x.f2.f2, .int .u64 x.f2.f3, .string x.f3]) (t := 78) ?hr2 ?_; (case hr2 => first | (go_simp; done) | (go_simp; rfl)); intro g5 hg5 w3 hbox hb1; have H5 := Aside0.mk (show RowAt w3 g5 78 (insCells x) from ⟨_, hbox, rfl⟩); have HB := Aside0.mk hb1; have n1_ := Aside0.mk (HG.out.below hb1); clear HG hbox hb1 hg5; have HG := n1_; clear n1_; obtain ⟨x0, x1, x2, x3, x4, x5, x6⟩ := cells7 H5.out)
      | (go_at_call 99; refine (operand_lit _ 2 HK.out _).mono ?_; rintro r w6 ⟨rfl, hb⟩; have n1_ := Aside0.mk (HG.out.below hb); have n2_ := Aside0.mk (H5.out.below hb); have n3_ := Aside0.mk (below_step HB.out hb); clear HG H5 HB hb x0 x1 x2 x3 x4 x5 x6; have HG := n1_; have H5 := n2_; have HB := n3_; clear n1_ n2_ n3_; obtain ⟨x0, x1, x2, x3, x4, x5, x6⟩ := cells7 H5.out))
    obtain ⟨r0, r1, r2, r3⟩ := cells4 HG.out.row
    have hlk : ∀ n, (Instr.lookup 140 (.map (some gc)) (.agg #[.int .u64 x.f2.f0, .int .u64 x.f2.f1, .int .u64 x.f2.f2, .int .u64 x.f2.f3]) false).run Try.prog (w6.drewN n) = .ok (.int .i64 (placeOf S (clsI x) : Int)) (w6.drewN n) := fun n => class_old hin.out false _ (HG.out.drewN n).mc
    go_quiet (fail)
    go_wp2
    go_ret
    exact ⟨rfl, pw_below_drewN HB.out nq⟩
  · have HK := Aside0.mk k
    have hop : operN i x S T = placeOf T x.f3 := by rw [operN, if_neg (by omega), if_neg (by omega), if_pos k]
    rw [hop]
    have hin := Aside0.mk (h3 k)
    clear k hop h1 h2 h3
    have w1 : IntKind.u64.wrap (placeOf T x.f3 : Int) = (placeOf T x.f3 : Int) := Bits.wrap_u64 _ (by omega) (by have := place_lt hin.out; omega)
    go_enter Try.func75, Try.ntmps75
    go_wp2_with (first
      | ((with_reducible refine gate_dst (N := 5) rfl ?_); refine box_event (N := 5) rfl rfl (cs := #[.int .i64 x.f0, .int .i64 x.f1, .int .u64 x.f2.f0, .int .u64 x.f2.f1, .int .u64 x.f2.f2, .int .u64 x.f2.f3, .string x.f3]) (t := 78) ?hr2 ?_; (case hr2 => first | (go_simp; done) | (go_simp; rfl)); intro g5 hg5 w3 hbox hb1; have H5 := Aside0.mk (show RowAt w3 g5 78 (insCells x) from ⟨_, hbox, rfl⟩); have HB := Aside0.mk hb1; have n1_ := Aside0.mk (HG.out.below hb1); clear HG hbox hb1 hg5; have HG := n1_; clear n1_; obtain ⟨x0, x1, x2, x3, x4, x5, x6⟩ := cells7 H5.out)
      | (go_at_call 99; refine (operand_lit _ 3 HK.out _).mono ?_; rintro r w6 ⟨rfl, hb⟩; have n1_ := Aside0.mk (HG.out.below hb); have n2_ := Aside0.mk (H5.out.below hb); have n3_ := Aside0.mk (below_step HB.out hb); clear HG H5 HB hb x0 x1 x2 x3 x4 x5 x6; have HG := n1_; have H5 := n2_; have HB := n3_; clear n1_ n2_ n3_; obtain ⟨x0, x1, x2, x3, x4, x5, x6⟩ := cells7 H5.out))
    obtain ⟨r0, r1, r2, r3⟩ := cells4 HG.out.row
    have hlk : ∀ n, (Instr.lookup 94 (.map (some gn)) (.string x.f3) false).run Try.prog (w6.drewN n) = .ok (.int .i64 (placeOf T x.f3 : Int)) (w6.drewN n) := fun n => name_old hin.out false _ (HG.out.drewN n).mn
    go_quiet (fail)
    go_wp2
    go_ret
    exact ⟨rfl, pw_below_drewN HB.out nq⟩
end
end Go.Proofs.Ytebiogaacikphaa.Pack
end
section
namespace Go.Proofs.Ytebiogaacikphaa.Pack
open Go.RowKit Go.Proofs.YtebiogaacikphaaW.PrintWords Go.Proofs.Ytebiogaacikphaa.PAll Go.Proofs.Ytebiogaacikphaa.Names
set_option linter.unusedVariables false
def ByteL (l : List Int) : Prop := ∀ x ∈ l, 0 ≤ x ∧ x < 256
theorem ByteL.tail {x : Int} {l : List Int} (h : ByteL (x :: l)) : ByteL l := fun y hy => h y (List.mem_cons_of_mem _ hy)
theorem ByteL.right {l r : List Int} (h : ByteL (l ++ r)) : ByteL r := fun y hy => h y (List.mem_append_right _ hy)
theorem ByteL.take {l : List Int} (h : ByteL l) (n : Nat) : ByteL (l.take n) := fun y hy => h y (List.mem_of_mem_take hy)
theorem ByteL.drop {l : List Int} (h : ByteL l) (n : Nat) : ByteL (l.drop n) := fun y hy => h y (List.mem_of_mem_drop hy)
theorem cnt_uniq (e fr : Nat) : ∀ (l : List Int) (k : Nat) (a v : Int) (r : List Int), ByteL l → cntL e fr k a l = .ok (v, r) → k ≤ 4 ∧ v ≤ 2147483647 ∧ ∃ m : Nat, v = a + (m : Int) * 128 ^ k ∧ l = cntE m ++ r ∧ (k = 0 ∨ 0 < m)
  | [], _, _, _, _, _, h => by cases h
  | x :: l, k, a, v, r, hb, h => by
    have hx := hb x List.mem_cons_self
    rw [cntL] at h
    generalize hN : (if k < 5 then a + x % 128 * 128 ^ k else a) = N at h
    by_cases c : 128 ≤ x
    · rw [if_pos c] at h
      obtain ⟨h1, h2, m, h3, h4, h5⟩ := cnt_uniq e fr l (k + 1) _ v r hb.tail h
      have hk : k < 5 := by omega
      rw [if_pos hk] at hN
      subst hN
      have hm : 0 < m := by omega
      refine ⟨by omega, h2, (x % 128).toNat + 128 * m, ?_, ?_, .inr (by omega)⟩
      · rw [h3, Int.natCast_add, Int.natCast_mul, Int.add_mul, Int.pow_succ, Int.toNat_of_nonneg (by omega), ← Int.add_assoc]
        congr 1
        show (m : Int) * (128 ^ k * 128) = (128 : Int) * m * 128 ^ k
        rw [Int.mul_comm (128 ^ k : Int) 128, ← Int.mul_assoc, Int.mul_comm (m : Int) 128]
      · rw [cntE, dif_neg (by omega), show ((x % 128).toNat + 128 * m) / 128 = m by omega, h4, List.cons_append]
        congr 1
        omega
    · rw [if_neg c] at h
      by_cases c2 : 4 < k ∨ (x = 0 ∧ 0 < k) ∨ 2147483647 < N
      · rw [if_pos c2] at h
        cases h
      · rw [if_neg c2] at h
        have hk : k ≤ 4 := by
          rcases Nat.lt_or_ge 4 k with h | h
          · exact absurd (.inl h) c2
          · exact h
        have h0 : k = 0 ∨ 0 < x.toNat := by
          by_cases hz : x = 0
          · rcases Nat.eq_zero_or_pos k with h | h
            · exact .inl h
            · exact absurd (.inr (.inl ⟨hz, h⟩)) c2
          · exact .inr (by omega)
        have hmx : ¬ 2147483647 < N := fun h => c2 (.inr (.inr h))
        injection h with h
        injection h with h1 h2
        subst h1 h2
        rw [if_pos (by omega)] at hN
        refine ⟨hk, by omega, x.toNat, ?_, ?_, h0⟩
        · rw [← hN, Int.toNat_of_nonneg hx.1, show x % 128 = x by omega]
        · rw [cntE, dif_pos (by omega), Int.toNat_of_nonneg hx.1]
          rfl
theorem count_uniq {e fr : Nat} {l r : List Int} {v : Int} (hb : ByteL l) (h : cntL e fr 0 0 l = .ok (v, r)) : 0 ≤ v ∧ v ≤ 2147483647 ∧ l = cntE v.toNat ++ r := by
  obtain ⟨_, h2, m, h3, h4, _⟩ := cnt_uniq e fr l 0 0 v r hb h
  have e : v = (m : Int) := by rw [h3]; simp
  subst e
  exact ⟨by omega, h2, h4⟩
theorem many_uniq {e fr : Nat} {l r : List Int} {v : Int} (hb : ByteL l) (h : manyL e fr l = .ok (v, r)) : 0 ≤ v ∧ v ≤ 65536 ∧ l = cntE v.toNat ++ r := by
  unfold manyL at h
  split at h
  · cases h
  · rename_i v' r' hc
    split at h
    · cases h
    · injection h with h
      injection h with h1 h2
      subst h1 h2
      have := count_uniq hb hc
      exact ⟨this.1, by omega, this.2.2⟩
theorem le_word : ∀ (l : List Int), ByteL l → leN l.length (wordOf l) = l
  | [], _ => rfl
  | x :: l, h => by
    have hx := h x List.mem_cons_self
    rw [List.length_cons, wordOf, leN, show (x + 256 * wordOf l) / 256 = wordOf l by omega, le_word l h.tail, show (x + 256 * wordOf l) % 256 = x by omega]
theorem le_word8 {l : List Int} (h : ByteL l) (h8 : l.length = 8) : leN 8 (wordOf l) = l := by rw [← h8]; exact le_word l h
theorem cls_uniq {l : List Int} (h : ByteL l) (h32 : l.length = 32) : clsE (clsOf l) = l ∧ FourOk (clsOf l) := by
  have t0 : (l.take 8).length = 8 := by rw [List.length_take]; omega
  have t1 : ((l.drop 8).take 8).length = 8 := by rw [List.length_take, List.length_drop]; omega
  have t2 : ((l.drop 16).take 8).length = 8 := by rw [List.length_take, List.length_drop]; omega
  have t3 : ((l.drop 24).take 8).length = 8 := by rw [List.length_take, List.length_drop]; omega
  have b0 := wordOf_lt _ (h.take 8)
  have b1 := wordOf_lt _ ((h.drop 8).take 8)
  have b2 := wordOf_lt _ ((h.drop 16).take 8)
  have b3 := wordOf_lt _ ((h.drop 24).take 8)
  rw [t0] at b0
  rw [t1] at b1
  rw [t2] at b2
  rw [t3] at b3
  have e8 : (256 : Int) ^ 8 = 18446744073709551616 := by decide
  rw [e8] at b0 b1 b2 b3
  refine ⟨?_, b0, b1, b2, b3⟩
  unfold clsE clsOf
  dsimp only
  rw [le_word8 (h.take 8) t0, le_word8 ((h.drop 8).take 8) t1, le_word8 ((h.drop 16).take 8) t2, le_word8 ((h.drop 24).take 8) t3]
  have e3 : (l.drop 24).take 8 = l.drop 24 := List.take_of_length_le (by rw [List.length_drop]; omega)
  have e2 : (l.drop 16).take 8 ++ l.drop 24 = l.drop 16 := by rw [show l.drop 24 = (l.drop 16).drop 8 by rw [List.drop_drop], List.take_append_drop]
  have e1 : (l.drop 8).take 8 ++ l.drop 16 = l.drop 8 := by rw [show l.drop 16 = (l.drop 8).drop 8 by rw [List.drop_drop], List.take_append_drop]
  rw [e3, e2, e1, List.take_append_drop]
theorem nodup_snoc {α : Type} {l : List α} {x : α} (h : l.Nodup) (hx : x ∉ l) : (l ++ [x]).Nodup :=
  List.nodup_append.2 ⟨h, by simp, fun a ha b hb => by
    rw [List.mem_singleton] at hb
    subst hb
    intro e
    exact hx (e ▸ ha)⟩
theorem classes_uniq (e : Nat) : ∀ (n : Nat) (acc : List Four) (l : List Int) (S : List Four) (r : List Int), ByteL l → acc.Nodup → classesL e n acc l = .ok (S, r) → ∃ R, S = acc ++ R ∧ R.length = n ∧ l = R.flatMap clsE ++ r ∧ (∀ c ∈ R, FourOk c) ∧ S.Nodup
  | 0, acc, l, S, r, hb, hn, h => by
    rw [classesL] at h
    injection h with h
    injection h with h1 h2
    subst h1 h2
    exact ⟨[], by simp, rfl, rfl, by simp, hn⟩
  | n + 1, acc, l, S, r, hb, hn, h => by
    rw [classesL] at h
    split at h
    · cases h
    · rename_i c1
      split at h
      · cases h
      · rename_i c2
        obtain ⟨R, h1, h2, h3, h4, h5⟩ := classes_uniq e n _ _ S r (hb.drop 32) (nodup_snoc hn c2) h
        have hc := cls_uniq (hb.take 32) (by rw [List.length_take]; omega)
        refine ⟨clsOf (l.take 32) :: R, by rw [h1]; simp, by rw [List.length_cons, h2], ?_, ?_, h5⟩
        · rw [List.flatMap_cons, hc.1, List.append_assoc, ← h3, List.take_append_drop]
        · intro c hcm
          rcases List.mem_cons.1 hcm with rfl | hcm
          · exact hc.2
          · exact h4 c hcm
theorem numsOf_str {l : List Int} (h : ByteL l) : numsOf (strOfNums l) = l := by
  rw [numsOf, strOfNums_data, List.map_map]
  have : ∀ x ∈ l, ((fun b : UInt8 => (b.toNat : Int)) ∘ fun n : Int => UInt8.ofNat n.toNat) x = x := by
    intro x hx
    have hx := h x hx
    show ((UInt8.ofNat x.toNat).toNat : Int) = x
    rw [UInt8.toNat_ofNat', Nat.mod_eq_of_lt (by omega)]
    omega
  rw [List.map_congr_left this, List.map_id']
theorem names_uniq (e : Nat) : ∀ (n : Nat) (acc : List ByteArray) (l : List Int) (S : List ByteArray) (r : List Int), ByteL l → acc.Nodup → namesL e n acc l = .ok (S, r) → ∃ R, S = acc ++ R ∧ R.length = n ∧ l = R.flatMap nameE ++ r ∧ (∀ s ∈ R, okName s = true) ∧ S.Nodup
  | 0, acc, l, S, r, hb, hn, h => by
    rw [namesL] at h
    injection h with h
    injection h with h1 h2
    subst h1 h2
    exact ⟨[], by simp, rfl, rfl, by simp, hn⟩
  | n + 1, acc, l, S, r, hb, hn, h => by
    rw [namesL] at h
    split at h
    · cases h
    · rename_i size r' hc
      obtain ⟨q1, q2, q3⟩ := count_uniq hb hc
      have hb' : ByteL r' := by rw [q3] at hb; exact hb.right
      split at h
      · cases h
      · split at h
        · cases h
        · rename_i c1 c2
          split at h
          · cases h
          · rename_i c3
            have ho : okName (strOfNums (r'.take size.toNat)) = true := by
              cases hk : okName (strOfNums (r'.take size.toNat)) with
              | true => rfl
              | false => exact absurd (.inl hk) c3
            have hm : strOfNums (r'.take size.toNat) ∉ acc := fun hm => c3 (.inr ((among_iff _ _).2 hm))
            obtain ⟨R, h1, h2, h3, h4, h5⟩ := names_uniq e n _ _ S r (hb'.drop size.toNat) (nodup_snoc hn hm) h
            have hnum := numsOf_str (hb'.take size.toNat)
            have hsz : (strOfNums (r'.take size.toNat)).size = size.toNat := by
              rw [← numsOf_length, hnum, List.length_take]
              omega
            refine ⟨strOfNums (r'.take size.toNat) :: R, by rw [h1]; simp, by rw [List.length_cons, h2], ?_, ?_, h5⟩
            · rw [List.flatMap_cons, nameE, hsz, hnum, List.append_assoc, List.append_assoc, ← h3, List.take_append_drop, ← q3]
            · intro c hcm
              rcases List.mem_cons.1 hcm with rfl | hcm
              · exact ho
              · exact h4 c hcm
theorem num_uniq {e : Nat} {x : Int} {r r' : List Int} {n : Nat} (hb : ByteL (x :: r)) (h : numL e x r = .ok (n, r')) : x :: r = insE (x % 16) n ++ r' := by
  have hx := hb x List.mem_cons_self
  unfold numL at h
  split at h
  · rename_i c
    split at h
    · cases h
    · rename_i v r2 hc
      obtain ⟨q1, q2, q3⟩ := count_uniq hb.tail hc
      injection h with h
      injection h with h1 h2
      subst h1 h2
      rw [insE, if_neg (by omega), q3, List.cons_append, show 15 + v.toNat - 15 = v.toNat by omega, show x % 16 + 240 = x by omega]
  · rename_i c
    injection h with h
    injection h with h1 h2
    subst h1 h2
    rw [insE, if_pos (by omega), Int.toNat_of_nonneg (by omega), show x % 16 + x / 16 * 16 = x by omega]
    rfl
theorem far_uniq (i n : Nat) : farN i (toOf i n) = n := by
  unfold farN toOf
  split <;> split <;> omega
theorem idx_uniq {α : Type} [DecidableEq α] {L : List α} (h : L.Nodup) {n : Nat} {x : α} (hx : L[n]? = some x) : placeOf L x = n := by
  obtain ⟨hn, rfl⟩ := List.getElem?_eq_some_iff.1 hx
  exact h.idxOf_getElem n hn
theorem once_take {α : Type} [DecidableEq α] {L : List α} (h : L.Nodup) {k n : Nat} {x : α} (hk : n ≤ k) (hkl : k ≤ L.length) (hx : L[n]? = some x) : once (L.take k) x = L.take (max k (n + 1)) ∧ max k (n + 1) ≤ L.length := by
  obtain ⟨hn, e⟩ := List.getElem?_eq_some_iff.1 hx
  refine ⟨?_, by omega⟩
  unfold once
  by_cases c : n < k
  · rw [if_pos, show max k (n + 1) = k by omega]
    rw [List.mem_iff_getElem?]
    exact ⟨n, by rw [List.getElem?_take_of_lt c, hx]⟩
  · have hkn : k = n := by omega
    subst hkn
    rw [if_neg, show max k (k + 1) = k + 1 by omega, List.take_add_one, hx]
    · rfl
    · intro hm
      obtain ⟨j, hj⟩ := List.mem_iff_getElem?.1 hm
      have hjk : j < k := by
        have := (List.getElem?_eq_some_iff.1 hj).1
        rw [List.length_take] at this
        omega
      rw [List.getElem?_take_of_lt hjk] at hj
      have h1 := idx_uniq h hj
      have h2 := idx_uniq h hx
      omega
theorem put_uniq {op : Int} {i n size kc kn kc' kn' : Nat} {S : List Four} {T : List ByteArray} {y : Ins} (ho : 0 ≤ op ∧ op ≤ 15) (hS : S.Nodup) (hT : T.Nodup) (hkc : kc ≤ S.length) (hkn : kn ≤ T.length) (h : putL op i n size kc kn S T = some (y, kc', kn')) :
    y.f0 = op ∧ InsOk size y ∧ operN i y S T = n ∧ addC (S.take kc) y = S.take kc' ∧ addN (T.take kn) y = T.take kn' ∧ kc' ≤ S.length ∧ kn' ≤ T.length ∧ (kindOf op = 3 → y.f3 ∈ T) := by
  unfold putL at h
  split at h
  · rename_i k
    split at h
    · rename_i c
      injection h with h
      injection h with h1 h2
      injection h2 with h2 h3
      subst h1 h2 h3
      refine ⟨rfl, ⟨ho, fun k' => absurd (k'.symm.trans k) (by decide), fun _ => ⟨rfl, c⟩, fun k' => absurd (k'.symm.trans k) (by decide), fun k' => absurd (k'.symm.trans k) (by decide)⟩, ?_, ?_, ?_, hkc, hkn, fun k' => absurd (k'.symm.trans k) (by decide)⟩
      · rw [operN, if_pos k]
        exact far_uniq i n
      · rw [addC, if_neg (by dsimp only; omega)]
      · rw [addN, if_neg (by dsimp only; omega)]
    · cases h
  · split at h
    · rename_i k1 k
      split at h
      · rename_i c
        split at h
        · rename_i z hz
          injection h with h
          injection h with h1 h2
          injection h2 with h2 h3
          subst h1 h2 h3
          obtain ⟨o1, o2⟩ := once_take hS c hkc hz
          refine ⟨rfl, ⟨ho, fun k' => absurd (k'.symm.trans k) (by decide), fun k' => absurd (k'.symm.trans k) (by decide), fun _ => rfl, fun k' => absurd (k'.symm.trans k) (by decide)⟩, ?_, ?_, ?_, o2, hkn, fun k' => absurd (k'.symm.trans k) (by decide)⟩
          · rw [operN, if_neg (by dsimp only; omega), if_pos k]
            exact idx_uniq hS hz
          · rw [addC, if_pos k]
            exact o1
          · rw [addN, if_neg (by dsimp only; omega)]
        · cases h
      · cases h
    · split at h
      · rename_i k1 k2 k
        split at h
        · rename_i c
          split at h
          · rename_i z hz
            injection h with h
            injection h with h1 h2
            injection h2 with h2 h3
            subst h1 h2 h3
            obtain ⟨o1, o2⟩ := once_take hT c hkn hz
            refine ⟨rfl, ⟨ho, fun k' => absurd (k'.symm.trans k) (by decide), fun k' => absurd (k'.symm.trans k) (by decide), fun k' => absurd (k'.symm.trans k) (by decide), fun _ => rfl⟩, ?_, ?_, ?_, hkc, o2, fun _ => List.mem_of_getElem? hz⟩
            · rw [operN, if_neg (by dsimp only; omega), if_neg (by dsimp only; omega), if_pos k]
              exact idx_uniq hT hz
            · rw [addC, if_neg (by dsimp only; omega)]
            · rw [addN, if_pos k]
              exact o1
          · cases h
        · cases h
      · rename_i k1 k2 k3
        have k0 : kindOf op = 0 := by rcases kind4 op with k | k | k | k <;> first | exact k | exact absurd k (by assumption)
        split at h
        · rename_i c
          injection h with h
          injection h with h1 h2
          injection h2 with h2 h3
          subst h1 h2 h3
          refine ⟨rfl, ⟨ho, fun _ => rfl, fun k' => absurd k' k1, fun k' => absurd k' k2, fun k' => absurd k' k3⟩, ?_, ?_, ?_, hkc, hkn, fun k' => absurd k' k3⟩
          · rw [operN, if_neg k1, if_neg k2, if_neg k3, c]
          · rw [addC, if_neg k2]
          · rw [addN, if_neg k3]
        · cases h
theorem ins_uniq (e size : Nat) (S : List Four) (T : List ByteArray) (hS : S.Nodup) (hT : T.Nodup) : ∀ (d i kc kn : Nat) (acc p : List Ins) (l r : List Int) (kc' kn' : Nat), ByteL l → kc ≤ S.length → kn ≤ T.length → insL e size S T d i kc kn acc l = .ok (p, kc', kn', r) →
    ∃ q, p = acc ++ q ∧ q.length = d ∧ l = progE S T i q ++ r ∧ q.foldl addC (S.take kc) = S.take kc' ∧ q.foldl addN (T.take kn) = T.take kn' ∧ kc' ≤ S.length ∧ kn' ≤ T.length ∧ (∀ x ∈ q, InsOk size x ∧ (kindOf x.f0 = 3 → x.f3 ∈ T))
  | 0, i, kc, kn, acc, p, l, r, kc', kn', hb, h1, h2, h => by
    rw [insL] at h
    injection h with h
    injection h with a1 h
    injection h with a2 h
    injection h with a3 a4
    subst a1 a2 a3 a4
    exact ⟨[], by simp, rfl, rfl, rfl, rfl, h1, h2, by simp⟩
  | d + 1, i, kc, kn, acc, p, [], r, kc', kn', hb, h1, h2, h => by rw [insL] at h; cases h
  | d + 1, i, kc, kn, acc, p, x :: l, r, kc', kn', hb, h1, h2, h => by
    have hx := hb x List.mem_cons_self
    rw [insL] at h
    split at h
    · cases h
    · rename_i n r' hn
      have hnu := num_uniq hb hn
      split at h
      · cases h
      · rename_i y kc1 kn1 hp
        obtain ⟨y1, y2, y3, y4, y5, y6, y7, y8⟩ := put_uniq (by omega) hS hT h1 h2 hp
        have hb' : ByteL r' := by rw [hnu] at hb; exact hb.right
        obtain ⟨q, q1, q2, q3, q4, q5, q6, q7, q8⟩ := ins_uniq e size S T hS hT d (i + 1) kc1 kn1 _ p r' r kc' kn' hb' y6 y7 h
        refine ⟨y :: q, by rw [q1]; simp, by rw [List.length_cons, q2], ?_, ?_, ?_, q6, q7, ?_⟩
        · rw [progE, y1, y3, List.append_assoc, ← q3, ← hnu]
        · rw [List.foldl_cons, y4, q4]
        · rw [List.foldl_cons, y5, q5]
        · intro z hz
          rcases List.mem_cons.1 hz with rfl | hz
          · exact ⟨y2, fun k => y8 (by rw [← y1]; exact k)⟩
          · exact q8 z hz
theorem tableC_uniq {e : Nat} {l r : List Int} {S : List Four} (hb : ByteL l) (h : tableC e l = .ok (S, r)) : l = cntE S.length ++ (S.flatMap clsE ++ r) ∧ (∀ c ∈ S, FourOk c) ∧ S.Nodup ∧ S.length ≤ 65536 := by
  unfold tableC at h
  cases hm : manyL e (e - l.length) l with
  | error f => rw [hm] at h; cases h
  | ok p =>
    obtain ⟨v, l1⟩ := p
    rw [hm] at h
    change classesL e v.toNat [] l1 = _ at h
    obtain ⟨q1, q2, q3⟩ := many_uniq hb hm
    have hb1 : ByteL l1 := by rw [q3] at hb; exact hb.right
    obtain ⟨R, h1, h2, h3, h4, h5⟩ := classes_uniq e _ [] l1 S r hb1 List.nodup_nil h
    rw [List.nil_append] at h1
    subst h1
    exact ⟨by rw [h2, ← h3, ← q3], h4, h5, by omega⟩
theorem tableN_uniq {e : Nat} {l r : List Int} {S : List ByteArray} (hb : ByteL l) (h : tableN e l = .ok (S, r)) : l = cntE S.length ++ (S.flatMap nameE ++ r) ∧ (∀ c ∈ S, okName c = true) ∧ S.Nodup ∧ S.length ≤ 65536 := by
  unfold tableN at h
  cases hm : manyL e (e - l.length) l with
  | error f => rw [hm] at h; cases h
  | ok p =>
    obtain ⟨v, l1⟩ := p
    rw [hm] at h
    change namesL e v.toNat [] l1 = _ at h
    obtain ⟨q1, q2, q3⟩ := many_uniq hb hm
    have hb1 : ByteL l1 := by rw [q3] at hb; exact hb.right
    obtain ⟨R, h1, h2, h3, h4, h5⟩ := names_uniq e _ [] l1 S r hb1 List.nodup_nil h
    rw [List.nil_append] at h1
    subst h1
    exact ⟨by rw [h2, ← h3, ← q3], h4, h5, by omega⟩
theorem program_uniq {e : Nat} {S : List Four} {T : List ByteArray} {l r : List Int} {p : List Ins} {kc kn : Nat} (hb : ByteL l) (hS : S.Nodup) (hT : T.Nodup) (h : programL e S T l = .ok (p, kc, kn, r)) :
    l = cntE p.length ++ (progE S T 0 p ++ r) ∧ p.foldl addC [] = S.take kc ∧ p.foldl addN [] = T.take kn ∧ 0 < p.length ∧ p.length ≤ 65536 ∧ (∀ x ∈ p, InsOk p.length x ∧ (kindOf x.f0 = 3 → x.f3 ∈ T)) ∧ kc ≤ S.length ∧ kn ≤ T.length := by
  unfold programL at h
  split at h
  · cases h
  · rename_i n l1 hm
    obtain ⟨q1, q2, q3⟩ := many_uniq hb hm
    have hb1 : ByteL l1 := by rw [q3] at hb; exact hb.right
    split at h
    · cases h
    · rename_i c
      obtain ⟨q, h1, h2, h3, h4, h5, h6, h7, h8⟩ := ins_uniq e n.toNat S T hS hT n.toNat 0 0 0 [] p l1 r kc kn hb1 (Nat.zero_le _) (Nat.zero_le _) h
      rw [List.nil_append] at h1
      subst h1
      rw [← h2] at h8
      exact ⟨by rw [h2, ← h3, ← q3], by simpa using h4, by simpa using h5, by omega, by omega, h8, h6, h7⟩
theorem inside_uniq {e : Nat} {l : List Int} {p : List Ins} (hb : ByteL l) (h : insideL e l = .ok p) : l = insideE p ∧ 0 < p.length ∧ p.length ≤ 65536 ∧ ∀ x ∈ p, rightB x p.length = true := by
  unfold insideL at h
  split at h
  · cases h
  · rename_i S l1 hC
    obtain ⟨a1, a2, a3, a4⟩ := tableC_uniq hb hC
    have hb1 : ByteL l1 := by rw [a1] at hb; exact hb.right.right
    split at h
    · cases h
    · rename_i T l2 hN
      obtain ⟨b1, b2, b3, b4⟩ := tableN_uniq hb1 hN
      have hb2 : ByteL l2 := by rw [b1] at hb1; exact hb1.right.right
      split at h
      · cases h
      · rename_i p' kc kn l3 hP
        obtain ⟨c1, c2, c3, c4, c5, c6, c7, c8⟩ := program_uniq hb2 a3 b3 hP
        split at h
        · cases h
        · split at h
          · cases h
          · split at h
            · cases h
            · rename_i d1 d2 d3
              injection h with h
              subst h
              have e3 : l3 = [] := List.length_eq_zero_iff.1 (by omega)
              rw [show kc = S.length by omega, List.take_length] at c2
              rw [show kn = T.length by omega, List.take_length] at c3
              refine ⟨?_, c4, c5, fun x hx => right_of_ok (c6 x hx).1 (fun k => b2 _ ((c6 x hx).2 k))⟩
              rw [insideE, c2, c3, a1]
              congr 2
              rw [b1]
              congr 2
              rw [c1, e3, List.append_nil]
theorem magic_uniq {b : List Int} (h : missL 0 magicL b = none) (h5 : 5 ≤ b.length) : b.take 5 = magicL := by
  match b, h5 with
  | x0 :: x1 :: x2 :: x3 :: x4 :: r, _ =>
    simp only [magicL, missL] at h ⊢
    split at h
    · split at h
      · split at h
        · split at h
          · split at h
            · subst_vars; rfl
            · cases h
          · cases h
        · cases h
      · cases h
    · cases h
theorem decode_uniq {b : List Int} {p : List Ins} (hb : ByteL b) (h : decodeL b = .ok p) : b = encodeE p ∧ b.length ≤ 4194304 ∧ checkL p = (0, 0) := by
  unfold decodeL at h
  split at h
  · cases h
  · rename_i c
    have hf : (framedL b).2 = 0 := by omega
    unfold framedL at hf
    split at hf
    · cases hf
    · rename_i c1
      split at hf
      · cases hf
      · rename_i hm
        split at hf
        · cases hf
        · rename_i c2
          split at hf
          · rename_i hs
            have hmag := magic_uniq hm (by omega)
            obtain ⟨i1, i2, i3, i4⟩ := inside_uniq ((hb.take _).drop 5) h
            have hpre : b.take (b.length - 4) = magicL ++ insideE p := by
              rw [← i1, ← hmag]
              have : b.take 5 = (b.take (b.length - 4)).take 5 := by rw [List.take_take, show min 5 (b.length - 4) = 5 by omega]
              rw [this, List.take_append_drop]
            refine ⟨?_, by omega, (checkL_ok p).2 ⟨i2, i3, i4⟩⟩
            rw [encodeE, ← hpre, hs, List.take_append_drop]
          · cases hf
end Go.Proofs.Ytebiogaacikphaa.Pack
end
