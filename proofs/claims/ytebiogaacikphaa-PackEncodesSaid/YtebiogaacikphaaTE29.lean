/- Parts of the proof of packEncodes: EncodesWalk. No condition beyond each lemma's own. -/
import Derived.Test.YtebiogaacikphaaTE20
import Derived.Test.YtebiogaacikphaaTE21
import Derived.Test.YtebiogaacikphaaTE28
section
namespace Go.Proofs.Ytebiogaacikphaa.Pack
open Go.RowKit Go.Proofs.YtebiogaacikphaaW.PrintWords Go.Proofs.Ytebiogaacikphaa.PAll Go.Proofs.Ytebiogaacikphaa.Names
set_option linter.unusedVariables false
set_option linter.unusedSimpArgs false
set_option linter.unnecessarySimpa false
def z8 : Ins := { zIns with f0 := 8 }
def over (l : List Ins) (i : Nat) : List Ins := List.replicate i z8 ++ l.drop i
theorem over_zero (l : List Ins) : over l 0 = l := by simp [over]
theorem over_all (l : List Ins) : over l l.length = List.replicate l.length z8 := by simp [over]
theorem over_len (l : List Ins) (i : Nat) (h : i ≤ l.length) : (over l i).length = l.length := by simp [over]; omega
theorem over_set (l r : List Ins) (i : Nat) (h : i < l.length) : (over l i ++ r).set i z8 = over l (i + 1) ++ r := by
  rw [List.set_append_left _ _ (by rw [over_len _ _ (by omega)]; exact h)]
  congr 1
  unfold over
  rw [List.set_append_right _ _ (by simp), List.length_replicate, Nat.sub_self, List.drop_eq_getElem_cons h, List.set_cons_zero, List.replicate_succ']
  simp
/-- While the argument's copy is written over. -/
structure PE (w : World) (g1 sa sb sd i : Nat) (va vb vd : Value) (l : List Ins) (bs : List Int) (W : World) : Prop where
  old : Below w.heap.size w W
  row : RowAt W g1 78 ((over l i ++ [markI 77, moreI 77]).flatMap insCells)
  a : W.ownsRow sa 5 1 va bs.length (nums .u8 bs)
  b : W.ownsRow sb 5 1 vb bs.length (nums .u8 bs)
  d : W.ownsRow sd 5 1 vd bs.length (nums .u8 bs)
  sz : sd ≤ W.heap.size
section
variable {w W W' : World} {g1 sa sb sd i : Nat} {va vb vd : Value} {l : List Ins} {bs : List Int}
theorem PE.hold (h : PE w g1 sa sb sd i va vb vd l bs W) : Hold (PE w g1 sa sb sd i va vb vd l bs) W :=
  ⟨h, fun _ _ h hb => ⟨below_step h.old hb, h.row.below hb, own_kept h.a (fun k e => hb.block k (own_lt h.a k e)), own_kept h.b (fun k e => hb.block k (own_lt h.b k e)), own_kept h.d (fun k e => hb.block k (own_lt h.d k e)), Nat.le_trans h.sz hb.size⟩⟩
theorem PE.put (h : PE w g1 sa sb sd i va vb vd l bs W) (hg : w.heap.size ≤ g1) (hs : g1 < sa ∧ g1 < sb ∧ g1 < sd) (hi : i < l.length) {cs : List Value} (h1 : RowAt W' g1 78 cs) (he : cs = (over l (i + 1) ++ [markI 77, moreI 77]).flatMap insCells) (hgr : W.grownBy W' (some g1)) : PE w g1 sa sb sd (i + 1) va vb vd l bs W' :=
  ⟨pw_below_grown h.old (some g1) h.old.size hgr (fun k hk => by injection hk with hk; omega), he ▸ h1, own_kept h.a (fun k e => hgr.block k (own_lt h.a k e) (by have := own_base h.a k e; simp; omega)), own_kept h.b (fun k e => hgr.block k (own_lt h.b k e) (by have := own_base h.b k e; simp; omega)), own_kept h.d (fun k e => hgr.block k (own_lt h.d k e) (by have := own_base h.d k e; simp; omega)), Nat.le_trans h.sz hgr.size⟩
end
section
variable (A : Option Addr) (c : Nat) (l : List Ins) (w : World)
set_option maxHeartbeats 8000000 in
set_option maxRecDepth 100000 in
theorem encodes_row (hr : Kd.C k78 w A l.length l) (hc : l.length ≤ c) (hok : InssOk l) :
    Calls Try.prog 8 #[.slice A l.length c] w fun e w' => e = .returned (.bool true) ∧ Below w.heap.size w w' := by
  have HR := Aside0.mk hr
  have HC := Aside0.mk hc
  have HSS := Aside0.mk (fun x hx => (hok.2 x hx).2)
  have HL47 := Aside0.mk (show l.length ≤ 140737488351232 by have := hok.1; omega)
  have HMAX := Aside0.mk (show l.length ≤ 9223372036854775807 by have := hok.1; omega)
  clear hr hc hok
  by_cases c0 : 65545 < l.length
  · have k0 : decide ((l.length : Int) > 65545) = true := decide_eq_true (by omega)
    clear c0
    go_enter Try.func8, Try.ntmps8
    go_wp2
    go_ret
    exact ⟨rfl, Below.refl _ _⟩
  · have k0 : decide ((l.length : Int) > 65545) = false := decide_eq_false (by omega)
    have HL := Aside0.mk (show l.length ≤ 65545 by omega)
    clear c0
    obtain ⟨bs, hbs⟩ : ∃ bs, encBytes l = bs := ⟨_, rfl⟩
    obtain ⟨co, hco⟩ : ∃ co, encCode l = co := ⟨_, rfl⟩
    have HBS := Aside0.mk hbs
    have HBL := Aside0.mk (show bs.length ≤ 4194304 from hbs ▸ encBytes_len l)
    have HCO := Aside0.mk hco
    have h9 : (co != co) = false := by simp
    clear hbs hco
    go_enter Try.func8, Try.ntmps8
    go_wp2_with (first
      | (go_at_call 34; have hcall := lendInss_calls w A c l HR.out HC.out (by have := HL.out; omega); (with_reducible refine hcall.mono ?_); clear hcall; rintro xx w1 ⟨g1, rfl, hrow, hb, hge⟩; have HG1 := Aside0.mk hge; have HS := Aside0.mk ((Hold.old hb).and (Hold.row hrow)); have HGL := Aside0.mk hrow.lt; clear hrow hb hge)
      | (go_at_call 35; have hcall := (encode_calls (some ⟨g1, 0, none⟩) (l.length + 2) l w1 (ins_row HS.out.at_.2 HMAX.out) (by omega) HL47.out HSS.out); (with_reducible refine hcall.mono ?_); clear hcall; rintro xx w2 ⟨he, hb⟩; obtain ⟨Aa, ca, rfl, hc, ho⟩ := he.one; rw [HBS.out] at hc ho; simp only [HBS.out, HCO.out]; have HCA := Aside0.mk hc; have HSA := Aside0.mk (show w1.heap.size ≤ w2.heap.size from hb.size); have n1_ := Aside0.mk ((HS.out.below hb).and (Hold.own ho)); clear HS he hb hc ho; have HS := n1_; clear n1_)
      | (go_at_call 35; have hcall := (encode_calls (some ⟨g1, 0, none⟩) (l.length + 2) l w2 (ins_row HS.out.at_.1.2 HMAX.out) (by omega) HL47.out HSS.out); (with_reducible refine hcall.mono ?_); clear hcall; rintro xx w3 ⟨he, hb⟩; obtain ⟨Ab, cb, rfl, hc, ho⟩ := he.one; rw [HBS.out] at hc ho; simp only [HBS.out, HCO.out]; have HCB := Aside0.mk hc; have HSB := Aside0.mk (show w2.heap.size ≤ w3.heap.size ∧ ∀ k, (Value.slice Aa bs.length ca).ownBlock = some k → k < w2.heap.size from ⟨hb.size, fun k hk => own_lt HS.out.at_.2 k hk⟩); have n1_ := Aside0.mk ((HS.out.below hb).and (Hold.own ho)); clear HS he hb hc ho; have HS := n1_; clear n1_)
      | (go_at_call 36; have hcall := (refenc_calls A c l w3 (Kd.C_below HR.out HS.out.at_.1.1.1) HC.out HSS.out); (with_reducible refine hcall.mono ?_); clear hcall; rintro xx w4 ⟨he, hb⟩; obtain ⟨Ad, cd, rfl, hc, ho⟩ := he.one; rw [HBS.out] at hc ho; simp only [HBS.out, HCO.out]; have HCD := Aside0.mk hc; have HSD := Aside0.mk (show w3.heap.size ≤ w4.heap.size ∧ ∀ k, (Value.slice Ab bs.length cb).ownBlock = some k → w2.heap.size ≤ k ∧ k < w3.heap.size from ⟨hb.size, fun k hk => ⟨own_base HS.out.at_.2 k hk, own_lt HS.out.at_.2 k hk⟩⟩); have n1_ := Aside0.mk ((HS.out.below hb).and (Hold.own ho)); clear HS he hb hc ho; have HS := n1_; clear n1_; have n1_ := Aside0.mk (show PE w g1 w1.heap.size w2.heap.size w3.heap.size 0 (.slice Aa bs.length ca) (.slice Ab bs.length cb) (.slice Ad bs.length cd) l bs w4 from ⟨HS.out.at_.1.1.1.1, by rw [over_zero]; exact HS.out.at_.1.1.1.2, HS.out.at_.1.1.2, HS.out.at_.1.2, HS.out.at_.2, HSD.out.1⟩).hold; clear HS; have HP := n1_; clear n1_)
      | (go_at_call 37; have hcall := (bytes_lit Aa ca Ad cd bs w4 (own_C HP.out.at_.a (by have := HBL.out; omega)).2 HCA.out (own_C HP.out.at_.d (by have := HBL.out; omega)).2 HCD.out (by have := HBL.out; omega)); (with_reducible refine hcall.mono ?_); clear hcall; rintro xx w5 ⟨rfl, hd⟩; have n1_ := Aside0.mk (HP.out.below hd.below); clear HP hd; have HP := n1_; clear n1_)
      | (go_at_call 37; have hcall := (bytes_lit Ab cb Ad cd bs w5 (own_C HP.out.at_.b (by have := HBL.out; omega)).2 HCB.out (own_C HP.out.at_.d (by have := HBL.out; omega)).2 HCD.out (by have := HBL.out; omega)); (with_reducible refine hcall.mono ?_); clear hcall; rintro xx w6 ⟨rfl, hd⟩; have n1_ := Aside0.mk (HP.out.below hd.below); clear HP hd; have HP := n1_; clear n1_)
      | (go_at_call 38; have hcall := (keptInss_calls w6 g1 A c l (by have := HP.out.at_.row; rwa [over_zero] at this) (Kd.C_below HR.out HP.out.at_.old) HC.out (by have := HL.out; omega)); (with_reducible refine hcall.mono ?_); clear hcall; rintro xx w7 ⟨rfl, hb⟩; have n1_ := Aside0.mk (HP.out.below hb); clear HP hb; have HP := n1_; clear n1_))
    have n1_ := Aside0.mk HP.out.at_
    clear HP
    have HP := n1_
    clear n1_
    go_loopw [10] (fun v10 wr => ∃ (i : Nat), v10 = .int .i64 i ∧ Aside0 (i ≤ l.length) ∧ Aside0 (PE w g1 w1.heap.size w2.heap.size w3.heap.size i (.slice Aa bs.length ca) (.slice Ab bs.length cb) (.slice Ad bs.length cd) l bs wr)) (fun v10 _ => l.length - (intOf v10).toNat)
    case atStart => exact ⟨0, rfl, ⟨Nat.zero_le _⟩, HP⟩
    case round =>
      clear HP
      obtain ⟨i, rfl, HI, HP⟩ := hrel
      have ib : (i : Int) ≤ 8388608 := by have := HI.out; have := HL.out; omega
      by_cases c10 : i < l.length
      · have k10 : decide ((i : Int) < (l.length : Int)) = true := decide_eq_true (by omega)
        have hix := idx_inss g1 l.length (l.length + 2) i c10
        go_wp2_with (first
          | ((with_reducible refine gate_store (t := 78) (p := 63) rfl ?_); refine put_event rfl rfl 78 (.tmp 63) (.tmp 62) rfl (g := g1) (off := i * 7) (seg := insCells z8) rfl rfl HP.out.row rfl (by kernel_rfl) (by rw [insCells_len, flat_len insCells_len, List.length_append, over_len _ _ (by omega)]; simp; omega) (by simp [insCells, Value.oneCell', z8, zIns]) ?_; intro w8 hrow hgr; have n1_ := Aside0.mk (HP.out.put HG1.out ⟨HGL.out, by have := HGL.out; have := HSA.out; omega, by have := HGL.out; have := HSA.out; have := HSB.out.1; omega⟩ c10 hrow (by rw [← over_set l _ i c10]; exact flat_set insCells_len z8 (over l i ++ [markI 77, moreI 77]) i (by rw [List.length_append, over_len _ _ (by omega)]; simp; omega)) hgr); clear HP hrow hgr; have HP := n1_; clear n1_))
        go_roundw
        case measure => simp [intOf]; omega
        case rel => exact ⟨i + 1, by go_num, ⟨by omega⟩, HP⟩
      · have k10 : decide ((i : Int) < (l.length : Int)) = false := decide_eq_false (by omega)
        obtain rfl : i = l.length := by have := HI.out; omega
        obtain ⟨l2, hl2⟩ : ∃ l2, over l l.length = l2 := ⟨_, rfl⟩
        have hlen := over_len l l.length (Nat.le_refl _)
        have HL2 := Aside0.mk hl2
        have HSS2 := Aside0.mk (show ∀ x ∈ l2, x.f3.size ≤ 140737488351232 by rw [← hl2, over_all]; intro x hx; rw [(List.mem_replicate.1 hx).2]; decide)
        have HN2 := Aside0.mk (show l2.length = l.length by rw [← hl2, hlen])
        have n1_ := Aside0.mk ((Hold.old HP.out.old).and (Hold.row (show RowAt wr g1 78 ((l2 ++ [markI 77, moreI 77]).flatMap insCells) by rw [← hl2]; exact HP.out.row) |>.and ((Hold.own HP.out.a).and ((Hold.own HP.out.b).and (Hold.own HP.out.d)))))
        have HSZ := Aside0.mk HP.out.sz
        have HOLD := Aside0.mk (show w.heap.size ≤ wr.heap.size from HP.out.old.size)
        clear HP hl2 hlen
        have HS := n1_
        clear n1_
        obtain ⟨bs2, hbs⟩ : ∃ bs, encBytes l2 = bs := ⟨_, rfl⟩
        obtain ⟨co2, hco⟩ : ∃ co, encCode l2 = co := ⟨_, rfl⟩
        have HBS2 := Aside0.mk hbs
        have HBL2 := Aside0.mk (show bs2.length ≤ 4194304 from hbs ▸ encBytes_len l2)
        have HCO2 := Aside0.mk hco
        have h92 : (co2 == co2) = true := by simp
        clear hbs hco
        have h2c : ((l.length : Nat) : Int) = (l2.length : Int) := by rw [HN2.out]
        go_wp2_with (first
          | (go_at_call 35; have hcall := (encode_calls (some ⟨g1, 0, none⟩) (l2.length + 2) l2 wr (ins_row HS.out.at_.2.1 (by have := HN2.out; have := HMAX.out; omega)) (by omega) (by have := HN2.out; have := HL47.out; omega) HSS2.out); rw [HN2.out] at hcall; (with_reducible refine hcall.mono ?_); clear hcall; rintro xx w9 ⟨he, hb⟩; obtain ⟨Ac, cc, rfl, hc, ho⟩ := he.one; rw [HBS2.out] at hc ho; simp only [HBS2.out, HCO2.out]; have HCC := Aside0.mk hc; have HSC := Aside0.mk (show wr.heap.size ≤ w9.heap.size from hb.size); have n1_ := Aside0.mk ((HS.out.below hb).and (Hold.own ho)); clear HS he hb hc ho; have HS := n1_; clear n1_)
          | (go_at_call 34; have hcall := lendInss_calls w9 (some ⟨g1, 0, none⟩) (l2.length + 2) l2 (ins_row HS.out.at_.1.2.1 (by have := HN2.out; have := HMAX.out; omega)) (by omega) (by have := HN2.out; have := HL.out; omega); rw [HN2.out] at hcall; (with_reducible refine hcall.mono ?_); clear hcall; rintro xx w10 ⟨g2, rfl, hrow, hb, hge⟩; have HS10 := Aside0.mk (show w9.heap.size ≤ w10.heap.size from hb.size); have n1_ := Aside0.mk ((HS.out.below hb).and (Hold.row hrow)); clear HS hrow hb hge; have HS := n1_; clear n1_)
          | (go_at_call 36; have hcall := (refenc_calls (some ⟨g2, 0, none⟩) (l2.length + 2) l2 w10 (ins_row HS.out.at_.2 (by have := HN2.out; have := HMAX.out; omega)) (by omega) HSS2.out); (with_reducible refine hcall.mono ?_); clear hcall; rintro xx w11 ⟨he, hb⟩; obtain ⟨An, cn, rfl, hc, ho⟩ := he.one; rw [HBS2.out] at hc ho; simp only [HBS2.out, HCO2.out]; have HCN := Aside0.mk hc; have HS11 := Aside0.mk (show w10.heap.size ≤ w11.heap.size from hb.size); have n1_ := Aside0.mk ((HS.out.below hb).and (Hold.own ho)); clear HS he hb hc ho; have HS := n1_; clear n1_)
          | (go_at_call 37; have hcall := (bytes_lit Ac cc An cn bs2 w11 (own_C HS.out.at_.1.1.2 (by have := HBL2.out; omega)).2 HCC.out (own_C HS.out.at_.2 (by have := HBL2.out; omega)).2 HCN.out (by have := HBL2.out; omega)); (with_reducible refine hcall.mono ?_); clear hcall; rintro xx w12 ⟨rfl, hd⟩; have n1_ := Aside0.mk (HS.out.below hd.below); have HS12 := Aside0.mk (show w11.heap.size ≤ w12.heap.size from hd.below.size); clear HS hd; have HS := n1_; clear n1_)
          | (go_at_call 37; have hcall := (bytes_lit Aa ca Ad cd bs w12 (own_C HS.out.at_.1.1.1.2.2.1 (by have := HBL.out; omega)).2 HCA.out (own_C HS.out.at_.1.1.1.2.2.2.2 (by have := HBL.out; omega)).2 HCD.out (by have := HBL.out; omega)); (with_reducible refine hcall.mono ?_); clear hcall; rintro xx w13 ⟨rfl, hd⟩; have n1_ := Aside0.mk (HS.out.below hd.below); have HSE := Aside0.mk (show w3.heap.size ≤ w13.heap.size by have := hd.below.size; have := HS12.out; have := HS11.out; have := HS10.out; have := HSC.out; have := HSZ.out; omega); clear HS hd; have HS := n1_; clear n1_)
          | (go_at_call 39; have hf := F1B.start (base := w.heap.size) (gl := w13.heap.size) (s1 := w2.heap.size) (s2 := w3.heap.size) (W := w13.alloc (.cells #[.slice Aa bs.length ca, .slice Ab bs.length cb, .slice Ac bs2.length cc] 37)) (la := bs) (lb := bs) (lc := bs2) (by have := HS.out.at_.1.1.1.1.size; simp; omega) ⟨_, heap_alloc_new _ _, rfl⟩ (own_less (HS.out.at_.1.1.1.2.2.1.alloc _) (by have := HG1.out; have := HGL.out; omega)) (own_less (HS.out.at_.1.1.1.2.2.2.1.alloc _) (by have := HG1.out; have := HGL.out; have := HSA.out; omega)) (own_less (HS.out.at_.1.1.2.alloc _) HOLD.out) rfl rfl rfl HSB.out.1 HSE.out HSB.out.2 HSD.out.2 (fun k hk => ⟨by have := own_base HS.out.at_.1.1.2 k hk; have := HSZ.out; omega, own_lt HS.out.at_.1.1.2 k hk⟩); have hcall := freeB_calls w.heap.size w13.heap.size _ _ _ _ _ _ hf (pickB_le (by have := HBL.out; omega) (by have := HBL.out; omega) (by have := HBL2.out; omega)); clear hf; refine hcall.mono ?_; clear hcall; rintro xx w28 ⟨rfl, hb⟩; have HE := Aside0.mk (HS.out.at_.1.1.1.1.trans ((below_alloc (Below.refl w13.heap.size w13) _ |>.mono HS.out.at_.1.1.1.1.size).trans hb)); clear hb))
        go_ret
        exact ⟨rfl, HE.out⟩
end
end Go.Proofs.Ytebiogaacikphaa.Pack
end
