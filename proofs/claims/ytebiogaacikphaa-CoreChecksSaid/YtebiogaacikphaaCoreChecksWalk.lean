/- The walk of dowellaw09.CoreChecks: it returns true. Sizes are at most 2^47. -/
import Derived.Test.YtebiogaacikphaaKeptCore
import Derived.Test.YtebiogaacikphaaCoreRight
import Derived.Test.YtebiogaacikphaaPAllx12
import Derived.Test.YtebiogaacikphaaPAllx6
import Derived.Test.YtebiogaacikphaaPAllx19
import Derived.Test.YtebiogaacikphaaPAllx15
import Derived.Test.YtebiogaacikphaaPAllx20
namespace Go.Proofs.Ytebiogaacikphaa.Core
open Go.RowKit Go.Proofs.YtebiogaacikphaaW.PrintWords Go.Proofs.Ytebiogaacikphaa.PAll
set_option linter.unusedVariables false
set_option linter.unusedSimpArgs false
theorem CoreChecks_big (A : Option Addr) (c : Nat) (l : List (S30)) (st : Int) (w : World) (c1 : (l.length : Int) > 65536) :
    Calls Try.prog 4 #[.agg #[.slice A l.length c, .int .i64 st]] w fun e w' => e = .returned (.bool true) ∧ Below w.heap.size w w' := by
  have b1 : decide ((l.length : Int) > 65536) = true := decide_eq_true c1
  clear c1
  go_enter Try.func4, Try.ntmps4
  go_wp2
  go_ret
  exact ⟨rfl, (Below.refl _ _).alloc (Nat.le_refl _) _⟩
theorem CoreChecks_wide (k : Nat) (s : Int) (A : Option Addr) (c : Nat) (l : List (S30)) (st : Int) (w : World) (hr : Kd.C k30 w A l.length l) (hc : l.length ≤ c) (c1 : (l.length : Int) ≤ 65536) (hs : dowelref09_Size.f k l st = some s) (c2 : s > 1048576) :
    Calls Try.prog 4 #[.agg #[.slice A l.length c, .int .i64 st]] w fun e w' => e = .returned (.bool true) ∧ Below w.heap.size w w' := by
  have b1 : decide ((l.length : Int) > 65536) = false := decide_eq_false (by omega)
  have b2 : decide (s > 1048576) = true := decide_eq_true c2
  have HR := Aside0.mk hr
  have HC := Aside0.mk hc
  have HS := Aside0.mk hs
  clear c1 c2 hr hc hs
  go_enter Try.func4, Try.ntmps4
  go_wp2_with (first
    | ((with_reducible refine gate_dst (N := 1) rfl ?_); refine box_event (N := 1) rfl rfl (cs := #[.slice A l.length c, .int .i64 st]) (t := 24) ?hr1 ?_; (case hr1 => first | (go_simp; done) | (go_simp; rfl)); intro gc hgc w1 hbox hb1; have HX := Aside0.mk hbox; have HB := Aside0.mk hb1; have h0 := blk_cell hbox 0; have h1 := blk_cell hbox 1; simp only [List.getElem?_toArray, List.getElem?_cons_zero, List.getElem?_cons_succ] at h0 h1; clear hbox hb1 hgc)
    | (go_at_call 17; refine (dowelref09_Size.calls k A c l st s _ (Kd.C_below HR.out HB.out) HC.out HS.out).mono ?_; rintro e w2 ⟨rfl, hb2⟩; have n1_ := Aside0.mk (below_step HB.out hb2); clear HB HX h0 h1 hb2; have HB := n1_; clear n1_))
  go_ret
  exact ⟨rfl, HB.out⟩
set_option maxHeartbeats 1000000 in
set_option maxRecDepth 100000 in
theorem CoreChecks_calls (k : Nat) (s v : Int) (A : Option Addr) (c : Nat) (l : List (S30)) (st : Int) (w : World) (hr : Kd.C k30 w A l.length l) (hc : l.length ≤ c) (c1 : (l.length : Int) ≤ 65536) (hs : dowelref09_Size.f k l st = some s) (c2 : s ≤ 1048576)
    (hm : ∀ r ∈ l, r.f1.length ≤ 1048576) (hs2 : core_Size.f k l st = some s) (hv : dowelref09_Check.f k l st = some v) (hv2 : core_Check.f k l st = some v) (hsame : dowelbook_Cores.f k l st l st = some true) :
    Calls Try.prog 4 #[.agg #[.slice A l.length c, .int .i64 st]] w fun e w' => e = .returned (.bool true) ∧ Below w.heap.size w w' := by
  have b1 : decide ((l.length : Int) > 65536) = false := decide_eq_false (by omega)
  have b2 : decide (s > 1048576) = false := decide_eq_false (by omega)
  have HN := Aside0.mk (show l.length ≤ 65536 by omega)
  have HR := Aside0.mk hr
  have HC := Aside0.mk hc
  have HS := Aside0.mk hs
  have HS2 := Aside0.mk hs2
  have HV := Aside0.mk hv
  have HV2 := Aside0.mk hv2
  have HM := Aside0.mk hm
  have HSAME := Aside0.mk hsame
  clear c1 c2 hr hc hs hs2 hv hv2 hm hsame
  go_enter Try.func4, Try.ntmps4
  go_wp2_with (first
    | ((with_reducible refine gate_dst (N := 1) rfl ?_); refine box_event (N := 1) rfl rfl (cs := #[.slice A l.length c, .int .i64 st]) (t := 24) ?hr1 ?_; (case hr1 => first | (go_simp; done) | (go_simp; rfl)); intro gc hgc w1 hbox hb1; have HX := Aside0.mk hbox; have HB := Aside0.mk hb1; have h0 := blk_cell hbox 0; have h1 := blk_cell hbox 1; simp only [List.getElem?_toArray, List.getElem?_cons_zero, List.getElem?_cons_succ] at h0 h1; clear hbox hb1 hgc)
    | (go_at_call 17; refine (dowelref09_Size.calls k A c l st s _ (Kd.C_below HR.out HB.out) HC.out HS.out).mono ?_; rintro e w2 ⟨rfl, hb2⟩; have n1_ := Aside0.mk (below_step HB.out hb2); have n2_ := Aside0.mk (blk_below HX.out hb2); clear HB HX h0 h1 hb2; have HB := n1_; have HX := n2_; clear n1_ n2_; have h0 := blk_cell HX.out 0; have h1 := blk_cell HX.out 1; simp only [List.getElem?_toArray, List.getElem?_cons_zero, List.getElem?_cons_succ] at h0 h1)
    | (go_at_call 18; refine (LendCore_calls A c l st _ (Kd.C_below HR.out HB.out) HC.out HN.out HM.out).mono ?_; rintro e w3 ⟨gR, G, rfl, hlent, hb3, hgR, _⟩; have HL := Aside0.mk hlent; have n1_ := Aside0.mk (below_step HB.out hb3); have n2_ := Aside0.mk (blk_below HX.out hb3); clear HB HX h0 h1 hb3 hlent hgR; have HB := n1_; have HX := n2_; clear n1_ n2_; have h0 := blk_cell HX.out 0; have h1 := blk_cell HX.out 1; simp only [List.getElem?_toArray, List.getElem?_cons_zero, List.getElem?_cons_succ] at h0 h1)
    | ((with_reducible refine gate_dst (N := 3) rfl ?_); refine box_event (N := 3) rfl rfl (cs := #[.slice none 0 0, .int .i64 0]) (t := 24) ?hr2 ?_; (case hr2 => first | (go_simp; done) | (go_simp; rfl)); intro gb hgb w4 hbox hb4; have HO := Aside0.mk hbox; have HG := Aside0.mk (show w.heap.size ≤ gb ∧ gc < gb ∧ gR < gb ∧ ∀ g ∈ G, g < gb by rw [hgb]; exact ⟨HB.out.size, blk_lt HX.out, HL.out.rules.lt, HL.out.bodies.lt⟩); have n1_ := Aside0.mk (below_step HB.out hb4); have n2_ := Aside0.mk (blk_below HX.out hb4); have n3_ := Aside0.mk (HL.out.below hb4); clear HB HX HL h0 h1 hbox hb4 hgb; have HB := n1_; have HX := n2_; have HL := n3_; clear n1_ n2_ n3_)
    | ((with_reducible refine gate_store (t := 24) (p := 3) rfl ?_); refine store_whole rfl rfl 24 (.tmp 3) (.tmp 14) rfl (cs := #[.slice (some ⟨gR, 0, none⟩) l.length (l.length + 1), .int .i64 st]) rfl rfl HO.out rfl (by kernel_rfl) (by simp [Value.oneCell']) ?_; intro w5 hbox5 hgr _; have hk := HG.out; have hold := pw_below_grown HB.out (some gb) HB.out.size hgr (fun k hk2 => by cases hk2; omega); have HI := Aside0.mk (show KI w gb gc gR G A c st l w5 from ⟨hbox5, (hgr.block _ (blk_lt HX.out) (by simp; omega)).trans HX.out, ⟨HL.out.rules.grown hgr (by simp; omega), HL.out.bodies.grown hgr (fun hm => by have := hk.2.2.2 _ hm; omega)⟩, Kd.C_below HR.out hold, hold⟩); clear HB HX HL HO hk hold hgr hbox5))
  have hS0 := HI.out
  go_region_held3 (fun w' => w'.cell? ⟨gb, 0, none⟩ = some (.slice (some ⟨gR, 0, none⟩) l.length (l.length + 1)) ∧ w'.cell? ⟨gb, 1, none⟩ = some (.int .i64 st) ∧ w'.cell? ⟨gc, 0, none⟩ = some (.slice A l.length c) ∧ w'.cell? ⟨gc, 1, none⟩ = some (.int .i64 st) ∧ w'.cell? ⟨gR, l.length * 2, none⟩ = some (.string holder) ∧ KI w gb gc gR G A c st l w')
    ((refine KI.all ?_; first | assumption | exact hS0.below (below_drew (Below.refl _ _))))
    (first
      | (go_at_call 19; go_split_ands; refine (core_Check.calls k (some ⟨gR, 0, none⟩) (l.length + 1) l st v _ (by (rename_i hki); exact hki.lent.reads (by have := HN.out; omega) (fun r hr => by have := HM.out r hr; omega)) (by omega) HV2.out).mono ?_; rintro e w6 ⟨rfl, hb6⟩; have hS2 := KI.below (by assumption) hb6)
      | (go_at_call 15; go_split_ands; refine (dowelref09_Check.calls k A c l st v _ (by (rename_i hki); exact hki.rd) HC.out HV.out).mono ?_; rintro e w6 ⟨rfl, hb6⟩; have hS2 := KI.below (by assumption) hb6)
      | (go_at_call 20; go_split_ands; refine (core_Size.calls k (some ⟨gR, 0, none⟩) (l.length + 1) l st s _ (by (rename_i hki); exact hki.lent.reads (by have := HN.out; omega) (fun r hr => by have := HM.out r hr; omega)) (by omega) HS2.out).mono ?_; rintro e w6 ⟨rfl, hb6⟩; have hS2 := KI.below (by assumption) hb6)
      | (go_at_call 17; go_split_ands; refine (dowelref09_Size.calls k A c l st s _ (by (rename_i hki); exact hki.rd) HC.out HS.out).mono ?_; rintro e w6 ⟨rfl, hb6⟩; have hS2 := KI.below (by assumption) hb6)
      | (go_at_call 21; go_split_ands; refine (KeptCore_calls k gR G A c l st _ (by (rename_i hki); exact hki.lent) (by (rename_i hki); exact hki.rd) HC.out HN.out HM.out HSAME.out).mono ?_; rintro e w6 ⟨rfl, hb6⟩; have hS2 := KI.below (by assumption) hb6))
  go_wp2
  go_ret
  exact ⟨rfl, hS2.old⟩
end Go.Proofs.Ytebiogaacikphaa.Core
