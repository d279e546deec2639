/- Parts of the proof of coreOrder: BuildLiteral, BuildLay. No condition beyond each lemma's own. -/
import Derived.Deep.RegionHeld3
import Derived.Test.YtihiicjnjhideaaDoorTO11
import Derived.Test.YtihiicjnjhideaaDoorTO20
section
namespace Go.Proofs.YtihiicjnjhideaaDoor.Build
open Go.RowKit Go.Proofs.YtihiicjnjhideaaDoorW.PrintWords Go.Proofs.YtihiicjnjhideaaDoor.PAll Go.Proofs.YtihiicjnjhideaaDoor.Core
set_option linter.unusedVariables false
set_option linter.unusedSimpArgs false
theorem idx_u8 (g n m i : Nat) (hi : i < n) (W : World) : (Instr.indexAt 73 (.slice (some ⟨g, 0, none⟩) n m) (.int .i64 (i : Int))).run Tryd.prog W = .ok (.pointer (some ⟨g, i, none⟩)) W := by
 have := run_indexAt_own (P := Tryd.prog) (t := 73) (size := 1) Tryd.underlying73 (fun W => by kernel_rfl) g n m i hi W
 rwa [Nat.mul_one] at this
theorem cl_cell {w : World} {g : Nat} {cl : List Int} (h : RowAt w g 49 (clCells cl)) (hlen : cl.length = 4) {i : Nat} (hi : i < 4) : w.cell? ⟨g, i, none⟩ = some (.int .u64 (cl.getD i 0)) := by
 refine cell_of h ?_
 rw [List.getElem?_map, List.getElem?_eq_getElem (by omega), List.getD_eq_getElem?_getD, List.getElem?_eq_getElem (by omega)]
 rfl
theorem litB_len (fold : Bool) (s : ByteArray) : (litB fold s).flatten.length = s.size := by
 have : ∀ l : List UInt8, (l.map fun x => [setN (litC fold x.toNat)]).flatten.length = l.length := by
  intro l
  induction l with
  | nil => rfl
  | cons a l ih => rw [List.map_cons, List.flatten_cons, List.length_append, ih]; simp; omega
 unfold litB
 rw [this, Array.length_toList]
 rfl
def litK (fold : Bool) (s : ByteArray) (k : Nat) : List (List CN) := (s.data.toList.take k).map fun x => [setN (litC fold x.toNat)]
theorem litK_succ (fold : Bool) (s : ByteArray) (k : Nat) (b : UInt8) (h : s.data.toList[k]? = some b) : litK fold s (k + 1) = litK fold s k ++ [[setN (litC fold b.toNat)]] := by
 unfold litK
 rw [take_snoc _ _ _ h, List.map_append]
 rfl
theorem set_lit (c0 c1 c2 c3 : Int) (w : World) : Calls Tryd.prog 45 #[.agg #[.int .u64 c0, .int .u64 c1, .int .u64 c2, .int .u64 c3]] w fun e w' => ∃ v, e = .returned v ∧ Own w' w.heap.size v [(⟨1, ⟨c0, c1, c2, c3⟩, 0, ⟨#[]⟩⟩ : CN)] ∧ Below w.heap.size w w' :=
 core_set.calls c0 c1 c2 c3 [(⟨1, ⟨c0, c1, c2, c3⟩, 0, ⟨#[]⟩⟩ : CN)] w rfl
section
variable (gb : Nat) (left : Int) (y : S51) (w : World)
set_option maxHeartbeats 8000000 in
set_option maxRecDepth 100000 in
theorem literal_calls (hl : w.cell? ⟨gb, 1, none⟩ = some (.int .i64 left)) (hs : y.f2.size ≤ 9223372036854775806) (hleft : left ≤ 65536) :
  Calls Tryd.prog 46 #[.pointer (some ⟨gb, 0, none⟩), .agg #[.int .i64 y.f0, .int .i64 y.f1, .string y.f2, .bool y.f3, .int .u64 y.f4.f0, .int .u64 y.f4.f1, .int .u64 y.f4.f2, .int .u64 y.f4.f3, .int .i64 y.f5, .int .i64 y.f6]] w fun e w' => LaidE w.heap.size w' (litL left y.f3 y.f2) e ∧ Below w.heap.size w w' := by
 have HL := aK hl
 have HLEFT := aK hleft
 have HSZ := aK hs
 have HGB := aK (World.block_lt_of_cell? w _ hl)
 have hmf : ∀ (fn : Fn) (first cap : Array Value) (w : World), (Instr.makeFunc fn first cap).run Tryd.prog w = .ok (.func fn first cap) w := fun _ _ _ _ => rfl
 clear hl hleft
 go_enter Tryd.func46, Tryd.ntmps46
 go_wp2_with (first
  | ((with_reducible refine gate_dst (N := 3) rfl ?_); refine box_event (N := 3) rfl rfl (cs := #[.int .i64 y.f0, .int .i64 y.f1, .string y.f2, .bool y.f3, .int .u64 y.f4.f0, .int .u64 y.f4.f1, .int .u64 y.f4.f2, .int .u64 y.f4.f3, .int .i64 y.f5, .int .i64 y.f6]) (t := 51) ?hr3 ?_; (case hr3 => first | (go_simp; done) | (go_simp; rfl)); intro gn hgn w3 hbox hb3; have HN := aK hbox; have HW := aK hb3; have x2 : w3.cell? ⟨gn, 2, none⟩ = some (.string y.f2) := (blk_cell hbox 2).trans rfl; have hleft : w3.cell? ⟨gb, 1, none⟩ = some (.int .i64 left) := (World.cell?_of_block (a := ⟨gb, 1, none⟩) (hb3.block gb HGB.out)).trans HL.out; clear hbox hb3 hgn))
 go_region_held3 (fun w' => w'.cell? ⟨gn, 2, none⟩ = some (.string y.f2) ∧ w'.cell? ⟨gb, 1, none⟩ = some (.int .i64 left) ∧ Below w3.heap.size w3 w')
  ((refine ⟨?_, ?_, ?_⟩ <;> first | assumption | exact below_drew (Below.refl _ _)))
  (fail)
 have n1_ := aK (below_drew HW.out)
 have n2_ := aK (show w3.drew.heap[gn]? = _ from HN.out)
 clear HW HN x2 hleft
 have HW := n1_
 have HN := n2_
 clear n1_ n2_
 generalize w3.drew = w4 at *
 by_cases c1 : (y.f2.size : Int) > left
 ·have b1 : decide (left < (y.f2.size : Int)) = true := decide_eq_true c1
  have HJ := aK (show litL left y.f3 y.f2 = none by rw [litL, if_pos c1])
  rw [b1]
  clear c1
  go_wp2
  exact ⟨rfl, show LaidE w.heap.size w4 (litL left y.f3 y.f2) (.panicked tooMuch) from by rw [HJ.out]; exact rfl, HW.out⟩
 ·have b1 : decide (left < (y.f2.size : Int)) = false := decide_eq_false c1
  have HJ := aK (show litL left y.f3 y.f2 = rowL left 4 (litB y.f3 y.f2) by rw [litL, if_neg c1])
  have HZ := aK (show y.f2.size ≤ 65536 by have := HLEFT.out; omega)
  rw [b1]
  clear c1
  have x2 : w4.cell? ⟨gn, 2, none⟩ = some (.string y.f2) := (blk_cell HN.out 2).trans rfl
  go_wp2_with (first
   | ((with_reducible refine gate_dst (N := 23) rfl ?_); refine conv_event rfl 9 73 5 (.tmp 22) rfl y.f2 rfl Tryd.underlying9 Tryd.underlying73 Tryd.underlying5 (by have := HSZ.out; omega) ?_; intro g5 c5 w5 hbytes hg5 hb5; have HBY := aK hbytes; have HG5 := aK hg5; have n1_ := aK (below_step HW.out hb5); have n2_ := aK (blk_below HN.out hb5); clear HW HN x2 hbytes hg5 hb5; have HW := n1_; have HN := n2_; clear n1_ n2_))
  have HX0 := aK (show w5.cell? ⟨gn, 3, none⟩ = some (.bool y.f3) from (blk_cell HN.out 3).trans rfl)
  have HO := aK (show RB w5 w5.heap.size (.slice none 0 0) 0 [] from ⟨World.ownsRow_nil _ _ _ _⟩)
  have HBS := aK (show Bods w5 [] (litK y.f3 y.f2 0) from Bods.nil w5)
  have HW5 := aK (Below.refl w5.heap.size w5)
  go_loopw [5, 25] (fun v5 v25 wr => ∃ (k : Nat) (vs : List Value), v25 = .int .i64 k ∧ Aside0 (k ≤ y.f2.size) ∧ Aside0 (RB wr w5.heap.size v5 k vs) ∧ Aside0 (Bods wr vs (litK y.f3 y.f2 k)) ∧ Aside0 (Below w5.heap.size w5 wr)) (fun _ v25 _ => y.f2.size - (intOf v25).toNat)
  case atStart => exact ⟨0, [], rfl, ⟨Nat.zero_le _⟩, HO, HBS, HW5⟩
  case round =>
   clear HO HBS HW5
   obtain ⟨k, vs, rfl, HK, HO, HBS, HW5⟩ := hrel
   have kb : (k : Int) ≤ 65536 := by have := HK.out; have := HZ.out; omega
   obtain ⟨Ar, cr, hu⟩ := own_slice HO.out.own
   subst hu
   by_cases ck : k < y.f2.size
   ·have b2 : decide ((k : Int) < (y.f2.size : Int)) = true := decide_eq_true (by omega)
    have b2n : decide (k < y.f2.size) = true := decide_eq_true ck
    have hix := idx_u8 g5 y.f2.size c5 k ck
    obtain ⟨b, hb⟩ : ∃ b, y.f2.data.toList[k]? = some b := ⟨_, List.getElem?_eq_getElem (by rw [Array.length_toList]; exact ck)⟩
    have HKS := aK (litK_succ y.f3 y.f2 k b hb)
    have hcell := (HW5.out.cell (World.block_lt_of_cell? w5 _ (HBY.out k b hb))).trans (HBY.out k b hb)
    obtain ⟨x, hx⟩ : ∃ x, b.toNat = x := ⟨_, rfl⟩
    rw [hx] at hcell HKS
    have HX := aK (show x < 256 by rw [← hx]; exact b.toNat_lt)
    have hlo := low_ok HX.out
    obtain ⟨lw, hlw⟩ : ∃ lw, lowN x = lw := ⟨_, rfl⟩
    rw [hlw] at hlo
    have hor : bits BinOp.or IntKind.u8 (x : Int) 32 = (lw : Int) := hlo.1
    have HLW := aK hlo.2
    have HLQ := aK hlw
    have hx3 := (HW5.out.cell (World.block_lt_of_cell? w5 _ HX0.out)).trans HX0.out
    clear hb hx hlo hlw
    rcases Bool.eq_false_or_eq_true y.f3 with hfo | hfo
    rotate_left
    ·
     have HFO := aK hfo
     rw [hfo] at hx3
     have HX3 := aK hx3
     have HLC := aK (show litC y.f3 x = putL [0, 0, 0, 0] x by rw [litC, if_neg (by rw [hfo]; simp)])
     clear hfo hx3
     go_wp2_with (first
      | ((with_reducible refine gate_dst (N := 8) rfl ?_); refine box_event (N := 8) rfl rfl (cs := #[.int .u64 0, .int .u64 0, .int .u64 0, .int .u64 0]) (t := 49) ?hr8 ?_; (case hr8 => first | (go_simp; done) | (go_simp; rfl)); intro gC hgC w6 hbox hb6; have HC := aK (show RowAt w6 gC 49 (clCells [0, 0, 0, 0]) from ⟨_, hbox, rfl⟩); have HQ := aK hb6; have HGC := aK (Nat.le_of_eq hgC.symm); clear hcell hbox hb6 hgC)
      | (go_at_call 59; have hcall := put_calls gC (x) ([0, 0, 0, 0]) _ HX.out HC.out (by first | rfl | (simp [putL_len]; done)); (with_reducible refine hcall.mono ?_); clear hcall; rintro e w7 ⟨rfl, hc7, hg7⟩; have n1_ := aK (pw_below_grown HQ.out (some gC) HQ.out.size hg7 (fun q hq => by have := HGC.out; cases hq; omega)); clear HC HQ; have HC := aK hc7; have HQ := n1_; clear n1_ hc7 hg7; (try clear x3); have x3 := HQ.out.cell (World.block_lt_of_cell? wr _ HX3.out) |>.trans HX3.out; (try clear d0 d1 d2 d3); have d0 := cl_cell HC.out (by first | rfl | (simp [putL_len]; done)) (i := 0) (by decide); have d1 := cl_cell HC.out (by first | rfl | (simp [putL_len]; done)) (i := 1) (by decide); have d2 := cl_cell HC.out (by first | rfl | (simp [putL_len]; done)) (i := 2) (by decide); have d3 := cl_cell HC.out (by first | rfl | (simp [putL_len]; done)) (i := 3) (by decide))
      | (go_at_call 45; refine (set_lit _ _ _ _ _).mono ?_; rintro e w8 ⟨v8, rfl, hv8, hb8⟩; obtain ⟨A8, c8, hv8e, _⟩ := hv8.bod.reads; subst hv8e; have H8 := aK (show Bod w8 (.slice A8 1 c8) [setN (litC y.f3 x)] by have := hv8.bod; rw [HLC.out]; exact this); have hq8 := HQ.out.trans (hb8.mono HQ.out.size); have n1_ := aK (HO.out.below hq8); have n2_ := aK (HBS.out.below hq8); have n3_ := aK (HW5.out.trans (hq8.mono HW5.out.size)); clear HO HBS HW5 HQ HC x3 d0 d1 d2 d3 hv8 hb8 hq8; have HO := n1_; have HBS := n2_; have HW5 := n3_; clear n1_ n2_ n3_)
      | ((with_reducible refine gate_builtin (b := .append) (xs := #[.tmp 52, .tmp 55]) rfl ?_); at_builtin; refine append_event w5.heap.size rfl (.tmp 52) (.tmp 55) 95 42 (.slice none 0 0) 1 24 rfl Tryd.underlying95 (by kernel_rfl) rfl (by decide) (by decide) (.slice Ar k cr) k vs [.slice A8 1 c8] rfl rfl rfl (by simp [Value.oneCell']) HO.out.own HW5.out.size (by omega) ?_; intro v1 w9 hown hat; have n0_ := grow_row HW5.out.size HO.out.own HBS.out H8.out HW5.out (Nat.le_refl _) hat; have n1_ := aK (show RB w9 w5.heap.size v1 (k + 1) (vs ++ [.slice A8 1 c8]) from ⟨hown⟩); have n2_ := aK n0_.1; have n3_ := aK n0_.2; clear HO HBS HW5 H8 hown hat n0_; have HO := n1_; have HBS := n2_; have HW5 := n3_; clear n1_ n2_ n3_))
     go_roundw; (case measure => simp [intOf]; omega); (case rel => exact ⟨k + 1, vs ++ [.slice A8 1 c8], by go_num, ⟨ck⟩, HO, ⟨by have := HBS.out; rw [HKS.out]; exact this⟩, HW5⟩)
    ·
     have HFO := aK hfo
     rw [hfo] at hx3
     have HX3 := aK hx3
     clear hx3
     by_cases c97 : 97 ≤ lw
     ·have d97 : decide ((97 : Int) ≤ (lw : Int)) = true := decide_eq_true (by omega)
      have d97n : decide (97 ≤ lw) = true := decide_eq_true c97
      by_cases c122 : lw ≤ 122
      ·have d122 : decide ((lw : Int) ≤ 122) = true := decide_eq_true (by omega)
       have d122n : decide (lw ≤ 122) = true := decide_eq_true c122
       have HLC := aK (show litC y.f3 x = putL (putL (putL [0, 0, 0, 0] x) lw) (lw - 32) by rw [litC, HLQ.out, if_pos ⟨hfo, c97, c122⟩])
       have HLS := aK (show lw - 32 < 256 by omega)
       have hsub : IntKind.u8.wrap ((lw : Int) - 32) = ((lw - 32 : Nat) : Int) := by simp [IntKind.wrap, IntKind.signed, IntKind.bits]; omega
       clear hfo
       go_wp2_with (first
        | ((with_reducible refine gate_dst (N := 8) rfl ?_); refine box_event (N := 8) rfl rfl (cs := #[.int .u64 0, .int .u64 0, .int .u64 0, .int .u64 0]) (t := 49) ?hr8 ?_; (case hr8 => first | (go_simp; done) | (go_simp; rfl)); intro gC hgC w6 hbox hb6; have HC := aK (show RowAt w6 gC 49 (clCells [0, 0, 0, 0]) from ⟨_, hbox, rfl⟩); have HQ := aK hb6; have HGC := aK (Nat.le_of_eq hgC.symm); clear hcell hbox hb6 hgC)
        | (go_at_call 59; have hcall := put_calls gC (x) ([0, 0, 0, 0]) _ HX.out HC.out (by first | rfl | (simp [putL_len]; done)); (with_reducible refine hcall.mono ?_); clear hcall; rintro e w7 ⟨rfl, hc7, hg7⟩; have n1_ := aK (pw_below_grown HQ.out (some gC) HQ.out.size hg7 (fun q hq => by have := HGC.out; cases hq; omega)); clear HC HQ; have HC := aK hc7; have HQ := n1_; clear n1_ hc7 hg7; (try clear x3); have x3 := HQ.out.cell (World.block_lt_of_cell? wr _ HX3.out) |>.trans HX3.out; (try clear d0 d1 d2 d3); have d0 := cl_cell HC.out (by first | rfl | (simp [putL_len]; done)) (i := 0) (by decide); have d1 := cl_cell HC.out (by first | rfl | (simp [putL_len]; done)) (i := 1) (by decide); have d2 := cl_cell HC.out (by first | rfl | (simp [putL_len]; done)) (i := 2) (by decide); have d3 := cl_cell HC.out (by first | rfl | (simp [putL_len]; done)) (i := 3) (by decide))
        | (go_at_call 59; have hcall := put_calls gC (lw) (putL [0, 0, 0, 0] x) _ HLW.out HC.out (by first | rfl | (simp [putL_len]; done)); (with_reducible refine hcall.mono ?_); clear hcall; rintro e w7 ⟨rfl, hc7, hg7⟩; have n1_ := aK (pw_below_grown HQ.out (some gC) HQ.out.size hg7 (fun q hq => by have := HGC.out; cases hq; omega)); clear HC HQ; have HC := aK hc7; have HQ := n1_; clear n1_ hc7 hg7; (try clear x3); have x3 := HQ.out.cell (World.block_lt_of_cell? wr _ HX3.out) |>.trans HX3.out; (try clear d0 d1 d2 d3); have d0 := cl_cell HC.out (by first | rfl | (simp [putL_len]; done)) (i := 0) (by decide); have d1 := cl_cell HC.out (by first | rfl | (simp [putL_len]; done)) (i := 1) (by decide); have d2 := cl_cell HC.out (by first | rfl | (simp [putL_len]; done)) (i := 2) (by decide); have d3 := cl_cell HC.out (by first | rfl | (simp [putL_len]; done)) (i := 3) (by decide))
        | (go_at_call 59; have hcall := put_calls gC (lw - 32) (putL (putL [0, 0, 0, 0] x) lw) _ HLS.out HC.out (by first | rfl | (simp [putL_len]; done)); (with_reducible refine hcall.mono ?_); clear hcall; rintro e w7 ⟨rfl, hc7, hg7⟩; have n1_ := aK (pw_below_grown HQ.out (some gC) HQ.out.size hg7 (fun q hq => by have := HGC.out; cases hq; omega)); clear HC HQ; have HC := aK hc7; have HQ := n1_; clear n1_ hc7 hg7; (try clear x3); have x3 := HQ.out.cell (World.block_lt_of_cell? wr _ HX3.out) |>.trans HX3.out; (try clear d0 d1 d2 d3); have d0 := cl_cell HC.out (by first | rfl | (simp [putL_len]; done)) (i := 0) (by decide); have d1 := cl_cell HC.out (by first | rfl | (simp [putL_len]; done)) (i := 1) (by decide); have d2 := cl_cell HC.out (by first | rfl | (simp [putL_len]; done)) (i := 2) (by decide); have d3 := cl_cell HC.out (by first | rfl | (simp [putL_len]; done)) (i := 3) (by decide))
        | (go_at_call 45; refine (set_lit _ _ _ _ _).mono ?_; rintro e w8 ⟨v8, rfl, hv8, hb8⟩; obtain ⟨A8, c8, hv8e, _⟩ := hv8.bod.reads; subst hv8e; have H8 := aK (show Bod w8 (.slice A8 1 c8) [setN (litC y.f3 x)] by have := hv8.bod; rw [HLC.out]; exact this); have hq8 := HQ.out.trans (hb8.mono HQ.out.size); have n1_ := aK (HO.out.below hq8); have n2_ := aK (HBS.out.below hq8); have n3_ := aK (HW5.out.trans (hq8.mono HW5.out.size)); clear HO HBS HW5 HQ HC x3 d0 d1 d2 d3 hv8 hb8 hq8; have HO := n1_; have HBS := n2_; have HW5 := n3_; clear n1_ n2_ n3_)
        | ((with_reducible refine gate_builtin (b := .append) (xs := #[.tmp 52, .tmp 55]) rfl ?_); at_builtin; refine append_event w5.heap.size rfl (.tmp 52) (.tmp 55) 95 42 (.slice none 0 0) 1 24 rfl Tryd.underlying95 (by kernel_rfl) rfl (by decide) (by decide) (.slice Ar k cr) k vs [.slice A8 1 c8] rfl rfl rfl (by simp [Value.oneCell']) HO.out.own HW5.out.size (by omega) ?_; intro v1 w9 hown hat; have n0_ := grow_row HW5.out.size HO.out.own HBS.out H8.out HW5.out (Nat.le_refl _) hat; have n1_ := aK (show RB w9 w5.heap.size v1 (k + 1) (vs ++ [.slice A8 1 c8]) from ⟨hown⟩); have n2_ := aK n0_.1; have n3_ := aK n0_.2; clear HO HBS HW5 H8 hown hat n0_; have HO := n1_; have HBS := n2_; have HW5 := n3_; clear n1_ n2_ n3_))
       go_roundw; (case measure => simp [intOf]; omega); (case rel => exact ⟨k + 1, vs ++ [.slice A8 1 c8], by go_num, ⟨ck⟩, HO, ⟨by have := HBS.out; rw [HKS.out]; exact this⟩, HW5⟩)
      ·have d122 : decide ((lw : Int) ≤ 122) = false := decide_eq_false (by omega)
       have d122n : decide (lw ≤ 122) = false := decide_eq_false c122
       have HLC := aK (show litC y.f3 x = putL [0, 0, 0, 0] x by rw [litC, HLQ.out, if_neg (fun h => c122 h.2.2)])
       clear hfo
       go_wp2_with (first
        | ((with_reducible refine gate_dst (N := 8) rfl ?_); refine box_event (N := 8) rfl rfl (cs := #[.int .u64 0, .int .u64 0, .int .u64 0, .int .u64 0]) (t := 49) ?hr8 ?_; (case hr8 => first | (go_simp; done) | (go_simp; rfl)); intro gC hgC w6 hbox hb6; have HC := aK (show RowAt w6 gC 49 (clCells [0, 0, 0, 0]) from ⟨_, hbox, rfl⟩); have HQ := aK hb6; have HGC := aK (Nat.le_of_eq hgC.symm); clear hcell hbox hb6 hgC)
        | (go_at_call 59; have hcall := put_calls gC (x) ([0, 0, 0, 0]) _ HX.out HC.out (by first | rfl | (simp [putL_len]; done)); (with_reducible refine hcall.mono ?_); clear hcall; rintro e w7 ⟨rfl, hc7, hg7⟩; have n1_ := aK (pw_below_grown HQ.out (some gC) HQ.out.size hg7 (fun q hq => by have := HGC.out; cases hq; omega)); clear HC HQ; have HC := aK hc7; have HQ := n1_; clear n1_ hc7 hg7; (try clear x3); have x3 := HQ.out.cell (World.block_lt_of_cell? wr _ HX3.out) |>.trans HX3.out; (try clear d0 d1 d2 d3); have d0 := cl_cell HC.out (by first | rfl | (simp [putL_len]; done)) (i := 0) (by decide); have d1 := cl_cell HC.out (by first | rfl | (simp [putL_len]; done)) (i := 1) (by decide); have d2 := cl_cell HC.out (by first | rfl | (simp [putL_len]; done)) (i := 2) (by decide); have d3 := cl_cell HC.out (by first | rfl | (simp [putL_len]; done)) (i := 3) (by decide))
        | (go_at_call 45; refine (set_lit _ _ _ _ _).mono ?_; rintro e w8 ⟨v8, rfl, hv8, hb8⟩; obtain ⟨A8, c8, hv8e, _⟩ := hv8.bod.reads; subst hv8e; have H8 := aK (show Bod w8 (.slice A8 1 c8) [setN (litC y.f3 x)] by have := hv8.bod; rw [HLC.out]; exact this); have hq8 := HQ.out.trans (hb8.mono HQ.out.size); have n1_ := aK (HO.out.below hq8); have n2_ := aK (HBS.out.below hq8); have n3_ := aK (HW5.out.trans (hq8.mono HW5.out.size)); clear HO HBS HW5 HQ HC x3 d0 d1 d2 d3 hv8 hb8 hq8; have HO := n1_; have HBS := n2_; have HW5 := n3_; clear n1_ n2_ n3_)
        | ((with_reducible refine gate_builtin (b := .append) (xs := #[.tmp 52, .tmp 55]) rfl ?_); at_builtin; refine append_event w5.heap.size rfl (.tmp 52) (.tmp 55) 95 42 (.slice none 0 0) 1 24 rfl Tryd.underlying95 (by kernel_rfl) rfl (by decide) (by decide) (.slice Ar k cr) k vs [.slice A8 1 c8] rfl rfl rfl (by simp [Value.oneCell']) HO.out.own HW5.out.size (by omega) ?_; intro v1 w9 hown hat; have n0_ := grow_row HW5.out.size HO.out.own HBS.out H8.out HW5.out (Nat.le_refl _) hat; have n1_ := aK (show RB w9 w5.heap.size v1 (k + 1) (vs ++ [.slice A8 1 c8]) from ⟨hown⟩); have n2_ := aK n0_.1; have n3_ := aK n0_.2; clear HO HBS HW5 H8 hown hat n0_; have HO := n1_; have HBS := n2_; have HW5 := n3_; clear n1_ n2_ n3_))
       go_roundw; (case measure => simp [intOf]; omega); (case rel => exact ⟨k + 1, vs ++ [.slice A8 1 c8], by go_num, ⟨ck⟩, HO, ⟨by have := HBS.out; rw [HKS.out]; exact this⟩, HW5⟩)
     ·have d97 : decide ((97 : Int) ≤ (lw : Int)) = false := decide_eq_false (by omega)
      have d97n : decide (97 ≤ lw) = false := decide_eq_false c97
      have HLC := aK (show litC y.f3 x = putL [0, 0, 0, 0] x by rw [litC, HLQ.out, if_neg (fun h => c97 h.2.1)])
      clear hfo
      go_wp2_with (first
        | ((with_reducible refine gate_dst (N := 8) rfl ?_); refine box_event (N := 8) rfl rfl (cs := #[.int .u64 0, .int .u64 0, .int .u64 0, .int .u64 0]) (t := 49) ?hr8 ?_; (case hr8 => first | (go_simp; done) | (go_simp; rfl)); intro gC hgC w6 hbox hb6; have HC := aK (show RowAt w6 gC 49 (clCells [0, 0, 0, 0]) from ⟨_, hbox, rfl⟩); have HQ := aK hb6; have HGC := aK (Nat.le_of_eq hgC.symm); clear hcell hbox hb6 hgC)
        | (go_at_call 59; have hcall := put_calls gC (x) ([0, 0, 0, 0]) _ HX.out HC.out (by first | rfl | (simp [putL_len]; done)); (with_reducible refine hcall.mono ?_); clear hcall; rintro e w7 ⟨rfl, hc7, hg7⟩; have n1_ := aK (pw_below_grown HQ.out (some gC) HQ.out.size hg7 (fun q hq => by have := HGC.out; cases hq; omega)); clear HC HQ; have HC := aK hc7; have HQ := n1_; clear n1_ hc7 hg7; (try clear x3); have x3 := HQ.out.cell (World.block_lt_of_cell? wr _ HX3.out) |>.trans HX3.out; (try clear d0 d1 d2 d3); have d0 := cl_cell HC.out (by first | rfl | (simp [putL_len]; done)) (i := 0) (by decide); have d1 := cl_cell HC.out (by first | rfl | (simp [putL_len]; done)) (i := 1) (by decide); have d2 := cl_cell HC.out (by first | rfl | (simp [putL_len]; done)) (i := 2) (by decide); have d3 := cl_cell HC.out (by first | rfl | (simp [putL_len]; done)) (i := 3) (by decide))
        | (go_at_call 45; refine (set_lit _ _ _ _ _).mono ?_; rintro e w8 ⟨v8, rfl, hv8, hb8⟩; obtain ⟨A8, c8, hv8e, _⟩ := hv8.bod.reads; subst hv8e; have H8 := aK (show Bod w8 (.slice A8 1 c8) [setN (litC y.f3 x)] by have := hv8.bod; rw [HLC.out]; exact this); have hq8 := HQ.out.trans (hb8.mono HQ.out.size); have n1_ := aK (HO.out.below hq8); have n2_ := aK (HBS.out.below hq8); have n3_ := aK (HW5.out.trans (hq8.mono HW5.out.size)); clear HO HBS HW5 HQ HC x3 d0 d1 d2 d3 hv8 hb8 hq8; have HO := n1_; have HBS := n2_; have HW5 := n3_; clear n1_ n2_ n3_)
        | ((with_reducible refine gate_builtin (b := .append) (xs := #[.tmp 52, .tmp 55]) rfl ?_); at_builtin; refine append_event w5.heap.size rfl (.tmp 52) (.tmp 55) 95 42 (.slice none 0 0) 1 24 rfl Tryd.underlying95 (by kernel_rfl) rfl (by decide) (by decide) (.slice Ar k cr) k vs [.slice A8 1 c8] rfl rfl rfl (by simp [Value.oneCell']) HO.out.own HW5.out.size (by omega) ?_; intro v1 w9 hown hat; have n0_ := grow_row HW5.out.size HO.out.own HBS.out H8.out HW5.out (Nat.le_refl _) hat; have n1_ := aK (show RB w9 w5.heap.size v1 (k + 1) (vs ++ [.slice A8 1 c8]) from ⟨hown⟩); have n2_ := aK n0_.1; have n3_ := aK n0_.2; clear HO HBS HW5 H8 hown hat n0_; have HO := n1_; have HBS := n2_; have HW5 := n3_; clear n1_ n2_ n3_))
      go_roundw; (case measure => simp [intOf]; omega); (case rel => exact ⟨k + 1, vs ++ [.slice A8 1 c8], by go_num, ⟨ck⟩, HO, ⟨by have := HBS.out; rw [HKS.out]; exact this⟩, HW5⟩)
   ·have b2 : decide ((k : Int) < (y.f2.size : Int)) = false := decide_eq_false (by omega)
    have b2n : decide (k < y.f2.size) = false := decide_eq_false ck
    have HKE := aK (show k = y.f2.size by have := HK.out; omega)
    have HVL := aK (show vs.length = k by have := HO.out.own.1; omega)
    have HLB := aK (show litK y.f3 y.f2 k = litB y.f3 y.f2 by rw [litK, litB, List.take_of_length_le (by rw [Array.length_toList, HKE.out]; exact Nat.le_refl _)])
    have HBF := aK (show Bods wr vs (litB y.f3 y.f2) by rw [← HLB.out]; exact HBS.out)
    have HGB5 := aK (show gb < w5.heap.size from Nat.lt_of_lt_of_le HGB.out HW.out.size)
    have HCELL := aK ((World.cell?_of_block (a := ⟨gb, 1, none⟩) (HW5.out.block gb HGB5.out)).trans ((World.cell?_of_block (a := ⟨gb, 1, none⟩) (HW.out.block gb HGB.out)).trans HL.out))
    have HFB := aK (show (litB y.f3 y.f2).flatten.length ≤ 1073741824 by rw [litB_len]; have := HZ.out; omega)
    cases hr : rowL left 4 (litB y.f3 y.f2) with
    | none =>
     have HRJ := aK hr
     clear hr
     go_wp2_with (first
      | (go_at_call 47; have hcall := row_lit w5.heap.size gb left 4 Ar cr vs (litB y.f3 y.f2) wr k HVL.out HO.out.own HBF.out HW5.out.size HGB5.out HCELL.out HFB.out (by omega); rw [HRJ.out] at hcall; (with_reducible refine hcall.mono ?_); clear hcall; rintro e w8 ⟨he, hb8⟩; have n1_ := aK (below_step HW.out (HW5.out.trans (hb8.mono (Nat.le_refl _)))); have he2 : e = .panicked tooMuch := he; subst he2; clear hb8))
     exact ⟨rfl, show LaidE w.heap.size w8 (litL left y.f3 y.f2) (.panicked tooMuch) from by rw [HJ.out, HRJ.out]; exact rfl, n1_.out⟩
    | some o =>
     have HRJ := aK hr
     clear hr
     go_wp2_with (first
      | (go_at_call 47; have hcall := row_lit w5.heap.size gb left 4 Ar cr vs (litB y.f3 y.f2) wr k HVL.out HO.out.own HBF.out HW5.out.size HGB5.out HCELL.out HFB.out (by omega); rw [HRJ.out] at hcall; (with_reducible refine hcall.mono ?_); clear hcall; rintro e w8 ⟨he, hb8⟩; have n1_ := aK (below_step HW.out (HW5.out.trans (hb8.mono (Nat.le_refl _)))); obtain ⟨v8, he1, hv8⟩ := he; subst he1; have HV8 := aK hv8; clear hv8; clear hb8))
     go_ret
     exact ⟨by rw [HJ.out, HRJ.out]; exact ⟨_, rfl, Kd.R_lower HV8.out HW.out.size⟩, n1_.out⟩
end
end Go.Proofs.YtihiicjnjhideaaDoor.Build
end
section
namespace Go.Proofs.YtihiicjnjhideaaDoor.Build
open Go.RowKit Go.Proofs.YtihiicjnjhideaaDoorW.PrintWords Go.Proofs.YtihiicjnjhideaaDoor.PAll Go.Proofs.YtihiicjnjhideaaDoor.Core
set_option linter.unusedVariables false
set_option linter.unusedSimpArgs false
def ff64 : Int := 18446744073709551615
/-- What a node lays of its parts' bodies. -/
def finL (left : Int) (NM : ByteArray → Int) (n : EN) (L : List (List CN)) : Option (List CN) :=
 if n.f0 = 0 then some [opN 0]
 else if n.f0 = 2 then some [setN [n.f4.f0, n.f4.f1, n.f4.f2, n.f4.f3]]
 else if n.f0 = 3 then some [setN [ff64, ff64, ff64, ff64]]
 else if n.f0 = 4 then some [{ (z55 : CN) with f0 := 2, f2 := NM n.f2 }]
 else if n.f0 = 5 then some [{ (z55 : CN) with f0 := 3, f3 := n.f2 }]
 else if n.f0 = 1 then litL left n.f3 n.f2
 else if n.f0 = 6 then rowL left 4 L
 else if n.f0 = 7 then rowL left 5 L
 else if n.f0 = 8 then perhL left (L.getD 0 []) 1
 else if n.f0 = 9 then joinL left [L.getD 0 [], [opN 6]]
 else if n.f0 = 10 then joinL left [L.getD 0 [], L.getD 0 [], [opN 6], [opN 4]]
 else if n.f0 = 11 then countL left (L.getD 0 []) n.f5.toNat n.f6
 else if n.f0 = 12 then joinL left [L.getD 0 [], [opN 7], [opN 7]]
 else if n.f0 = 13 then joinL left [L.getD 0 [], [opN 7]]
 else joinL left [L.getD 0 [], [{ (z55 : CN) with f0 := 8, f3 := n.f2 }]]
mutual
def layT (left : Int) (NM : ByteArray → Int) : T → Option (List CN)
 | .mk n ps => if n.f0 = 11 ∧ n.f6 = 0 then some [opN 0] else (layF left NM ps).bind (finL left NM n)
def layF (left : Int) (NM : ByteArray → Int) : List T → Option (List (List CN))
 | [] => some []
 | t :: ts => (layT left NM t).bind fun b => (layF left NM ts).bind fun bs => some (b :: bs)
end
theorem layF_snoc (left : Int) (NM : ByteArray → Int) (t : T) : ∀ ps : List T, layF left NM (ps ++ [t]) = (layF left NM ps).bind fun L => (layT left NM t).bind fun l => some (L ++ [l])
 | [] => by
  rw [List.nil_append, layF, layF, layF]
  cases layT left NM t <;> rfl
 | s :: ps => by
  rw [List.cons_append, layF, layF, layF_snoc left NM t ps]
  cases layT left NM s with
  | none => rfl
  | some b => cases layF left NM ps with
   | none => rfl
   | some L => cases layT left NM t <;> rfl
theorem layF_none {left : Int} {NM : ByteArray → Int} {ps qs : List T} (h : layF left NM ps = none) : layF left NM (ps ++ qs) = none := by
 induction ps with
 | nil => cases h
 | cons s ps ih =>
  rw [layF] at h
  rw [List.cons_append, layF]
  cases hs : layT left NM s with
  | none => rfl
  | some b =>
   rw [hs] at h
   cases hf : layF left NM ps with
   | none => rw [ih hf]; rfl
   | some L => rw [hf] at h; cases h
theorem layF_len {left : Int} {NM : ByteArray → Int} : ∀ {ps : List T} {L : List (List CN)}, layF left NM ps = some L → L.length = ps.length
 | [], L, h => by rw [layF] at h; cases h; rfl
 | t :: ts, L, h => by
  rw [layF] at h
  obtain ⟨b, _, h⟩ := Option.bind_eq_some_iff.1 h
  obtain ⟨bs, h2, h⟩ := Option.bind_eq_some_iff.1 h
  cases h
  rw [List.length_cons, List.length_cons, layF_len h2]
theorem rowL_le {left k : Int} {L : List (List CN)} {l : List CN} (hl : left ≤ 65536) (h : rowL left k L = some l) : l.length ≤ 65536 := by
 unfold rowL at h
 split at h
 ·cases h; simp
 ·have := joinL_le h; omega
theorem countL_le {left : Int} {b : List CN} {lo : Nat} {hi : Int} {l : List CN} (hl : left ≤ 65536) (h : countL left b lo hi = some l) : l.length ≤ 65536 := by
 unfold countL at h
 obtain ⟨t, _, h⟩ := Option.bind_eq_some_iff.1 h
 exact rowL_le hl h
theorem finL_le {left : Int} {NM : ByteArray → Int} {n : EN} {L : List (List CN)} {l : List CN} (hl : left ≤ 65536) (h : finL left NM n L = some l) : l.length ≤ 65536 := by
 have hj : ∀ {L : List (List CN)}, joinL left L = some l → l.length ≤ 65536 := fun h => by have := joinL_le h; omega
 unfold finL at h
 by_cases h0 : n.f0 = 0
 ·rw [if_pos h0] at h
  (cases h; exact (by decide : 1 ≤ 65536))
 rw [if_neg h0] at h
 by_cases h2 : n.f0 = 2
 ·rw [if_pos h2] at h
  (cases h; exact (by decide : 1 ≤ 65536))
 rw [if_neg h2] at h
 by_cases h3 : n.f0 = 3
 ·rw [if_pos h3] at h
  (cases h; exact (by decide : 1 ≤ 65536))
 rw [if_neg h3] at h
 by_cases h4 : n.f0 = 4
 ·rw [if_pos h4] at h
  (cases h; exact (by decide : 1 ≤ 65536))
 rw [if_neg h4] at h
 by_cases h5 : n.f0 = 5
 ·rw [if_pos h5] at h
  (cases h; exact (by decide : 1 ≤ 65536))
 rw [if_neg h5] at h
 by_cases h1 : n.f0 = 1
 ·rw [if_pos h1] at h
  (unfold litL at h; by_cases hq : (n.f2.size : Int) > left; (· rw [if_pos hq] at h; cases h); (· rw [if_neg hq] at h; exact rowL_le hl h))
 rw [if_neg h1] at h
 by_cases h6 : n.f0 = 6
 ·rw [if_pos h6] at h
  exact rowL_le hl h
 rw [if_neg h6] at h
 by_cases h7 : n.f0 = 7
 ·rw [if_pos h7] at h
  exact rowL_le hl h
 rw [if_neg h7] at h
 by_cases h8 : n.f0 = 8
 ·rw [if_pos h8] at h
  (have := perhL_le h; omega)
 rw [if_neg h8] at h
 by_cases h9 : n.f0 = 9
 ·rw [if_pos h9] at h
  exact hj h
 rw [if_neg h9] at h
 by_cases h10 : n.f0 = 10
 ·rw [if_pos h10] at h
  exact hj h
 rw [if_neg h10] at h
 by_cases h11 : n.f0 = 11
 ·rw [if_pos h11] at h
  exact countL_le hl h
 rw [if_neg h11] at h
 by_cases h12 : n.f0 = 12
 ·rw [if_pos h12] at h
  exact hj h
 rw [if_neg h12] at h
 by_cases h13 : n.f0 = 13
 ·rw [if_pos h13] at h
  exact hj h
 rw [if_neg h13] at h
 exact hj h
theorem layT_le {left : Int} {NM : ByteArray → Int} {t : T} {l : List CN} (hl : left ≤ 65536) (h : layT left NM t = some l) : l.length ≤ 65536 := by
 cases t with
 | mk n ps =>
  rw [layT] at h
  split at h
  ·cases h; simp
  ·obtain ⟨L, _, h⟩ := Option.bind_eq_some_iff.1 h
   exact finL_le hl h
theorem layF_all {left : Int} {NM : ByteArray → Int} (hl : left ≤ 65536) : ∀ {ps : List T} {L : List (List CN)}, layF left NM ps = some L → ∀ l ∈ L, l.length ≤ 65536
 | [], L, h => by rw [layF] at h; cases h; simp
 | t :: ts, L, h => by
  rw [layF] at h
  obtain ⟨b, h1, h⟩ := Option.bind_eq_some_iff.1 h
  obtain ⟨bs, h2, h⟩ := Option.bind_eq_some_iff.1 h
  cases h
  intro l hm
  rcases List.mem_cons.1 hm with rfl | hm
  ·exact layT_le hl h1
  ·exact layF_all hl h2 l hm
theorem flat_le {B : Nat} : ∀ {L : List (List CN)}, (∀ l ∈ L, l.length ≤ B) → L.flatten.length ≤ L.length * B
 | [], _ => by simp
 | l :: L, h => by
  rw [List.flatten_cons, List.length_append, List.length_cons, Nat.succ_mul]
  have h1 := h l (List.mem_cons_self ..)
  have h2 := flat_le (L := L) (fun x hx => h x (List.mem_cons_of_mem _ hx))
  omega
/-- The builder as node finds it. -/
structure BW (w : World) (gb gm : Nat) (left : Int) (NM : ByteArray → Int) : Prop where
 c0 : w.cell? ⟨gb, 0, none⟩ = some (.map (some gm))
 c1 : w.cell? ⟨gb, 1, none⟩ = some (.int .i64 left)
 lk : ∀ W, Below w.heap.size w W → ∀ s, (Instr.lookup 64 (.map (some gm)) (.string s) false).run Tryd.prog W = .ok (.int .i64 (NM s)) W
 all : ∀ i, i < 4 → w.cell? ⟨0, i, none⟩ = some (.int .u64 ff64)
theorem cell_below {w w' : World} {a : Addr} {v : Value} (h : w.cell? a = some v) (hb : Below w.heap.size w w') : w'.cell? a = some v := (World.cell?_of_block (hb.block _ (World.block_lt_of_cell? w _ h))).trans h
theorem BW.below {w w' : World} {gb gm : Nat} {left : Int} {NM : ByteArray → Int} (h : BW w gb gm left NM) (hb : Below w.heap.size w w') : BW w' gb gm left NM :=
 ⟨cell_below h.c0 hb, cell_below h.c1 hb, fun W hW s => h.lk W (hb.trans (hW.mono hb.size)) s, fun i hi => cell_below (h.all i hi) hb⟩
theorem BW.lt {w : World} {gb gm : Nat} {left : Int} {NM : ByteArray → Int} (h : BW w gb gm left NM) : gb < w.heap.size := World.block_lt_of_cell? w _ h.c0
/-- node lays t. -/
def NodeOk (gb gm : Nat) (left : Int) (NM : ByteArray → Int) (t : T) : Prop := ∀ (ad : Addr) (n c : Nat) (w : World), BW w gb gm left NM → Kd.C kEN w (some ad) n (flatT t) → n ≤ c → n ≤ 4096 →
 Calls Tryd.prog 31 #[.pointer (some ⟨gb, 0, none⟩), .slice (some ad) n c] w fun e w' => LaidE w.heap.size w' (layT left NM t) e ∧ Below w.heap.size w w'
/-- Blocks that are no row of bodies stay, but for one. -/
def Stay (w w' : World) (g6 : Nat) : Prop := ∀ (k : Nat) (cells : Array Value) (t : TypeId), w.heap[k]? = some (.cells cells t (0, 0)) → k ≠ g6 → t ≠ 42 → w'.heap[k]? = w.heap[k]?
theorem Stay.trans {w w1 w2 : World} {g6 : Nat} (h : Stay w w1 g6) (k : Stay w1 w2 g6) : Stay w w2 g6 := fun i cs t h1 h2 h3 => by
 have e := h i cs t h1 h2 h3
 exact (k i cs t (e.trans h1) h2 h3).trans e
theorem Stay.below {w w' : World} {g6 : Nat} (h : Below w.heap.size w w') : Stay w w' g6 := fun i cs t h1 _ _ => h.block i (blk_lt h1)
theorem Stay.row {w w' : World} {g6 g : Nat} {e : TypeId} {cs : List Value} (h : Stay w w' g6) (hr : RowAt w g e cs) (hg : g ≠ g6) (he : e ≠ 42) : RowAt w' g e cs := by
 obtain ⟨cur, h1, h2⟩ := hr
 exact ⟨cur, (h g cur e h1 hg he).trans h1, h2⟩
theorem Stay.grown {w w' : World} {g6 b n s : Nat} {u : Value} {xs : List Value} (ho : w.ownsRow b 42 s u n xs) {row : Option Nat} (hg : w.grownBy w' row) (hrow : ∀ k, row = some k → u.ownBlock = some k) : Stay w w' g6 := fun i cs t h1 _ h3 => hg.block i (blk_lt h1) (fun e => by
 obtain ⟨c0, e0⟩ := own_typed ho i (hrow i e.symm)
 rw [h1] at e0
 injection e0 with e0
 injection e0 with _ e0
 exact h3 e0)
theorem Stay.put {w w' : World} {g6 : Nat} (hg : w.grownBy w' (some g6)) : Stay w w' g6 := fun i cs t h1 h2 _ => hg.block i (blk_lt h1) (fun e => h2 (by injection e))
/-- The parts' bodies, boxed, so far. -/
structure LaySt (w0 w : World) (g6 : Nat) (u : Value) (k : Nat) (vs : List Value) (L : List (List CN)) : Prop where
 box : RowAt w g6 95 [u]
 own : w.ownsRow w0.heap.size 42 1 u k vs
 bods : Bods w vs L
 below : Below w0.heap.size w0 w
 ge : w0.heap.size ≤ g6
theorem LaySt.len {w0 w : World} {g6 k : Nat} {u : Value} {vs : List Value} {L : List (List CN)} (h : LaySt w0 w g6 u k vs L) : L.length = k ∧ vs.length = k := ⟨by rw [← h.bods.1]; exact h.own.1.trans (Nat.mul_one k), h.own.1.trans (Nat.mul_one k)⟩
theorem LaySt.next {w0 w w' : World} {g6 k : Nat} {u : Value} {vs : List Value} {L : List (List CN)} (h : LaySt w0 w g6 u k vs L) (hb : Below w.heap.size w w') : LaySt w0 w' g6 u k vs L :=
 ⟨h.box.below hb, own_kept h.own (fun k e => hb.block k (own_lt h.own k e)), h.bods.below hb, below_step h.below hb, h.ge⟩
end Go.Proofs.YtihiicjnjhideaaDoor.Build
end
