/- Parts of the proof of coreOrder: BuildCount, MapEntry, Region, BuildSplit. No condition beyond each lemma's own. -/
import Derived.Deep.RegionHeld3
import Derived.Test.YtihiicjnjhideaaDoorTO0
import Derived.Test.YtihiicjnjhideaaDoorTO3
import Derived.Test.YtihiicjnjhideaaDoorTO4
import Derived.Test.YtihiicjnjhideaaDoorTO6
import Derived.Test.YtihiicjnjhideaaDoorTO18
section
namespace Go.Proofs.YtihiicjnjhideaaDoor.Build
open Go.RowKit Go.Proofs.YtihiicjnjhideaaDoorW.PrintWords Go.Proofs.YtihiicjnjhideaaDoor.PAll Go.Proofs.YtihiicjnjhideaaDoor.Core
set_option linter.unusedVariables false
set_option linter.unusedSimpArgs false
structure RB (w : World) (base : Nat) (v : Value) (n : Nat) (vs : List Value) : Prop where
 own : w.ownsRow base 42 1 v n vs
theorem RB.below {w w' : World} {base n : Nat} {v : Value} {vs : List Value} (h : RB w base v n vs) (hb : Below w.heap.size w w') : RB w' base v n vs := ⟨own_kept h.own (fun k e => hb.block k (own_lt h.own k e))⟩
/-- From low to high times. -/
def tailL (left : Int) (b : List CN) (low : Nat) (high : Int) : Option (List (List CN)) :=
 if high < 0 then (joinL left [b, [opN 6]]).map fun x => [x] else if high > low then (perhL left b (high - low).toNat).map fun x => [x] else some []
def countL (left : Int) (b : List CN) (low : Nat) (high : Int) : Option (List CN) := (tailL left b low high).bind fun t => rowL left 4 (List.replicate low b ++ t)
theorem reps_len (n : Nat) (b : List CN) : (List.replicate n b).flatten.length = n * b.length := by simp
section
variable (gb : Nat) (left : Int) (vb : Value) (b : List CN) (low : Nat) (high : Int) (w : World)
set_option maxHeartbeats 4000000 in
set_option maxRecDepth 100000 in
theorem count_calls (hb : Bod w vb b) (hlow : low ≤ 1024) (hh : high ≤ 1024) (hh0 : -1 ≤ high) (hl : w.cell? ⟨gb, 1, none⟩ = some (.int .i64 left)) (hlen : b.length ≤ 65536) (hleft : left ≤ 65536) :
  Calls Tryd.prog 50 #[.pointer (some ⟨gb, 0, none⟩), vb, .int .i64 low, .int .i64 high] w fun e w' => LaidE w.heap.size w' (countL left b low high) e ∧ Below w.heap.size w w' := by
 obtain ⟨Ab, cb, hvb, hcb, _⟩ := hb.reads
 subst hvb
 have HBD := aK hb
 have HL := aK hl
 have HLEN := aK hlen
 have HLEFT := aK hleft
 have HLOW := aK hlow
 have HH := aK hh
 have HGB := aK (World.block_lt_of_cell? w _ hl)
 have HW := aK (Below.refl w.heap.size w)
 have HO := aK (show RB w w.heap.size (.slice none 0 0) 0 [] from ⟨World.ownsRow_nil _ _ _ _⟩)
 have HBS := aK (Bods.nil w)
 clear hb hl hlen hleft
 go_enter Tryd.func50, Tryd.ntmps50
 go_wp2
 go_loopw [9, 11] (fun v9 v11 wr => ∃ (k : Nat), v11 = .int .i64 k ∧ Aside0 (k ≤ low) ∧ Aside0 (RB wr w.heap.size v9 k (List.replicate k (.slice Ab b.length cb))) ∧ Aside0 (Bods wr (List.replicate k (.slice Ab b.length cb)) (List.replicate k b)) ∧ Aside0 (Bod wr (.slice Ab b.length cb) b) ∧ Aside0 (Below w.heap.size w wr)) (fun _ v11 _ => low - (intOf v11).toNat)
 case atStart => exact ⟨0, rfl, ⟨Nat.zero_le _⟩, HO, HBS, HBD, HW⟩
 case round =>
  clear HO HBS HBD HW
  obtain ⟨k, rfl, HK, HO, HBS, HBD, HW⟩ := hrel
  have kb : (k : Int) ≤ 1024 := by have := HK.out; omega
  obtain ⟨Ar, cr, hu⟩ := own_slice HO.out.own
  subst hu
  by_cases ck : k < low
  ·have b3 : decide ((k : Int) < (low : Int)) = true := decide_eq_true (by omega)
   have b3n : decide (k < low) = true := decide_eq_true ck
   go_wp2_with (first
    | ((with_reducible refine gate_builtin (b := .append) (xs := #[.tmp 13, .tmp 15]) rfl ?_); at_builtin; refine append_event w.heap.size rfl (.tmp 13) (.tmp 15) 95 42 (.slice none 0 0) 1 24 rfl Tryd.underlying95 (by kernel_rfl) rfl (by decide) (by decide) (.slice Ar k cr) k (List.replicate k (.slice Ab b.length cb)) [.slice Ab b.length cb] rfl rfl rfl (by simp [Value.oneCell']) HO.out.own HW.out.size (by omega) ?_; intro v1 w5 hown hat; obtain ⟨Ax, cx, hvx⟩ := own_slice hown; subst hvx; have n0_ := grow_row HW.out.size HO.out.own HBS.out HBD.out HW.out (Nat.le_refl _) hat; (obtain ⟨row_, hg_, hr_⟩ := hat_row hat; have nb_ := aK (HBD.out.over HO.out.own (by decide) hg_ hr_); clear HBD hg_ hr_; have HBD := nb_; clear nb_); have n1_ := aK (show RB w5 w.heap.size (.slice Ax (k + 1) cx) (k + 1) (List.replicate k (.slice Ab b.length cb) ++ [.slice Ab b.length cb]) from ⟨hown⟩); have n2_ := aK n0_.1; have n3_ := aK n0_.2; clear HO HBS HW hown hat n0_; have HO := n1_; have HBS := n2_; have HW := n3_; clear n1_ n2_ n3_))
   go_roundw
   case measure => simp [intOf]; omega
   case rel => exact ⟨k + 1, by go_num, ⟨ck⟩, by rw [List.replicate_succ']; exact HO, by rw [List.replicate_succ', List.replicate_succ']; exact HBS, HBD, HW⟩
  ·have b3 : decide ((k : Int) < (low : Int)) = false := decide_eq_false (by omega)
   have b3n : decide (k < low) = false := decide_eq_false ck
   obtain rfl : k = low := by have := HK.out; omega
   by_cases c1 : high < 0
   ·have b4 : decide (high < 0) = true := decide_eq_true c1
    have HC1 := aK c1
    cases hj : joinL left [b, [opN 6]] with
    | none =>
     have HJ := aK hj
     have HTN := aK (show countL left b k high = none by rw [countL, tailL, if_pos HC1.out, hj]; rfl)
     clear hj
     go_wp2_with (first
      | (go_at_call 41; refine (op_lit 6 _).mono ?_; rintro e w6 ⟨v4, rfl, hv, hb4⟩; obtain ⟨A6, c6, hv4, _⟩ := hv.bod.reads; subst hv4; have n1_ := aK (below_step HW.out hb4); clear HW; have HW := n1_; clear n1_; (try (have n1_ := aK (HBD.out.below hb4); clear HBD; have HBD := n1_; clear n1_)); (try (have n1_ := aK (HBS.out.below hb4); clear HBS; have HBS := n1_; clear n1_)); (try (have n1_ := aK (HO.out.below hb4); clear HO; have HO := n1_; clear n1_)); (try (have n1_ := aK (H6.out.below hb4); clear H6; have H6 := n1_; clear n1_)); (try (have n1_ := aK (H7.out.below hb4); clear H7; have H7 := n1_; clear n1_)); have H6 := aK (show Bod w6 (.slice A6 1 c6) [opN 6] from hv.bod); clear hv hb4)
      | (go_at_call 49; have hws5 := HW.out.size; have hal := below_alloc (Below.refl w6.heap.size w6) (.cells #[.slice Ab b.length cb, .slice A6 1 c6] 42); have hcall := join_lit gb left (some ⟨w6.heap.size, 0, none⟩) 2 [.slice Ab b.length cb, .slice A6 1 c6] [b, [opN 6]] (w6.alloc (.cells #[.slice Ab b.length cb, .slice A6 1 c6] 42)) 2 rfl (RowV.row ⟨_, heap_alloc_new _ _, rfl⟩) (Bods.cons (HBD.out.below hal) (Bods.cons (H6.out.below hal) (Bods.nil _))) ((World.cell?_of_block (a := ⟨gb, 1, none⟩) ((below_step HW.out hal).block gb HGB.out)).trans HL.out) (by have := HLEN.out; simp; omega) (by omega); rw [HJ.out] at hcall; (with_reducible refine hcall.mono ?_); clear hcall; rintro e w7 ⟨he, hb6⟩; have hb7 := below_step hal hb6; have n1_ := aK (below_step HW.out hb7); clear HW; have HW := n1_; clear n1_; (try (have n1_ := aK (HBD.out.below hb7); clear HBD; have HBD := n1_; clear n1_)); (try (have n1_ := aK (HBS.out.below hb7); clear HBS; have HBS := n1_; clear n1_)); (try (have n1_ := aK (HO.out.below hb7); clear HO; have HO := n1_; clear n1_)); (try (have n1_ := aK (H6.out.below hb7); clear H6; have H6 := n1_; clear n1_)); (try (have n1_ := aK (H7.out.below hb7); clear H7; have H7 := n1_; clear n1_)); have he2 : e = .panicked tooMuch := he; subst he2; clear hb6 hb7 hal hws5))
     exact ⟨rfl, show LaidE w.heap.size w7 (countL left b k high) (.panicked tooMuch) from by rw [HTN.out]; exact rfl, HW.out⟩
    | some o7 =>
     have HJ := aK hj
     have HTL := aK (show tailL left b k high = some [o7] by rw [tailL, if_pos HC1.out, hj]; rfl)
     have HOL := aK (show (o7.length : Int) ≤ left from joinL_le hj)
     have HFB := aK (show (List.replicate k b ++ [o7]).flatten.length ≤ 1073741824 by have h1 := Nat.mul_le_mul HLOW.out HLEN.out; have h2 := HOL.out; have h3 := HLEFT.out; rw [List.flatten_append, List.length_append, reps_len]; simp; omega)
     clear hj
     cases hr : rowL left 4 (List.replicate k b ++ [o7]) with
     | none =>
      have HRJ := aK hr
      clear hr
      go_wp2_with (first
       | (go_at_call 41; refine (op_lit 6 _).mono ?_; rintro e w6 ⟨v4, rfl, hv, hb4⟩; obtain ⟨A6, c6, hv4, _⟩ := hv.bod.reads; subst hv4; have n1_ := aK (below_step HW.out hb4); clear HW; have HW := n1_; clear n1_; (try (have n1_ := aK (HBD.out.below hb4); clear HBD; have HBD := n1_; clear n1_)); (try (have n1_ := aK (HBS.out.below hb4); clear HBS; have HBS := n1_; clear n1_)); (try (have n1_ := aK (HO.out.below hb4); clear HO; have HO := n1_; clear n1_)); (try (have n1_ := aK (H6.out.below hb4); clear H6; have H6 := n1_; clear n1_)); (try (have n1_ := aK (H7.out.below hb4); clear H7; have H7 := n1_; clear n1_)); have H6 := aK (show Bod w6 (.slice A6 1 c6) [opN 6] from hv.bod); clear hv hb4)
       | (go_at_call 49; have hws5 := HW.out.size; have hal := below_alloc (Below.refl w6.heap.size w6) (.cells #[.slice Ab b.length cb, .slice A6 1 c6] 42); have hcall := join_lit gb left (some ⟨w6.heap.size, 0, none⟩) 2 [.slice Ab b.length cb, .slice A6 1 c6] [b, [opN 6]] (w6.alloc (.cells #[.slice Ab b.length cb, .slice A6 1 c6] 42)) 2 rfl (RowV.row ⟨_, heap_alloc_new _ _, rfl⟩) (Bods.cons (HBD.out.below hal) (Bods.cons (H6.out.below hal) (Bods.nil _))) ((World.cell?_of_block (a := ⟨gb, 1, none⟩) ((below_step HW.out hal).block gb HGB.out)).trans HL.out) (by have := HLEN.out; simp; omega) (by omega); rw [HJ.out] at hcall; (with_reducible refine hcall.mono ?_); clear hcall; rintro e w7 ⟨he, hb6⟩; have hb7 := below_step hal hb6; have n1_ := aK (below_step HW.out hb7); clear HW; have HW := n1_; clear n1_; (try (have n1_ := aK (HBD.out.below hb7); clear HBD; have HBD := n1_; clear n1_)); (try (have n1_ := aK (HBS.out.below hb7); clear HBS; have HBS := n1_; clear n1_)); (try (have n1_ := aK (HO.out.below hb7); clear HO; have HO := n1_; clear n1_)); (try (have n1_ := aK (H6.out.below hb7); clear H6; have H6 := n1_; clear n1_)); (try (have n1_ := aK (H7.out.below hb7); clear H7; have H7 := n1_; clear n1_)); obtain ⟨v7, he1, hv7⟩ := he; subst he1; obtain ⟨A7, c7, hv7e, _⟩ := hv7.bod.reads; subst hv7e; have H7 := aK (show Bod w7 (.slice A7 o7.length c7) o7 from hv7.bod); clear hv7; clear hb6 hb7 hal hws5)
       | ((with_reducible refine gate_builtin (b := .append) (xs := #[.tmp 21, .tmp 27]) rfl ?_); at_builtin; refine append_event w.heap.size rfl (.tmp 21) (.tmp 27) 95 42 (.slice none 0 0) 1 24 rfl Tryd.underlying95 (by kernel_rfl) rfl (by decide) (by decide) (.slice Ar k cr) k (List.replicate k (.slice Ab b.length cb)) [.slice A7 o7.length c7] rfl rfl rfl (by simp [Value.oneCell']) HO.out.own HW.out.size (by omega) ?_; intro v1 w5 hown hat; obtain ⟨Ax, cx, hvx⟩ := own_slice hown; subst hvx; have n0_ := grow_row HW.out.size HO.out.own HBS.out H7.out HW.out (Nat.le_refl _) hat; skip; have n1_ := aK (show RB w5 w.heap.size (.slice Ax (k + 1) cx) (k + 1) (List.replicate k (.slice Ab b.length cb) ++ [.slice A7 o7.length c7]) from ⟨hown⟩); have n2_ := aK n0_.1; have n3_ := aK n0_.2; clear HO HBS HW hown hat n0_; have HO := n1_; have HBS := n2_; have HW := n3_; clear n1_ n2_ n3_)
       | (go_at_call 47; obtain ⟨Aq, cq, hu⟩ := own_slice HO.out.own; have hcall := row_lit w.heap.size gb left 4 Ax cx (List.replicate k (.slice Ab b.length cb) ++ [.slice A7 o7.length c7]) (List.replicate k b ++ [o7]) w5 (k + 1) (by simp) HO.out.own HBS.out HW.out.size HGB.out ((World.cell?_of_block (a := ⟨gb, 1, none⟩) (HW.out.block gb HGB.out)).trans HL.out) HFB.out (by have := HLOW.out; omega); rw [HRJ.out] at hcall; (with_reducible refine hcall.mono ?_); clear hcall; rintro e w8 ⟨he, hb8⟩; have n1_ := aK (HW.out.trans (hb8.mono (Nat.le_refl _))); clear HW; have HW := n1_; clear n1_; have he2 : e = .panicked tooMuch := he; subst he2; clear hb8))
      exact ⟨rfl, show LaidE w.heap.size _ (countL left b k high) (.panicked tooMuch) from by rw [countL, HTL.out]; show LaidE w.heap.size _ (rowL left 4 _) _; rw [HRJ.out]; exact rfl, HW.out⟩
     | some o =>
      have HRJ := aK hr
      clear hr
      go_wp2_with (first
       | (go_at_call 41; refine (op_lit 6 _).mono ?_; rintro e w6 ⟨v4, rfl, hv, hb4⟩; obtain ⟨A6, c6, hv4, _⟩ := hv.bod.reads; subst hv4; have n1_ := aK (below_step HW.out hb4); clear HW; have HW := n1_; clear n1_; (try (have n1_ := aK (HBD.out.below hb4); clear HBD; have HBD := n1_; clear n1_)); (try (have n1_ := aK (HBS.out.below hb4); clear HBS; have HBS := n1_; clear n1_)); (try (have n1_ := aK (HO.out.below hb4); clear HO; have HO := n1_; clear n1_)); (try (have n1_ := aK (H6.out.below hb4); clear H6; have H6 := n1_; clear n1_)); (try (have n1_ := aK (H7.out.below hb4); clear H7; have H7 := n1_; clear n1_)); have H6 := aK (show Bod w6 (.slice A6 1 c6) [opN 6] from hv.bod); clear hv hb4)
       | (go_at_call 49; have hws5 := HW.out.size; have hal := below_alloc (Below.refl w6.heap.size w6) (.cells #[.slice Ab b.length cb, .slice A6 1 c6] 42); have hcall := join_lit gb left (some ⟨w6.heap.size, 0, none⟩) 2 [.slice Ab b.length cb, .slice A6 1 c6] [b, [opN 6]] (w6.alloc (.cells #[.slice Ab b.length cb, .slice A6 1 c6] 42)) 2 rfl (RowV.row ⟨_, heap_alloc_new _ _, rfl⟩) (Bods.cons (HBD.out.below hal) (Bods.cons (H6.out.below hal) (Bods.nil _))) ((World.cell?_of_block (a := ⟨gb, 1, none⟩) ((below_step HW.out hal).block gb HGB.out)).trans HL.out) (by have := HLEN.out; simp; omega) (by omega); rw [HJ.out] at hcall; (with_reducible refine hcall.mono ?_); clear hcall; rintro e w7 ⟨he, hb6⟩; have hb7 := below_step hal hb6; have n1_ := aK (below_step HW.out hb7); clear HW; have HW := n1_; clear n1_; (try (have n1_ := aK (HBD.out.below hb7); clear HBD; have HBD := n1_; clear n1_)); (try (have n1_ := aK (HBS.out.below hb7); clear HBS; have HBS := n1_; clear n1_)); (try (have n1_ := aK (HO.out.below hb7); clear HO; have HO := n1_; clear n1_)); (try (have n1_ := aK (H6.out.below hb7); clear H6; have H6 := n1_; clear n1_)); (try (have n1_ := aK (H7.out.below hb7); clear H7; have H7 := n1_; clear n1_)); obtain ⟨v7, he1, hv7⟩ := he; subst he1; obtain ⟨A7, c7, hv7e, _⟩ := hv7.bod.reads; subst hv7e; have H7 := aK (show Bod w7 (.slice A7 o7.length c7) o7 from hv7.bod); clear hv7; clear hb6 hb7 hal hws5)
       | ((with_reducible refine gate_builtin (b := .append) (xs := #[.tmp 21, .tmp 27]) rfl ?_); at_builtin; refine append_event w.heap.size rfl (.tmp 21) (.tmp 27) 95 42 (.slice none 0 0) 1 24 rfl Tryd.underlying95 (by kernel_rfl) rfl (by decide) (by decide) (.slice Ar k cr) k (List.replicate k (.slice Ab b.length cb)) [.slice A7 o7.length c7] rfl rfl rfl (by simp [Value.oneCell']) HO.out.own HW.out.size (by omega) ?_; intro v1 w5 hown hat; obtain ⟨Ax, cx, hvx⟩ := own_slice hown; subst hvx; have n0_ := grow_row HW.out.size HO.out.own HBS.out H7.out HW.out (Nat.le_refl _) hat; skip; have n1_ := aK (show RB w5 w.heap.size (.slice Ax (k + 1) cx) (k + 1) (List.replicate k (.slice Ab b.length cb) ++ [.slice A7 o7.length c7]) from ⟨hown⟩); have n2_ := aK n0_.1; have n3_ := aK n0_.2; clear HO HBS HW hown hat n0_; have HO := n1_; have HBS := n2_; have HW := n3_; clear n1_ n2_ n3_)
       | (go_at_call 47; obtain ⟨Aq, cq, hu⟩ := own_slice HO.out.own; have hcall := row_lit w.heap.size gb left 4 Ax cx (List.replicate k (.slice Ab b.length cb) ++ [.slice A7 o7.length c7]) (List.replicate k b ++ [o7]) w5 (k + 1) (by simp) HO.out.own HBS.out HW.out.size HGB.out ((World.cell?_of_block (a := ⟨gb, 1, none⟩) (HW.out.block gb HGB.out)).trans HL.out) HFB.out (by have := HLOW.out; omega); rw [HRJ.out] at hcall; (with_reducible refine hcall.mono ?_); clear hcall; rintro e w8 ⟨he, hb8⟩; have n1_ := aK (HW.out.trans (hb8.mono (Nat.le_refl _))); clear HW; have HW := n1_; clear n1_; obtain ⟨v8, he1, hv8⟩ := he; subst he1; have HV8 := aK hv8; clear hv8; clear hb8))
      go_ret
      exact ⟨by rw [countL, HTL.out]; show LaidE w.heap.size _ (rowL left 4 _) _; rw [HRJ.out]; exact ⟨_, rfl, HV8.out⟩, HW.out⟩
   ·have b4 : decide (high < 0) = false := decide_eq_false c1
    by_cases c2 : high > (k : Int)
    ·have b5 : decide (high > (k : Int)) = true := decide_eq_true c2
     have b5n : decide ((k : Int) < high) = true := decide_eq_true c2
     have HC1 := aK c1
     have HC2 := aK c2
     have HHK := aK (show ((high - (k : Int)).toNat : Int) = high - (k : Int) by omega)
     have hw2 : IntKind.i64.wrap (high - (k : Int)) = high - (k : Int) := IntWalk.i64_in _ (by omega)
     cases hj : perhL left b (high - (k : Int)).toNat with
     | none =>
      have HJ := aK hj
      have HTN := aK (show countL left b k high = none by rw [countL, tailL, if_neg HC1.out, if_pos HC2.out, hj]; rfl)
      clear hj
      go_wp2_with (first
       | (go_at_call 41; refine (op_lit 6 _).mono ?_; rintro e w6 ⟨v4, rfl, hv, hb4⟩; obtain ⟨A6, c6, hv4, _⟩ := hv.bod.reads; subst hv4; have n1_ := aK (below_step HW.out hb4); clear HW; have HW := n1_; clear n1_; (try (have n1_ := aK (HBD.out.below hb4); clear HBD; have HBD := n1_; clear n1_)); (try (have n1_ := aK (HBS.out.below hb4); clear HBS; have HBS := n1_; clear n1_)); (try (have n1_ := aK (HO.out.below hb4); clear HO; have HO := n1_; clear n1_)); (try (have n1_ := aK (H6.out.below hb4); clear H6; have H6 := n1_; clear n1_)); (try (have n1_ := aK (H7.out.below hb4); clear H7; have H7 := n1_; clear n1_)); have H6 := aK (show Bod w6 (.slice A6 1 c6) [opN 6] from hv.bod); clear hv hb4)
       | (go_at_call 48; have hcall := perhaps_calls gb left (.slice Ab b.length cb) b (high - (k : Int)).toNat wr HBD.out (by omega) (by have := HH.out; omega) ((World.cell?_of_block (a := ⟨gb, 1, none⟩) (HW.out.block gb HGB.out)).trans HL.out) (by have := HLEN.out; omega) (by have := HLEFT.out; omega); rw [HJ.out, HHK.out] at hcall; (with_reducible refine hcall.mono ?_); clear hcall; rintro e w7 ⟨he, hb7⟩; have n1_ := aK (below_step HW.out hb7); clear HW; have HW := n1_; clear n1_; (try (have n1_ := aK (HBD.out.below hb7); clear HBD; have HBD := n1_; clear n1_)); (try (have n1_ := aK (HBS.out.below hb7); clear HBS; have HBS := n1_; clear n1_)); (try (have n1_ := aK (HO.out.below hb7); clear HO; have HO := n1_; clear n1_)); (try (have n1_ := aK (H6.out.below hb7); clear H6; have H6 := n1_; clear n1_)); (try (have n1_ := aK (H7.out.below hb7); clear H7; have H7 := n1_; clear n1_)); have he2 : e = .panicked tooMuch := he; subst he2; clear hb7))
      exact ⟨rfl, show LaidE w.heap.size w7 (countL left b k high) (.panicked tooMuch) from by rw [HTN.out]; exact rfl, HW.out⟩
     | some o7 =>
      have HJ := aK hj
      have HTL := aK (show tailL left b k high = some [o7] by rw [tailL, if_neg HC1.out, if_pos HC2.out, hj]; rfl)
      have HOL := aK (show (o7.length : Int) ≤ left from perhL_le hj)
      have HFB := aK (show (List.replicate k b ++ [o7]).flatten.length ≤ 1073741824 by have h1 := Nat.mul_le_mul HLOW.out HLEN.out; have h2 := HOL.out; have h3 := HLEFT.out; rw [List.flatten_append, List.length_append, reps_len]; simp; omega)
      clear hj
      cases hr : rowL left 4 (List.replicate k b ++ [o7]) with
      | none =>
       have HRJ := aK hr
       clear hr
       go_wp2_with (first
        | (go_at_call 41; refine (op_lit 6 _).mono ?_; rintro e w6 ⟨v4, rfl, hv, hb4⟩; obtain ⟨A6, c6, hv4, _⟩ := hv.bod.reads; subst hv4; have n1_ := aK (below_step HW.out hb4); clear HW; have HW := n1_; clear n1_; (try (have n1_ := aK (HBD.out.below hb4); clear HBD; have HBD := n1_; clear n1_)); (try (have n1_ := aK (HBS.out.below hb4); clear HBS; have HBS := n1_; clear n1_)); (try (have n1_ := aK (HO.out.below hb4); clear HO; have HO := n1_; clear n1_)); (try (have n1_ := aK (H6.out.below hb4); clear H6; have H6 := n1_; clear n1_)); (try (have n1_ := aK (H7.out.below hb4); clear H7; have H7 := n1_; clear n1_)); have H6 := aK (show Bod w6 (.slice A6 1 c6) [opN 6] from hv.bod); clear hv hb4)
        | (go_at_call 48; have hcall := perhaps_calls gb left (.slice Ab b.length cb) b (high - (k : Int)).toNat wr HBD.out (by omega) (by have := HH.out; omega) ((World.cell?_of_block (a := ⟨gb, 1, none⟩) (HW.out.block gb HGB.out)).trans HL.out) (by have := HLEN.out; omega) (by have := HLEFT.out; omega); rw [HJ.out, HHK.out] at hcall; (with_reducible refine hcall.mono ?_); clear hcall; rintro e w7 ⟨he, hb7⟩; have n1_ := aK (below_step HW.out hb7); clear HW; have HW := n1_; clear n1_; (try (have n1_ := aK (HBD.out.below hb7); clear HBD; have HBD := n1_; clear n1_)); (try (have n1_ := aK (HBS.out.below hb7); clear HBS; have HBS := n1_; clear n1_)); (try (have n1_ := aK (HO.out.below hb7); clear HO; have HO := n1_; clear n1_)); (try (have n1_ := aK (H6.out.below hb7); clear H6; have H6 := n1_; clear n1_)); (try (have n1_ := aK (H7.out.below hb7); clear H7; have H7 := n1_; clear n1_)); obtain ⟨v7, he1, hv7⟩ := he; subst he1; obtain ⟨A7, c7, hv7e, _⟩ := hv7.bod.reads; subst hv7e; have H7 := aK (show Bod w7 (.slice A7 o7.length c7) o7 from hv7.bod); clear hv7; clear hb7)
        | ((with_reducible refine gate_builtin (b := .append) (xs := #[.tmp 33, .tmp 40]) rfl ?_); at_builtin; refine append_event w.heap.size rfl (.tmp 33) (.tmp 40) 95 42 (.slice none 0 0) 1 24 rfl Tryd.underlying95 (by kernel_rfl) rfl (by decide) (by decide) (.slice Ar k cr) k (List.replicate k (.slice Ab b.length cb)) [.slice A7 o7.length c7] rfl rfl rfl (by simp [Value.oneCell']) HO.out.own HW.out.size (by omega) ?_; intro v1 w5 hown hat; obtain ⟨Ax, cx, hvx⟩ := own_slice hown; subst hvx; have n0_ := grow_row HW.out.size HO.out.own HBS.out H7.out HW.out (Nat.le_refl _) hat; skip; have n1_ := aK (show RB w5 w.heap.size (.slice Ax (k + 1) cx) (k + 1) (List.replicate k (.slice Ab b.length cb) ++ [.slice A7 o7.length c7]) from ⟨hown⟩); have n2_ := aK n0_.1; have n3_ := aK n0_.2; clear HO HBS HW hown hat n0_; have HO := n1_; have HBS := n2_; have HW := n3_; clear n1_ n2_ n3_)
        | (go_at_call 47; obtain ⟨Aq, cq, hu⟩ := own_slice HO.out.own; have hcall := row_lit w.heap.size gb left 4 Ax cx (List.replicate k (.slice Ab b.length cb) ++ [.slice A7 o7.length c7]) (List.replicate k b ++ [o7]) w5 (k + 1) (by simp) HO.out.own HBS.out HW.out.size HGB.out ((World.cell?_of_block (a := ⟨gb, 1, none⟩) (HW.out.block gb HGB.out)).trans HL.out) HFB.out (by have := HLOW.out; omega); rw [HRJ.out] at hcall; (with_reducible refine hcall.mono ?_); clear hcall; rintro e w8 ⟨he, hb8⟩; have n1_ := aK (HW.out.trans (hb8.mono (Nat.le_refl _))); clear HW; have HW := n1_; clear n1_; have he2 : e = .panicked tooMuch := he; subst he2; clear hb8))
       exact ⟨rfl, show LaidE w.heap.size _ (countL left b k high) (.panicked tooMuch) from by rw [countL, HTL.out]; show LaidE w.heap.size _ (rowL left 4 _) _; rw [HRJ.out]; exact rfl, HW.out⟩
      | some o =>
       have HRJ := aK hr
       clear hr
       go_wp2_with (first
        | (go_at_call 41; refine (op_lit 6 _).mono ?_; rintro e w6 ⟨v4, rfl, hv, hb4⟩; obtain ⟨A6, c6, hv4, _⟩ := hv.bod.reads; subst hv4; have n1_ := aK (below_step HW.out hb4); clear HW; have HW := n1_; clear n1_; (try (have n1_ := aK (HBD.out.below hb4); clear HBD; have HBD := n1_; clear n1_)); (try (have n1_ := aK (HBS.out.below hb4); clear HBS; have HBS := n1_; clear n1_)); (try (have n1_ := aK (HO.out.below hb4); clear HO; have HO := n1_; clear n1_)); (try (have n1_ := aK (H6.out.below hb4); clear H6; have H6 := n1_; clear n1_)); (try (have n1_ := aK (H7.out.below hb4); clear H7; have H7 := n1_; clear n1_)); have H6 := aK (show Bod w6 (.slice A6 1 c6) [opN 6] from hv.bod); clear hv hb4)
        | (go_at_call 48; have hcall := perhaps_calls gb left (.slice Ab b.length cb) b (high - (k : Int)).toNat wr HBD.out (by omega) (by have := HH.out; omega) ((World.cell?_of_block (a := ⟨gb, 1, none⟩) (HW.out.block gb HGB.out)).trans HL.out) (by have := HLEN.out; omega) (by have := HLEFT.out; omega); rw [HJ.out, HHK.out] at hcall; (with_reducible refine hcall.mono ?_); clear hcall; rintro e w7 ⟨he, hb7⟩; have n1_ := aK (below_step HW.out hb7); clear HW; have HW := n1_; clear n1_; (try (have n1_ := aK (HBD.out.below hb7); clear HBD; have HBD := n1_; clear n1_)); (try (have n1_ := aK (HBS.out.below hb7); clear HBS; have HBS := n1_; clear n1_)); (try (have n1_ := aK (HO.out.below hb7); clear HO; have HO := n1_; clear n1_)); (try (have n1_ := aK (H6.out.below hb7); clear H6; have H6 := n1_; clear n1_)); (try (have n1_ := aK (H7.out.below hb7); clear H7; have H7 := n1_; clear n1_)); obtain ⟨v7, he1, hv7⟩ := he; subst he1; obtain ⟨A7, c7, hv7e, _⟩ := hv7.bod.reads; subst hv7e; have H7 := aK (show Bod w7 (.slice A7 o7.length c7) o7 from hv7.bod); clear hv7; clear hb7)
        | ((with_reducible refine gate_builtin (b := .append) (xs := #[.tmp 33, .tmp 40]) rfl ?_); at_builtin; refine append_event w.heap.size rfl (.tmp 33) (.tmp 40) 95 42 (.slice none 0 0) 1 24 rfl Tryd.underlying95 (by kernel_rfl) rfl (by decide) (by decide) (.slice Ar k cr) k (List.replicate k (.slice Ab b.length cb)) [.slice A7 o7.length c7] rfl rfl rfl (by simp [Value.oneCell']) HO.out.own HW.out.size (by omega) ?_; intro v1 w5 hown hat; obtain ⟨Ax, cx, hvx⟩ := own_slice hown; subst hvx; have n0_ := grow_row HW.out.size HO.out.own HBS.out H7.out HW.out (Nat.le_refl _) hat; skip; have n1_ := aK (show RB w5 w.heap.size (.slice Ax (k + 1) cx) (k + 1) (List.replicate k (.slice Ab b.length cb) ++ [.slice A7 o7.length c7]) from ⟨hown⟩); have n2_ := aK n0_.1; have n3_ := aK n0_.2; clear HO HBS HW hown hat n0_; have HO := n1_; have HBS := n2_; have HW := n3_; clear n1_ n2_ n3_)
        | (go_at_call 47; obtain ⟨Aq, cq, hu⟩ := own_slice HO.out.own; have hcall := row_lit w.heap.size gb left 4 Ax cx (List.replicate k (.slice Ab b.length cb) ++ [.slice A7 o7.length c7]) (List.replicate k b ++ [o7]) w5 (k + 1) (by simp) HO.out.own HBS.out HW.out.size HGB.out ((World.cell?_of_block (a := ⟨gb, 1, none⟩) (HW.out.block gb HGB.out)).trans HL.out) HFB.out (by have := HLOW.out; omega); rw [HRJ.out] at hcall; (with_reducible refine hcall.mono ?_); clear hcall; rintro e w8 ⟨he, hb8⟩; have n1_ := aK (HW.out.trans (hb8.mono (Nat.le_refl _))); clear HW; have HW := n1_; clear n1_; obtain ⟨v8, he1, hv8⟩ := he; subst he1; have HV8 := aK hv8; clear hv8; clear hb8))
       go_ret
       exact ⟨by rw [countL, HTL.out]; show LaidE w.heap.size _ (rowL left 4 _) _; rw [HRJ.out]; exact ⟨_, rfl, HV8.out⟩, HW.out⟩
    ·have b5 : decide (high > (k : Int)) = false := decide_eq_false c2
     have b5n : decide ((k : Int) < high) = false := decide_eq_false c2
     have HTL := aK (show tailL left b k high = some [] by rw [tailL, if_neg c1, if_neg c2])
     have HFB := aK (show (List.replicate k b ++ []).flatten.length ≤ 1073741824 by have h1 := Nat.mul_le_mul HLOW.out HLEN.out; rw [List.append_nil, reps_len]; omega)
     have hb2 := HBS.out
     rw [← List.append_nil (List.replicate k b)] at hb2
     clear HBS
     have HBS := aK hb2
     clear hb2
     cases hr : rowL left 4 (List.replicate k b ++ []) with
     | none =>
      have HRJ := aK hr
      clear hr
      go_wp2_with (first
       | (go_at_call 47; obtain ⟨Aq, cq, hu⟩ := own_slice HO.out.own; have hcall := row_lit w.heap.size gb left 4 Ar cr (List.replicate k (.slice Ab b.length cb)) (List.replicate k b ++ []) wr k (by simp) HO.out.own HBS.out HW.out.size HGB.out ((World.cell?_of_block (a := ⟨gb, 1, none⟩) (HW.out.block gb HGB.out)).trans HL.out) HFB.out (by have := HLOW.out; omega); rw [HRJ.out] at hcall; (with_reducible refine hcall.mono ?_); clear hcall; rintro e w8 ⟨he, hb8⟩; have n1_ := aK (HW.out.trans (hb8.mono (Nat.le_refl _))); clear HW; have HW := n1_; clear n1_; have he2 : e = .panicked tooMuch := he; subst he2; clear hb8))
      exact ⟨rfl, show LaidE w.heap.size _ (countL left b k high) (.panicked tooMuch) from by rw [countL, HTL.out]; show LaidE w.heap.size _ (rowL left 4 _) _; rw [HRJ.out]; exact rfl, HW.out⟩
     | some o =>
      have HRJ := aK hr
      clear hr
      go_wp2_with (first
       | (go_at_call 47; obtain ⟨Aq, cq, hu⟩ := own_slice HO.out.own; have hcall := row_lit w.heap.size gb left 4 Ar cr (List.replicate k (.slice Ab b.length cb)) (List.replicate k b ++ []) wr k (by simp) HO.out.own HBS.out HW.out.size HGB.out ((World.cell?_of_block (a := ⟨gb, 1, none⟩) (HW.out.block gb HGB.out)).trans HL.out) HFB.out (by have := HLOW.out; omega); rw [HRJ.out] at hcall; (with_reducible refine hcall.mono ?_); clear hcall; rintro e w8 ⟨he, hb8⟩; have n1_ := aK (HW.out.trans (hb8.mono (Nat.le_refl _))); clear HW; have HW := n1_; clear n1_; obtain ⟨v8, he1, hv8⟩ := he; subst he1; have HV8 := aK hv8; clear hv8; clear hb8))
      go_ret
      exact ⟨by rw [countL, HTL.out]; show LaidE w.heap.size _ (rowL left 4 _) _; rw [HRJ.out]; exact ⟨_, rfl, HV8.out⟩, HW.out⟩
end
end Go.Proofs.YtihiicjnjhideaaDoor.Build
end
section
namespace Go.Proofs.YtihiicjnjhideaaDoorW.PrintWords
open Go.RowKit Go.MapKept
section
variable {P : Program} {ops : Array Oper} {o : Oper} {a : Act} {Q : Exit → Act → World → Prop} {Kc : Act → World → Prop}
/-- One operation that gives a value, in a region that draws. -/
theorem rstep_value {w w' : World} {v : Value} (hw : Region.wanted o (yielded ops a.tmps) = true) (hr : (execOp a.eval o).run P w = .ok (.value v) w') (h : Kc (a.put o.dst v) w') :
  if Region.wanted o (yielded ops a.tmps) = true then Oper.wp P o a w Kc Q else Kc (a.put o.dst undef) w := by
 rw [if_pos hw]
 unfold Oper.wp
 rw [hr]
 exact h
end
section
variable {P : Program} {ops : Array Oper} {rest : List Oper} {o : Oper} {a : Act} {Q : Exit → Act → World → Prop}
/-- One operation that gives nothing. -/
theorem wpList_mute {w w' : World} (hg : o.guard = none) (hr : (execOp a.eval o).run P w = .ok .skip w') (h : wpList P ops Q rest (a.put o.dst undef) w') : wpList P ops Q (o :: rest) a w := by
 refine wpList_plain hg fun K hK => ?_
 unfold Oper.wp
 rw [hr]
 exact hK _ _ h
end
end Go.Proofs.YtihiicjnjhideaaDoorW.PrintWords
end
section
namespace Go.Proofs.YtihiicjnjhideaaDoorW.PrintWords
open Go.RowKit
section
variable {P : Program} {ops : Array Oper} {o : Oper} {a : Act} {Q : Exit → Act → World → Prop} {Kc : Act → World → Prop}
theorem rstep_store {W : World} (hw : Region.wanted o (yielded ops a.tmps) = true) (t : TypeId) (p x : Operand) (ho : o.op = .store t p x) {g off : Nat} {u : Value} {e : TypeId} {cs seg : List Value} (hp : a.eval p = .pointer (some ⟨g, off, none⟩)) (hx : a.eval x = u)
  (hb : RowAt W g e cs) (hu : u.cells.toList = seg) (hi : (P.info? t).map (·.size) = some seg.length) (hfit : off + seg.length ≤ cs.length) (hone : ∀ q ∈ seg, q.oneCell' = true)
  (h : ∀ w1, RowAt w1 g e (cs.take off ++ seg ++ cs.drop (off + seg.length)) → W.grownBy w1 (some g) → Kc (a.put o.dst undef) w1) :
  if Region.wanted o (yielded ops a.tmps) = true then Oper.wp P o a W Kc Q else Kc (a.put o.dst undef) W := by
 obtain ⟨cur, hh, rfl⟩ := hb
 have hrun := run_store_run (P := P) (w := W) (g := g) (o := off) (e := e) (cur := cur) t u seg hh hu hi (by simpa using hfit) hone
 obtain ⟨cur', h1, h2, h3⟩ := setCells_row seg off W cur hh (by simpa using hfit)
 obtain ⟨s1, s2, s3, s4⟩ := setCells_same g seg off W
 rw [if_pos hw]
 unfold Oper.wp execOp
 simp only [ho, hp, hx]
 simp only [Sem.run_bind, hrun, Result.andThen_ok]
 have := h _ ⟨cur', h1, h3⟩ ⟨s1, s2, s3, by rw [s4]; exact Nat.le_refl _, fun i _ hne => setCells_far _ off i (fun e => hne (by rw [e]))⟩
 simpa [Oper.upon] using this
end
end Go.Proofs.YtihiicjnjhideaaDoorW.PrintWords
end
section
namespace Go.Proofs.YtihiicjnjhideaaDoor.Build
open Go.RowKit Go.Proofs.YtihiicjnjhideaaDoorW.PrintWords Go.Proofs.YtihiicjnjhideaaDoor.PAll Go.Proofs.YtihiicjnjhideaaDoor.Core
set_option linter.unusedVariables false
set_option linter.unusedSimpArgs false
abbrev kEN : Kd EN := k51
/-- A node's cells at an address. -/
structure NodeAt (w : World) (p : Addr) (x : EN) : Prop where
 c0 : w.cell? p = some (.int .i64 x.f0)
 c1 : w.cell? ⟨p.block, p.off + 1, none⟩ = some (.int .i64 x.f1)
 c2 : w.cell? ⟨p.block, p.off + 2, none⟩ = some (.string x.f2)
 c3 : w.cell? ⟨p.block, p.off + 3, none⟩ = some (.bool x.f3)
 c4 : w.cell? ⟨p.block, p.off + 4, none⟩ = some (.int .u64 x.f4.f0)
 c5 : w.cell? ⟨p.block, p.off + 5, none⟩ = some (.int .u64 x.f4.f1)
 c6 : w.cell? ⟨p.block, p.off + 6, none⟩ = some (.int .u64 x.f4.f2)
 c7 : w.cell? ⟨p.block, p.off + 7, none⟩ = some (.int .u64 x.f4.f3)
 c8 : w.cell? ⟨p.block, p.off + 8, none⟩ = some (.int .i64 x.f5)
 c9 : w.cell? ⟨p.block, p.off + 9, none⟩ = some (.int .i64 x.f6)
theorem node_at {w : World} {ad : Addr} {n i : Nat} {e : List EN} {x : EN} (h : Kd.C kEN w (some ad) n e) (hx : e[i]? = some x) : NodeAt w (ad.add (i * 10)) x := by
 have hi : i < n := by have := (List.getElem?_eq_some_iff.1 hx).1; rw [h.1] at this; exact this
 obtain ⟨ad', e1, h0, h1, h2, h3, h4, h5, h6, h7, h8, h9⟩ := at_T51 h (i : Int) (by omega) (by omega)
 cases e1
 have hr : rd_T51 e (i : Int) = x := by
  show e.getD (i : Int).toNat _ = x
  rw [Int.toNat_natCast, List.getD_eq_getElem?_getD, hx]
  rfl
 rw [hr] at h0 h1 h2 h3 h4 h5 h6 h7 h8 h9
 rw [Int.toNat_natCast] at h0 h1 h2 h3 h4 h5 h6 h7 h8 h9
 exact ⟨h0, h1, h2, h3, h4, h5, h6, h7, h8, h9⟩
theorem NodeAt.below {w w' : World} {p : Addr} {x : EN} (h : NodeAt w p x) (hb : Below w.heap.size w w') : NodeAt w' p x := by
 have hl := World.block_lt_of_cell? w _ h.c0
 have hk : ∀ k, w'.cell? ⟨p.block, k, none⟩ = w.cell? ⟨p.block, k, none⟩ := fun k => World.cell?_of_block (a := ⟨p.block, k, none⟩) (hb.block _ hl)
 exact ⟨(World.cell?_of_block (a := p) (hb.block _ hl)).trans h.c0, (hk _).trans h.c1, (hk _).trans h.c2, (hk _).trans h.c3, (hk _).trans h.c4, (hk _).trans h.c5, (hk _).trans h.c6, (hk _).trans h.c7, (hk _).trans h.c8, (hk _).trans h.c9⟩
abbrev numC (S : List Nat) : List Value := S.map fun x : Nat => Value.int .i64 (x : Int)
/-- The k-th part of a row, as the code cuts it. -/
def partV (ad : Addr) (c : Nat) (ps : List T) (k : Nat) : Value := .slice (some (ad.add (lenF (ps.take k) * 10))) (lenF (ps.take (k + 1)) - lenF (ps.take k)) (c - lenF (ps.take k))
def partVs (ad : Addr) (c : Nat) (ps : List T) : List Value := (List.range ps.length).map (partV ad c ps)
theorem partVs_len (ad : Addr) (c : Nat) (ps : List T) : (partVs ad c ps).length = ps.length := by simp [partVs]
theorem partVs_get {ad : Addr} {c : Nat} {ps : List T} {k : Nat} (h : k < ps.length) : (partVs ad c ps)[k]? = some (partV ad c ps k) := by
 unfold partVs
 rw [List.getElem?_map, List.getElem?_range h]
 rfl
theorem idx_int (g n m i : Nat) (hi : i < n) (W : World) : (Instr.indexAt 91 (.slice (some ⟨g, 0, none⟩) n m) (.int .i64 (i : Int))).run Tryd.prog W = .ok (.pointer (some ⟨g, i, none⟩)) W := by
 have := run_indexAt_own (P := Tryd.prog) (t := 91) (size := 1) Tryd.underlying91 (fun W => by kernel_rfl) g n m i hi W
 rwa [Nat.mul_one] at this
theorem idx_ex (g n m i : Nat) (hi : i < n) (W : World) : (Instr.indexAt 97 (.slice (some ⟨g, 0, none⟩) n m) (.int .i64 (i : Int))).run Tryd.prog W = .ok (.pointer (some ⟨g, i, none⟩)) W := by
 have := run_indexAt_own (P := Tryd.prog) (t := 97) (size := 1) Tryd.underlying97 (fun W => by kernel_rfl) g n m i hi W
 rwa [Nat.mul_one] at this
theorem idx_en (ad : Addr) (n m i : Nat) (hi : i < n) (W : World) : (Instr.indexAt 38 (.slice (some ad) n m) (.int .i64 (i : Int))).run Tryd.prog W = .ok (.pointer (some (ad.add (i * 10)))) W := by
 have h1 : (0 : Int) ≤ (i : Int) ∧ (i : Int) < (n : Int) := by omega
 have hs : (sizeOf 51).run Tryd.prog W = .ok 10 W := by kernel_rfl
 simp only [Instr.indexAt, asIntOf, Sem.run_bind, Sem.run_pure, Result.andThen_ok, run_underlying Tryd.underlying38, if_pos h1, hs, Int.toNat_natCast]
theorem put_num (S : List Nat) (i x : Nat) (hi : i < S.length) : (numC S).take i ++ [Value.int .i64 (x : Int)] ++ (numC S).drop (i + [Value.int .i64 (x : Int)].length) = numC (S.set i x) := by
 unfold numC
 rw [List.map_set, List.set_eq_take_append_cons_drop, if_pos (by simpa using hi)]
 simp
theorem put_part {vs : List Value} {z v : Value} {k : Nat} (h : vs[k]? = some v) : (List.replicate (k + 1) z ++ vs.drop (k + 1)).take k ++ [v] ++ (List.replicate (k + 1) z ++ vs.drop (k + 1)).drop (k + [v].length) = List.replicate k z ++ vs.drop k := by
 obtain ⟨hlt, rfl⟩ := List.getElem?_eq_some_iff.1 h
 rw [List.drop_eq_getElem_cons hlt, List.take_append_of_le_length (by simp), List.take_replicate, Nat.min_eq_left (by omega), List.append_assoc]
 congr 1
 rw [show k + [vs[k]].length = (List.replicate (k + 1) z).length by simp, List.drop_left]
 rfl
end Go.Proofs.YtihiicjnjhideaaDoor.Build
end
