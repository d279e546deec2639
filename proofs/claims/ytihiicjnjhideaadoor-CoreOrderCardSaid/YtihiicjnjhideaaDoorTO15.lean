/- Parts of the proof of coreOrder: PAllx6, BuildHead. No condition beyond each lemma's own. -/
import Derived.Test.YtihiicjnjhideaaDoorTO5
import Derived.Test.YtihiicjnjhideaaDoorTO6
import Derived.Test.YtihiicjnjhideaaDoorTO14
section
namespace Go.Proofs.YtihiicjnjhideaaDoor.PAll
open Go.RowKit Go.Proofs.YtihiicjnjhideaaDoorW.PrintWords Go.Proofs.YtihiicjnjhideaaDoorW.PrintLast Go.Proofs.YtihiicjnjhideaaDoorW.PrintMore
attribute [local go_sem] max2_int max_two
set_option linter.unusedVariables false
set_option linter.unusedSimpArgs false
theorem qDoor6_5 {p : Prop} (h : p := by first | rfl | (simp; done) | (simp [*]; done)) : p := h
theorem qDoor6_4 {p : Prop} (h : p := by first | rfl | (simp [errW_none, errW_some] <;> rfl) | (simp [*, errW_none, errW_some] <;> rfl)) : p := h
theorem qDoor6_3 {p : Prop} (h : p := by first | (with_reducible assumption) | assumption) : p := h
theorem qDoor6_2 {p : Prop} (h : p := by (try simp only [List.map_toArray, List.map_cons, List.map_nil]); first | done | rfl | (simp only [List.length_drop, List.length_take]; rfl)) : p := h
theorem qDoor6_1 {p : Prop} (h : p := by (with_reducible repeat (first | refine blk_drewN ?_ _ | refine blk_drew ?_ | refine blk_alloc ?_ _)); exact BK116.out) : p := h
theorem qDoor6_0 {p : Prop} (h : p := by repeat (first | (with_reducible first | exact HB.out | apply below_alloc | apply pw_below_drewN | apply below_drew1 | refine below_set ?_ GE116.out) | exact HB.out)) : p := h
mutual
def script_headed.j0 : Nat → Bool → ByteArray → List ByteArray → List (S51) → Option (Bool)
 | 0, _, _, _, _ => none
 | k + 1, x16, x117000, x117001, x117002 => if x16 = true then (some false) else (script_headed.l0 k x117001 (x117001.length : Int) 0 x117000 x117001 x117002)
def script_headed.l0 : Nat → List ByteArray → Int → Int → ByteArray → List ByteArray → List (S51) → Option (Bool)
 | 0, _, _, _, _, _, _ => none
 | k + 1, x18, x19, x20, x117000, x117001, x117002 => if x20 < x19 then (if 0 ≤ x20 then (if x20 < (x18.length : Int) then ((script_own.f k (rdOf ByteArray.empty x18 x20)).bind fun t119 => (if t119 = true then (if x20 ≤ (x117001.length : Int) then (script_headed.l1 k (rdOf ByteArray.empty x18 x20) x18 x19 x20 (x117001.take (x20 : Int).toNat) ((x117001.take (x20 : Int).toNat).length : Int) 0 x117000 x117001 x117002) else (none)) else (some false))) else (none)) else (none)) else (some true)
def script_headed.l1 : Nat → ByteArray → List ByteArray → Int → Int → List ByteArray → Int → Int → ByteArray → List ByteArray → List (S51) → Option (Bool)
 | 0, _, _, _, _, _, _, _, _, _, _ => none
 | k + 1, x4, x18, x19, x20, x31, x32, x33, x117000, x117001, x117002 => if x33 < x32 then (if 0 ≤ x33 then (if x33 < (x31.length : Int) then (if x4.toList = (rdOf ByteArray.empty x31 x33).toList then (some false) else (script_headed.l1 k x4 x18 x19 x20 x31 x32 (wrap64 (x33 + 1)) x117000 x117001 x117002)) else (none)) else (none)) else (script_headed.l0 k x18 x19 (wrap64 (x20 + 1)) x117000 x117001 x117002)
end
def script_headed.f (k : Nat) (a0_0 : ByteArray) (l0_1 : List ByteArray) (l0_2 : List (S51)) : Option (Bool) := (lexis_Name.f k a0_0).bind fun t117 => (if t117 = true then (script_headed.j0 k (decide ((l0_1.length : Int) > 8)) a0_0 l0_1 l0_2) else (script_headed.j0 k true a0_0 l0_1 l0_2))
theorem script_headed.mono_l : ∀ k, (∀ y0 y1 y2 y3, LeO (script_headed.j0 k y0 y1 y2 y3) (script_headed.j0 (k + 1) y0 y1 y2 y3)) ∧ (∀ y0 y1 y2 y3 y4 y5, LeO (script_headed.l0 k y0 y1 y2 y3 y4 y5) (script_headed.l0 (k + 1) y0 y1 y2 y3 y4 y5)) ∧ (∀ y0 y1 y2 y3 y4 y5 y6 y7 y8 y9, LeO (script_headed.l1 k y0 y1 y2 y3 y4 y5 y6 y7 y8 y9) (script_headed.l1 (k + 1) y0 y1 y2 y3 y4 y5 y6 y7 y8 y9))
 | 0 => ⟨fun _ _ _ _ r h => by simp [script_headed.j0] at h, fun _ _ _ _ _ _ r h => by simp [script_headed.l0] at h, fun _ _ _ _ _ _ _ _ _ _ r h => by simp [script_headed.l1] at h⟩
 | k + 1 => by
  obtain ⟨ih0, ih1, ih2⟩ := script_headed.mono_l k
  refine ⟨?_, ?_, ?_⟩
  ·intro y0 y1 y2 y3
   unfold script_headed.j0
   repeat' first
   | (with_reducible exact ih0 _ _ _ _)
   | (with_reducible exact ih1 _ _ _ _ _ _)
   | (with_reducible exact ih2 _ _ _ _ _ _ _ _ _ _)
   | (with_reducible exact lexis_Name.mono _ _)
   | (with_reducible exact script_own.mono _ _)
   | (with_reducible exact LeO.refl _)
   | (with_reducible exact LeO.none _)
   | (with_reducible refine LeO.ite ?_ ?_)
   | (with_reducible refine LeO.bind ?_ (fun _ => ?_))
   | exact ih0 _ _ _ _
   | exact ih1 _ _ _ _ _ _
   | exact ih2 _ _ _ _ _ _ _ _ _ _
   | exact lexis_Name.mono _ _
   | exact script_own.mono _ _
   | exact LeO.none _
   | refine LeO.ite ?_ ?_
   | refine LeO.bind ?_ (fun _ => ?_)
  ·intro y0 y1 y2 y3 y4 y5
   unfold script_headed.l0
   repeat' first
   | (with_reducible exact ih0 _ _ _ _)
   | (with_reducible exact ih1 _ _ _ _ _ _)
   | (with_reducible exact ih2 _ _ _ _ _ _ _ _ _ _)
   | (with_reducible exact lexis_Name.mono _ _)
   | (with_reducible exact script_own.mono _ _)
   | (with_reducible exact LeO.refl _)
   | (with_reducible exact LeO.none _)
   | (with_reducible refine LeO.ite ?_ ?_)
   | (with_reducible refine LeO.bind ?_ (fun _ => ?_))
   | exact ih0 _ _ _ _
   | exact ih1 _ _ _ _ _ _
   | exact ih2 _ _ _ _ _ _ _ _ _ _
   | exact lexis_Name.mono _ _
   | exact script_own.mono _ _
   | exact LeO.none _
   | refine LeO.ite ?_ ?_
   | refine LeO.bind ?_ (fun _ => ?_)
  ·intro y0 y1 y2 y3 y4 y5 y6 y7 y8 y9
   unfold script_headed.l1
   repeat' first
   | (with_reducible exact ih0 _ _ _ _)
   | (with_reducible exact ih1 _ _ _ _ _ _)
   | (with_reducible exact ih2 _ _ _ _ _ _ _ _ _ _)
   | (with_reducible exact lexis_Name.mono _ _)
   | (with_reducible exact script_own.mono _ _)
   | (with_reducible exact LeO.refl _)
   | (with_reducible exact LeO.none _)
   | (with_reducible refine LeO.ite ?_ ?_)
   | (with_reducible refine LeO.bind ?_ (fun _ => ?_))
   | exact ih0 _ _ _ _
   | exact ih1 _ _ _ _ _ _
   | exact ih2 _ _ _ _ _ _ _ _ _ _
   | exact lexis_Name.mono _ _
   | exact script_own.mono _ _
   | exact LeO.none _
   | refine LeO.ite ?_ ?_
   | refine LeO.bind ?_ (fun _ => ?_)
theorem script_headed.mono : ∀ a0 a1 a2 k, LeO (script_headed.f k a0 a1 a2) (script_headed.f (k + 1) a0 a1 a2) := by
 intro a0 a1 a2 k
 obtain ⟨ih0, ih1, ih2⟩ := script_headed.mono_l k
 unfold script_headed.f
 repeat' first
   | (with_reducible exact ih0 _ _ _ _)
   | (with_reducible exact ih1 _ _ _ _ _ _)
   | (with_reducible exact ih2 _ _ _ _ _ _ _ _ _ _)
   | (with_reducible exact lexis_Name.mono _ _)
   | (with_reducible exact script_own.mono _ _)
   | (with_reducible exact LeO.refl _)
   | (with_reducible exact LeO.none _)
   | (with_reducible refine LeO.ite ?_ ?_)
   | (with_reducible refine LeO.bind ?_ (fun _ => ?_))
   | exact ih0 _ _ _ _
   | exact ih1 _ _ _ _ _ _
   | exact ih2 _ _ _ _ _ _ _ _ _ _
   | exact lexis_Name.mono _ _
   | exact script_own.mono _ _
   | exact LeO.none _
   | refine LeO.ite ?_ ?_
   | refine LeO.bind ?_ (fun _ => ?_)
set_option maxHeartbeats 8000000 in
set_option maxRecDepth 100000 in
theorem script_headed.calls (k : Nat) (a0_0 : ByteArray) (A0_1 : Option Addr) (c0_1 : Nat) (l0_1 : List ByteArray) (A0_2 : Option Addr) (c0_2 : Nat) (l0_2 : List (S51)) (r : Bool) (w : World) (hr0_1 : Kd.C Kd.string w A0_1 l0_1.length l0_1) (hc0_1 : l0_1.length ≤ c0_1) (hr0_2 : Kd.C k51 w A0_2 l0_2.length l0_2) (hc0_2 : l0_2.length ≤ c0_2) (h : script_headed.f k a0_0 l0_1 l0_2 = some r) :
  Calls Tryd.prog 27 #[.agg #[.string a0_0, .slice A0_1 l0_1.length c0_1, .slice A0_2 l0_2.length c0_2]] w fun e w' => e = .returned (.bool r) ∧ Below w.heap.size w w' := by
 have hu40 := Tryd.underlying40
 have HR0_1 := aK hr0_1; have HC0_1 := aK hc0_1; clear hr0_1 hc0_1; have HR0_2 := aK hr0_2; have HC0_2 := aK hc0_2; clear hr0_2 hc0_2
 have HB := aK (Below.refl w.heap.size w)
 have H : ((lexis_Name.f k a0_0).bind fun t117 => (if t117 = true then (script_headed.j0 k (decide ((l0_1.length : Int) > 8)) a0_0 l0_1 l0_2) else (script_headed.j0 k true a0_0 l0_1 l0_2))) = some r := h
 clear h; have HC2 := aK H; clear H
 go_enter Tryd.func27, Tryd.ntmps27
 go_upto_region 1 with (first | ((with_reducible refine gate_dst (N := 1) rfl ?_); (try (refine gate_guard (by rfl) ?_; dsimp only)); refine box_event ?hg (N := 1) ?hd (cs := #[.string a0_0, .slice A0_1 l0_1.length c0_1, .slice A0_2 l0_2.length c0_2]) (t := 40) ?hr ?_; (case hd => rfl); (case hg => rfl); (case hr => first | (go_simp; done) | (go_simp; rfl)); intro gb116 hg w3 hbox hb; have z_ := bxk hb hg (by repeat (first | (with_reducible first | exact HB.out | apply below_alloc | apply pw_below_drewN | apply below_drew1) | exact HB.out)); have n0_ := aK z_.1; have n1_ := aK (hbox); have n2_ := aK z_.2; have n3_ := aK z_.2; clear z_; clear HB; have HB := n0_; have BK116 := n1_; have GW116 := n2_; have GE116 := n3_; clear n0_ n1_ n2_ n3_; clear hb hbox hg))
 (try simp only [Act.put, List.setIfInBounds_toArray, List.set_cons_zero, List.set_cons_succ])
 go_cut [16] (fun v16 wc => ∃ (kq : Nat) (x16_1 : Bool), v16 = .bool x16_1 ∧ Aside0 (script_headed.j0 kq x16_1 a0_0 l0_1 l0_2 = some r) ∧ Aside0 (kq ≤ k) ∧ Aside0 (wc.heap[gb116]? = some (.cells #[.string a0_0, (.slice A0_1 l0_1.length c0_1), (.slice A0_2 l0_2.length c0_2)] 40 (0, 0))) ∧ Aside0 (Below w.heap.size w wc))
 case first =>
  have H := HC2.out
  clear HC2
  replace H := Option.bind_eq_some_iff.mp H
  obtain ⟨t117, A40, H⟩ := H
  replace H : (if t117 = true then (script_headed.j0 k (decide ((l0_1.length : Int) > 8)) a0_0 l0_1 l0_2) else (script_headed.j0 k true a0_0 l0_1 l0_2)) = some r := H
  have A4 := aK A40; clear A40
  by_cases c5 : t117 = true
  ·subst c5
   have H1 : (script_headed.j0 k (decide ((l0_1.length : Int) > 8)) a0_0 l0_1 l0_2) = some r := by rw [if_pos rfl] at H; exact H
   clear H
   have H := H1
   clear H1
   have H' := aK H
   clear H
   obtain ⟨hcz6_0, hcz6_1, hcz6_2⟩ := ck3 BK116.out
   obtain ⟨hfz6_0, hfz6_1, hfz6_2⟩ := fk3 BK116.out
   go_wp2_with (first | ((with_reducible refine gate_callee (f := 19) rfl ?_); refine goesL_ (some 9) rfl rfl Tryd.func19 (by kernel_rfl) rfl #[.string a0_0] rfl qDoor6_2 ?_; (with_reducible refine (lexis_Name.calls k a0_0 true _ A4.out).mono ?_); rintro e w' ⟨rfl, ⟨nd, rfl⟩⟩; refine ⟨_, rfl, ?_⟩))
   go_meet
   case rel => exact ⟨_, (decide ((l0_1.length : Int) > 8)), qDoor6_5, H', ⟨by first | omega | exact Nat.le_refl _⟩, ⟨qDoor6_1⟩, ⟨qDoor6_0⟩⟩
  ·replace c5 := Bool.eq_false_iff.mpr c5
   subst c5
   have H1 : (script_headed.j0 k true a0_0 l0_1 l0_2) = some r := by rw [if_neg (show ¬ (false = true) by decide)] at H; exact H
   clear H
   have H := H1
   clear H1
   have H' := aK H
   clear H
   obtain ⟨hcz7_0, hcz7_1, hcz7_2⟩ := ck3 BK116.out
   obtain ⟨hfz7_0, hfz7_1, hfz7_2⟩ := fk3 BK116.out
   go_wp2_with (first | ((with_reducible refine gate_callee (f := 19) rfl ?_); refine goesL_ (some 9) rfl rfl Tryd.func19 (by kernel_rfl) rfl #[.string a0_0] rfl qDoor6_2 ?_; (with_reducible refine (lexis_Name.calls k a0_0 false _ A4.out).mono ?_); rintro e w' ⟨rfl, ⟨nd, rfl⟩⟩; refine ⟨_, rfl, ?_⟩))
   go_meet
   case rel => exact ⟨_, (true), qDoor6_5, H', ⟨by first | omega | exact Nat.le_refl _⟩, ⟨qDoor6_1⟩, ⟨qDoor6_0⟩⟩
 case rest =>
  clear HC2; (try clear c1); (try clear c2); (try clear p2); (try clear c5); (try clear hcz6_0); (try clear hcz6_1); (try clear hcz6_2); (try clear hcz7_0); (try clear hcz7_1); (try clear hcz7_2); (try clear hfz6_0); (try clear hfz6_1); (try clear hfz6_2); (try clear hfz7_0); (try clear hfz7_1); (try clear hfz7_2)
  obtain ⟨kq, x16_1, rfl, HA, HJ1, BK116, HB⟩ := hcut
  cases kq with
  | zero => exact absurd HA.out (by simp [script_headed.j0])
  | succ kj1 =>
   have H := HA.out
   clear HA
   simp only [script_headed.j0] at H
   by_cases c8 : x16_1 = true
   ·subst c8
    have H1 : (some false) = some r := by rw [if_pos rfl] at H; exact H
    clear H
    have H := H1
    clear H1
    obtain rfl := Option.some.inj H
    go_wp2
    go_ret
    exact ⟨qDoor6_4, qDoor6_0⟩
   ·replace c8 := Bool.eq_false_iff.mpr c8
    subst c8
    have H1 : (script_headed.l0 kj1 l0_1 (l0_1.length : Int) 0 a0_0 l0_1 l0_2) = some r := by rw [if_neg (show ¬ (false = true) by decide)] at H; exact H
    clear H
    have H := H1
    clear H1
    have H' := aK H
    clear H
    obtain ⟨hcz9_0, hcz9_1, hcz9_2⟩ := ck3 BK116.out
    obtain ⟨hfz9_0, hfz9_1, hfz9_2⟩ := fk3 BK116.out
    go_wp2
    go_loopg [20] kj1 (fun kq v20 w' => ∃ (x20_2 : Int), v20 = .int .i64 x20_2 ∧ Aside0 (script_headed.l0 kq l0_1 (l0_1.length : Int) x20_2 a0_0 l0_1 l0_2 = some r) ∧ Aside0 (kq ≤ kj1) ∧ Aside0 (w'.heap[gb116]? = some (.cells #[.string a0_0, (.slice A0_1 l0_1.length c0_1), (.slice A0_2 l0_2.length c0_2)] 40 (0, 0))) ∧ Aside0 (Below w.heap.size w w'))
    case atStart => exact ⟨(0), qDoor6_5, H', ⟨Nat.le_refl _⟩, ⟨qDoor6_1⟩, ⟨qDoor6_0⟩⟩
    case round =>
     clear H'; (try clear c1); (try clear c2); (try clear p2); (try clear c5); (try clear c8); (try clear hcz6_0); (try clear hcz6_1); (try clear hcz6_2); (try clear hcz7_0); (try clear hcz7_1); (try clear hcz7_2); (try clear hcz9_0); (try clear hcz9_1); (try clear hcz9_2); (try clear hfz6_0); (try clear hfz6_1); (try clear hfz6_2); (try clear hfz7_0); (try clear hfz7_1); (try clear hfz7_2); (try clear hfz9_0); (try clear hfz9_1); (try clear hfz9_2); (try clear p2)
     obtain ⟨x20_2, rfl, HA, HK2, BK116, HB⟩ := hrel
     cases gk with
     | zero => exact absurd HA.out (by simp [script_headed.l0])
     | succ k2 =>
      have H := HA.out
      clear HA
      simp only [script_headed.l0] at H
      by_cases c10 : x20_2 < (l0_1.length : Int)
      ·rw [if_pos c10] at H
       have c10b0 : decide (x20_2 < (l0_1.length : Int)) = true := decide_eq_true c10
       clear c10
       by_cases c11 : 0 ≤ x20_2
       ·rw [if_pos c11] at H
        have c11b0 : decide (0 ≤ x20_2) = true := decide_eq_true c11
        clear c11
        by_cases c12 : x20_2 < (l0_1.length : Int)
        ·rw [if_pos c12] at H
         have c12b0 : decide (x20_2 < (l0_1.length : Int)) = true := decide_eq_true c12
         clear c12
         replace H := Option.bind_eq_some_iff.mp H
         obtain ⟨t119, A130, H⟩ := H
         replace H : (if t119 = true then (if x20_2 ≤ (l0_1.length : Int) then (script_headed.l1 k2 (rdOf ByteArray.empty l0_1 x20_2) l0_1 (l0_1.length : Int) x20_2 (l0_1.take (x20_2 : Int).toNat) ((l0_1.take (x20_2 : Int).toNat).length : Int) 0 a0_0 l0_1 l0_2) else (none)) else (some false)) = some r := H
         have A13 := aK A130; clear A130
         by_cases c14 : t119 = true
         ·subst c14
          have H1 : (if x20_2 ≤ (l0_1.length : Int) then (script_headed.l1 k2 (rdOf ByteArray.empty l0_1 x20_2) l0_1 (l0_1.length : Int) x20_2 (l0_1.take (x20_2 : Int).toNat) ((l0_1.take (x20_2 : Int).toNat).length : Int) 0 a0_0 l0_1 l0_2) else (none)) = some r := by rw [if_pos rfl] at H; exact H
          clear H
          have H := H1
          clear H1
          have c15b0 := eq_true (of_decide_eq_true qDoor6_3 : 0 ≤ x20_2)
          by_cases c16 : x20_2 ≤ (l0_1.length : Int)
          ·rw [if_pos c16] at H
           have c16b0 := eq_true c16
           have c16b1 : decide (x20_2 ≤ (l0_1.length : Int)) = true := decide_eq_true c16
           clear c16
           have H' := aK H
           clear H
           have p118 : 0 ≤ (x20_2 : Int) := of_decide_eq_true qDoor6_3
           have q118 : x20_2 < (l0_1.length : Int) := of_decide_eq_true qDoor6_3
           have zq118 := aK q118
           obtain ⟨ad118, e118, hx118_0⟩ := Kd.at_string HR0_1.out x20_2 p118 q118
           cases e118
           replace hx118_0 := (HB.out.cell (World.block_lt_of_cell? w _ hx118_0)).trans hx118_0
           replace p118 := eq_true p118
           replace q118 := eq_true q118
           go_wp2_with (first | ((with_reducible refine gate_callee (f := 26) rfl ?_); refine goesL_ (some 26) rfl rfl Tryd.func26 (by kernel_rfl) rfl #[.string (rdOf ByteArray.empty l0_1 x20_2)] rfl qDoor6_2 ?_; (with_reducible refine (script_own.calls k2 (rdOf ByteArray.empty l0_1 x20_2) true _ A13.out).mono ?_); rintro e w' ⟨rfl, ⟨nd, rfl⟩⟩; refine ⟨_, rfl, ?_⟩; obtain ⟨hcz17_0, hcz17_1, hcz17_2⟩ := ck3 BK116.out; obtain ⟨hfz17_0, hfz17_1, hfz17_2⟩ := fk3 BK116.out; obtain ⟨i018, hi018, _, hsz18, _⟩ := info_parts info9; obtain ⟨hcut18, hA18, hC18⟩ := print_take_of (P := Tryd.prog) Value.string (⟨#[]⟩ : ByteArray) 36 9 .i64 Tryd.underlying36 hi018 hsz18 (some ad118) c0_1 l0_1 x20_2 (of_decide_eq_true qDoor6_3) (of_decide_eq_true qDoor6_3) HC0_1.out; have HR120 := aK (Kd.C_of_reads (h1 := fun _ => rfl) (hA18 _ (Kd.reads_of_C HR0_1.out))); have HC120 := aK hC18; clear hA18 hC18 hi018 hsz18))
           go_loopg [33] k2 (fun kq v33 w' => ∃ (x33_3 : Int), v33 = .int .i64 x33_3 ∧ Aside0 (script_headed.l1 kq (rdOf ByteArray.empty l0_1 x20_2) l0_1 (l0_1.length : Int) x20_2 (l0_1.take (x20_2 : Int).toNat) ((l0_1.take (x20_2 : Int).toNat).length : Int) x33_3 a0_0 l0_1 l0_2 = some r) ∧ Aside0 (kq ≤ k2) ∧ Aside0 (w'.heap[gb116]? = some (.cells #[.string a0_0, (.slice (some ad118) l0_1.length c0_1), (.slice A0_2 l0_2.length c0_2)] 40 (0, 0))) ∧ Aside0 (Below w.heap.size w w'))
           case atStart => exact ⟨(0), qDoor6_5, H', ⟨Nat.le_refl _⟩, ⟨qDoor6_1⟩, ⟨qDoor6_0⟩⟩
           case round =>
            clear H'; (try clear c1); (try clear p1); (try clear q1); (try clear hx1); (try clear c2); (try clear p2); (try clear c5); (try clear c8); (try clear c10); (try clear c10b0); (try clear c11); (try clear c11b0); (try clear p11); (try clear q11); (try clear hx11); (try clear c12); (try clear c12b0); (try clear c14); (try clear c15); (try clear c15b0); (try clear c16); (try clear c16b0); (try clear c16b1); (try clear hcz17_0); (try clear hcz17_1); (try clear hcz17_2); (try clear hcz6_0); (try clear hcz6_1); (try clear hcz6_2); (try clear hcz7_0); (try clear hcz7_1); (try clear hcz7_2); (try clear hcz9_0); (try clear hcz9_1); (try clear hcz9_2); (try clear hfz17_0); (try clear hfz17_1); (try clear hfz17_2); (try clear hfz6_0); (try clear hfz6_1); (try clear hfz6_2); (try clear hfz7_0); (try clear hfz7_1); (try clear hfz7_2); (try clear hfz9_0); (try clear hfz9_1); (try clear hfz9_2); (try clear hx118_0); (try clear p118); (try clear p2); (try clear q118)
            obtain ⟨x33_3, rfl, HA, HK3, BK116, HB⟩ := hrel
            cases gk with
            | zero => exact absurd HA.out (by simp [script_headed.l1])
            | succ k3 =>
             have H := HA.out
             clear HA
             simp only [script_headed.l1] at H
             by_cases c19 : x33_3 < ((l0_1.take (x20_2 : Int).toNat).length : Int)
             ·rw [if_pos c19] at H
              have c19b0 : decide (x33_3 < ((l0_1.take (x20_2 : Int).toNat).length : Int)) = true := decide_eq_true c19
              have c19b9 : decide (x33_3 < max x20_2 0) = true := by have h8 := zq118.out; have h9 := of_decide_eq_true c19b0; rw [List.length_take] at h9; exact decide_eq_true (by omega)
              clear c19
              by_cases c20 : 0 ≤ x33_3
              ·rw [if_pos c20] at H
               have c20b0 : decide (0 ≤ x33_3) = true := decide_eq_true c20
               clear c20
               by_cases c21 : x33_3 < ((l0_1.take (x20_2 : Int).toNat).length : Int)
               ·rw [if_pos c21] at H
                have c21b0 : decide (x33_3 < ((l0_1.take (x20_2 : Int).toNat).length : Int)) = true := decide_eq_true c21
                have c21b9 : decide (x33_3 < max x20_2 0) = true := by have h8 := zq118.out; have h9 := of_decide_eq_true c21b0; rw [List.length_take] at h9; exact decide_eq_true (by omega)
                clear c21
                by_cases c22 : (rdOf ByteArray.empty l0_1 x20_2).toList = (rdOf ByteArray.empty (l0_1.take (x20_2 : Int).toNat) x33_3).toList
                ·rw [if_pos c22] at H
                 have c22b0 : ((rdOf ByteArray.empty l0_1 x20_2).toList == (rdOf ByteArray.empty (l0_1.take (x20_2 : Int).toNat) x33_3).toList) = true := beq_iff_eq.mpr c22
                 have c22b1 : ((rdOf ByteArray.empty l0_1 x20_2).toList != (rdOf ByteArray.empty (l0_1.take (x20_2 : Int).toNat) x33_3).toList) = false := bne_eq_false_iff_eq.mpr c22
                 clear c22
                 obtain rfl := Option.some.inj H
                 have p121 : 0 ≤ (x33_3 : Int) := of_decide_eq_true qDoor6_3
                 have q121 : x33_3 < ((l0_1.take (x20_2 : Int).toNat).length : Int) := of_decide_eq_true qDoor6_3
                 obtain ⟨ad121, e121, hx121_0⟩ := Kd.at_string HR120.out x33_3 p121 q121
                 obtain rfl : ad118 = ad121 := (by injection e121)
                 replace hx121_0 := (HB.out.cell (World.block_lt_of_cell? w _ hx121_0)).trans hx121_0
                 replace p121 := eq_true p121
                 replace q121 := eq_true q121
                 have q121b := eq_true (of_decide_eq_true c21b9)
                 have q121c : (max x20_2 0 ≤ x33_3) = False := eq_false (by have := of_decide_eq_true c21b9; omega)
                 go_wp2
                 go_ret
                 exact ⟨qDoor6_4, qDoor6_0⟩
                ·rw [if_neg c22] at H
                 have c22b0 : ((rdOf ByteArray.empty l0_1 x20_2).toList == (rdOf ByteArray.empty (l0_1.take (x20_2 : Int).toNat) x33_3).toList) = false := beq_eq_false_iff_ne.mpr c22
                 have c22b1 : ((rdOf ByteArray.empty l0_1 x20_2).toList != (rdOf ByteArray.empty (l0_1.take (x20_2 : Int).toNat) x33_3).toList) = true := bne_iff_ne.mpr c22
                 have H' := aK H
                 clear H
                 have p121 : 0 ≤ (x33_3 : Int) := of_decide_eq_true qDoor6_3
                 have q121 : x33_3 < ((l0_1.take (x20_2 : Int).toNat).length : Int) := of_decide_eq_true qDoor6_3
                 obtain ⟨ad121, e121, hx121_0⟩ := Kd.at_string HR120.out x33_3 p121 q121
                 obtain rfl : ad118 = ad121 := (by injection e121)
                 replace hx121_0 := (HB.out.cell (World.block_lt_of_cell? w _ hx121_0)).trans hx121_0
                 replace p121 := eq_true p121
                 replace q121 := eq_true q121
                 have q121b := eq_true (of_decide_eq_true c21b9)
                 have q121c : (max x20_2 0 ≤ x33_3) = False := eq_false (by have := of_decide_eq_true c21b9; omega)
                 go_wp2
                 go_roundg k3
                 case measure => have := HJ1.out; have := HK2.out; have := HK3.out; omega
                 case rel => exact ⟨(wrap64 (x33_3 + 1)), qDoor6_5, H', ⟨by have := HJ1.out; have := HK2.out; have := HK3.out; omega⟩, ⟨qDoor6_1⟩, ⟨qDoor6_0⟩⟩
               ·rw [if_neg c21] at H
                exact absurd H (by simp)
              ·rw [if_neg c20] at H
               exact absurd H (by simp)
             ·rw [if_neg c19] at H
              have c19b0 : decide (x33_3 < ((l0_1.take (x20_2 : Int).toNat).length : Int)) = false := decide_eq_false c19
              have c19b9 : decide (x33_3 < max x20_2 0) = false := by have h8 := zq118.out; have h9 := of_decide_eq_false c19b0; rw [List.length_take] at h9; exact decide_eq_false (by omega)
              clear c19
              have H' := aK H
              clear H
              go_wp2
              go_roundg k3
              case measure => have := HJ1.out; have := HK2.out; have := HK3.out; omega
              case rel => exact ⟨(wrap64 (x20_2 + 1)), qDoor6_5, H', ⟨by have := HJ1.out; have := HK2.out; have := HK3.out; omega⟩, ⟨qDoor6_1⟩, ⟨qDoor6_0⟩⟩
          ·rw [if_neg c16] at H
           exact absurd H (by simp)
         ·replace c14 := Bool.eq_false_iff.mpr c14
          subst c14
          have H1 : (some false) = some r := by rw [if_neg (show ¬ (false = true) by decide)] at H; exact H
          clear H
          have H := H1
          clear H1
          obtain rfl := Option.some.inj H
          have p118 : 0 ≤ (x20_2 : Int) := of_decide_eq_true qDoor6_3
          have q118 : x20_2 < (l0_1.length : Int) := of_decide_eq_true qDoor6_3
          have zq118 := aK q118
          obtain ⟨ad118, e118, hx118_0⟩ := Kd.at_string HR0_1.out x20_2 p118 q118
          cases e118
          replace hx118_0 := (HB.out.cell (World.block_lt_of_cell? w _ hx118_0)).trans hx118_0
          replace p118 := eq_true p118
          replace q118 := eq_true q118
          go_wp2_with (first | ((with_reducible refine gate_callee (f := 26) rfl ?_); refine goesL_ (some 26) rfl rfl Tryd.func26 (by kernel_rfl) rfl #[.string (rdOf ByteArray.empty l0_1 x20_2)] rfl qDoor6_2 ?_; (with_reducible refine (script_own.calls k2 (rdOf ByteArray.empty l0_1 x20_2) false _ A13.out).mono ?_); rintro e w' ⟨rfl, ⟨nd, rfl⟩⟩; refine ⟨_, rfl, ?_⟩))
          go_ret
          exact ⟨qDoor6_4, qDoor6_0⟩
        ·rw [if_neg c12] at H
         exact absurd H (by simp)
       ·rw [if_neg c11] at H
        exact absurd H (by simp)
      ·rw [if_neg c10] at H
       have c10b0 : decide (x20_2 < (l0_1.length : Int)) = false := decide_eq_false c10
       clear c10
       obtain rfl := Option.some.inj H
       go_wp2
       go_ret
       exact ⟨qDoor6_4, qDoor6_0⟩
end Go.Proofs.YtihiicjnjhideaaDoor.PAll
end
section
namespace Go.Proofs.YtihiicjnjhideaaDoor.Build
open Go.RowKit Go.Proofs.YtihiicjnjhideaaDoorW.PrintWords Go.Proofs.YtihiicjnjhideaaDoor.PAll Go.Proofs.YtihiicjnjhideaaDoor.Core Go.Proofs.YtihiicjnjhideaaDoor.Names
set_option linter.unusedVariables false
set_option linter.unusedSimpArgs false
section
variable (s : ByteArray) (ps : List ByteArray) (b : List EN) (P : Prop) (hl : ps.length ≤ 1048576) (hp : ∀ p ∈ ps, p.size ≤ 140737488351232)
include hl in
theorem headed_inner (i : Nat) (hi : i ≤ ps.length) (u : ByteArray) (hnext : EvP (fun k => script_headed.l0 k ps (ps.length : Int) (wrap64 ((i : Int) + 1)) s ps b) P) : ∀ (d j : Nat), j + d = (ps.take i).length → EvP (fun k => script_headed.l1 k u ps (ps.length : Int) (i : Int) (ps.take i) ((ps.take i).length : Int) (j : Int) s ps b) P
 | 0, j, hj => by
  refine EvP.step (fun _ => by rw [script_headed.l1]) ?_
  exact EvP.ite (fun h => by omega) (fun _ => hnext)
 | d + 1, j, hj => by
  have hlen : (ps.take i).length ≤ 1048576 := by rw [List.length_take]; omega
  have hw := aK (show wrap64 ((j : Int) + 1) = ((j + 1 : Nat) : Int) by rw [w64] <;> omega)
  refine EvP.step (fun _ => by rw [script_headed.l1]) ?_
  refine EvP.ite (fun _ => ?_) (fun h => absurd (show (j : Int) < (ps.take i).length by omega) h)
  refine EvP.ite (fun _ => ?_) (fun h => absurd (show (0 : Int) ≤ j by omega) h)
  refine EvP.ite (fun _ => ?_) (fun h => absurd (show (j : Int) < (ps.take i).length by omega) h)
  refine EvP.ite (fun _ => EvP.no) (fun _ => ?_)
  rw [hw.out]
  exact headed_inner i hi u hnext d (j + 1) (by omega)
include hl hp in
theorem headed_loop (hP : P) : ∀ (d i : Nat), i + d = ps.length → EvP (fun k => script_headed.l0 k ps (ps.length : Int) (i : Int) s ps b) P
 | 0, i, hi => by
  refine EvP.step (fun _ => by rw [script_headed.l0]) ?_
  exact EvP.ite (fun h => by omega) (fun _ => EvP.yes hP)
 | d + 1, i, hi => by
  have hlt : i < ps.length := by omega
  have hw := aK (show wrap64 ((i : Int) + 1) = ((i + 1 : Nat) : Int) by rw [w64] <;> omega)
  have hnext : EvP (fun k => script_headed.l0 k ps (ps.length : Int) (wrap64 ((i : Int) + 1)) s ps b) P := by
   rw [hw.out]; exact headed_loop hP d (i + 1) (by omega)
  have hu : (rdOf ByteArray.empty ps (i : Int)).size ≤ 140737488351232 := by
   rw [show rdOf ByteArray.empty ps (i : Int) = ps[i] by rw [rdOf, Int.toNat_natCast, List.getD_eq_getElem?_getD, List.getElem?_eq_getElem hlt]; rfl]
   exact hp _ (List.getElem_mem hlt)
  refine EvP.step (fun _ => by rw [script_headed.l0]) ?_
  refine EvP.ite (fun _ => ?_) (fun h => absurd (show (i : Int) < ps.length by omega) h)
  refine EvP.ite (fun _ => ?_) (fun h => absurd (show (0 : Int) ≤ i by omega) h)
  refine EvP.ite (fun _ => ?_) (fun h => absurd (show (i : Int) < ps.length by omega) h)
  refine EvP.bind (sown_ev _ hu) ?_
  refine EvP.ite (fun _ => ?_) (fun _ => EvP.no)
  refine EvP.ite (fun _ => ?_) (fun h => absurd (show (i : Int) ≤ ps.length by omega) h)
  have := headed_inner s ps b P hl i (by omega) (rdOf ByteArray.empty ps (i : Int)) hnext (ps.take i).length 0 (by omega)
  rwa [show ((i : Nat) : Int).toNat = i from Int.toNat_natCast i]
include hp in
theorem headed_any (hs : s.size ≤ 140737488351232) : EvP (fun k => script_headed.f k s ps b) (isName s.data.toList = true) := by
 unfold script_headed.f
 refine EvP.bind (lexName_ev s hs) ?_
 refine EvP.ite (fun h => ?_) (fun h => ?_)
 ·refine EvP.step (fun _ => by rw [script_headed.j0]) ?_
  refine EvP.ite (fun _ => EvP.no) (fun h2 => ?_)
  have hl : ps.length ≤ 1048576 := by simp at h2; omega
  exact headed_loop s ps b _ hl hp h ps.length 0 (by omega)
 ·refine EvP.step (fun _ => by rw [script_headed.j0]) ?_
  exact EvP.ite (fun _ => EvP.no) (fun h2 => absurd rfl h2)
end
end Go.Proofs.YtihiicjnjhideaaDoor.Build
end
