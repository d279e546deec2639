/- Parts of the proof of coreOrder: PAllx11, BuildNest. No condition beyond each lemma's own. -/
import Derived.Test.YtihiicjnjhideaaDoorTO5
import Derived.Test.YtihiicjnjhideaaDoorTO12
import Derived.Test.YtihiicjnjhideaaDoorTO13
import Derived.Test.YtihiicjnjhideaaDoorTO14
section
namespace Go.Proofs.YtihiicjnjhideaaDoor.PAll
open Go.RowKit Go.Proofs.YtihiicjnjhideaaDoorW.PrintWords Go.Proofs.YtihiicjnjhideaaDoorW.PrintLast Go.Proofs.YtihiicjnjhideaaDoorW.PrintMore
attribute [local go_sem] max2_int max_two
set_option linter.unusedVariables false
set_option linter.unusedSimpArgs false
theorem qDoor11_5 {p : Prop} (h : p := by (with_reducible repeat (first | apply Kd.R_alloc | apply Kd.R_drewN | apply Kd.R_drew)); exact HO_5.out) : p := h
theorem qDoor11_4 {p : Prop} (h : p := by first | rfl | (simp; done) | (simp [*]; done)) : p := h
theorem qDoor11_3 {p : Prop} (h : p := by first | rfl | (simp [errW_none, errW_some] <;> rfl) | (simp [*, errW_none, errW_some] <;> rfl)) : p := h
theorem qDoor11_2 {p : Prop} (h : p := by first | (with_reducible assumption) | assumption) : p := h
theorem qDoor11_1 {p : Prop} (h : p := by (try simp only [List.map_toArray, List.map_cons, List.map_nil]); first | done | rfl | (simp only [List.length_drop, List.length_take]; rfl)) : p := h
theorem qDoor11_0 {p : Prop} (h : p := by repeat (first | (with_reducible first | exact HB.out | apply below_alloc | apply pw_below_drewN | apply below_drew1) | exact HB.out)) : p := h
mutual
def script_nest.l0 : Nat → List (S51) → List Int → List Int → Int → Int → Int → Option (Int)
 | 0, _, _, _, _, _, _ => none
 | k + 1, x0, x1, x5, x6, x14, x15 => if x15 < x14 then (if 0 ≤ x15 then (if x15 < (x5.length : Int) then ((script_parts.f k x0 x1 x15).bind fun t157 => (script_nest.l1 k x0 x1 (x5.set (x15 : Int).toNat 1) x6 x15 x14 x15 t157 (t157.length : Int) 0)) else (none)) else (none)) else (some x6)
def script_nest.l1 : Nat → List (S51) → List Int → List Int → Int → Int → Int → Int → List Int → Int → Int → Option (Int)
 | 0, _, _, _, _, _, _, _, _, _, _ => none
 | k + 1, x0, x1, x5, x6, x7, x14, x15, x24, x25, x26 => if x26 < x25 then (if 0 ≤ x26 then (if x26 < (x24.length : Int) then (if 0 ≤ x7 then (if x7 < (x5.length : Int) then (if 0 ≤ (rd x24 x26) then (if (rd x24 x26) < (x5.length : Int) then (script_nest.l1 k x0 x1 (x5.set (x7 : Int).toNat (mx (rd x5 x7) (wrap64 ((rd x5 (rd x24 x26)) + 1)))) x6 x7 x14 x15 x24 x25 (wrap64 (x26 + 1))) else (none)) else (none)) else (none)) else (none)) else (none)) else (none)) else (if 0 ≤ x7 then (if x7 < (x5.length : Int) then (script_nest.l0 k x0 x1 x5 (mx x6 (rd x5 x7)) x14 (wrap64 (x15 + 1))) else (none)) else (none))
end
def script_nest.f (k : Nat) (l0 : List (S51)) (l1 : List Int) : Option (Int) := if 0 ≤ (l0.length : Int) then (if ((l0.length : Int) : Int).toNat ≤ 35184372088832 then (script_nest.l0 k l0 l1 (List.replicate ((l0.length : Int) : Int).toNat 0) 0 (l0.length : Int) 0) else (none)) else (none)
theorem script_nest.mono_l : ∀ k, (∀ y0 y1 y2 y3 y4 y5, LeO (script_nest.l0 k y0 y1 y2 y3 y4 y5) (script_nest.l0 (k + 1) y0 y1 y2 y3 y4 y5)) ∧ (∀ y0 y1 y2 y3 y4 y5 y6 y7 y8 y9, LeO (script_nest.l1 k y0 y1 y2 y3 y4 y5 y6 y7 y8 y9) (script_nest.l1 (k + 1) y0 y1 y2 y3 y4 y5 y6 y7 y8 y9))
 | 0 => ⟨fun _ _ _ _ _ _ r h => by simp [script_nest.l0] at h, fun _ _ _ _ _ _ _ _ _ _ r h => by simp [script_nest.l1] at h⟩
 | k + 1 => by
  obtain ⟨ih0, ih1⟩ := script_nest.mono_l k
  refine ⟨?_, ?_⟩
  ·intro y0 y1 y2 y3 y4 y5
   unfold script_nest.l0
   repeat' first
   | (with_reducible exact ih0 _ _ _ _ _ _)
   | (with_reducible exact ih1 _ _ _ _ _ _ _ _ _ _)
   | (with_reducible exact script_parts.mono _ _ _ _)
   | (with_reducible exact LeO.refl _)
   | (with_reducible exact LeO.none _)
   | (with_reducible refine LeO.ite ?_ ?_)
   | (with_reducible refine LeO.bind ?_ (fun _ => ?_))
   | exact ih0 _ _ _ _ _ _
   | exact ih1 _ _ _ _ _ _ _ _ _ _
   | exact script_parts.mono _ _ _ _
   | exact LeO.none _
   | refine LeO.ite ?_ ?_
   | refine LeO.bind ?_ (fun _ => ?_)
  ·intro y0 y1 y2 y3 y4 y5 y6 y7 y8 y9
   unfold script_nest.l1
   repeat' first
   | (with_reducible exact ih0 _ _ _ _ _ _)
   | (with_reducible exact ih1 _ _ _ _ _ _ _ _ _ _)
   | (with_reducible exact script_parts.mono _ _ _ _)
   | (with_reducible exact LeO.refl _)
   | (with_reducible exact LeO.none _)
   | (with_reducible refine LeO.ite ?_ ?_)
   | (with_reducible refine LeO.bind ?_ (fun _ => ?_))
   | exact ih0 _ _ _ _ _ _
   | exact ih1 _ _ _ _ _ _ _ _ _ _
   | exact script_parts.mono _ _ _ _
   | exact LeO.none _
   | refine LeO.ite ?_ ?_
   | refine LeO.bind ?_ (fun _ => ?_)
theorem script_nest.mono : ∀ a0 a1 k, LeO (script_nest.f k a0 a1) (script_nest.f (k + 1) a0 a1) := by
 intro a0 a1 k
 obtain ⟨ih0, ih1⟩ := script_nest.mono_l k
 unfold script_nest.f
 repeat' first
   | (with_reducible exact ih0 _ _ _ _ _ _)
   | (with_reducible exact ih1 _ _ _ _ _ _ _ _ _ _)
   | (with_reducible exact script_parts.mono _ _ _ _)
   | (with_reducible exact LeO.refl _)
   | (with_reducible exact LeO.none _)
   | (with_reducible refine LeO.ite ?_ ?_)
   | (with_reducible refine LeO.bind ?_ (fun _ => ?_))
   | exact ih0 _ _ _ _ _ _
   | exact ih1 _ _ _ _ _ _ _ _ _ _
   | exact script_parts.mono _ _ _ _
   | exact LeO.none _
   | refine LeO.ite ?_ ?_
   | refine LeO.bind ?_ (fun _ => ?_)
def script_nest.T10 : Bool × List (List Nat × List Nat) := (true, [([], []), ([], []), ([], []), ([], []), ([2, 3], [2, 3]), ([4], [4]), ([], []), ([], []), ([6, 7], [6, 7]), ([8], [8]), ([9], [9]), ([5, 10], [5, 10]), ([0, 1, 0, 1, 2, 3, 4, 5, 6, 7, 8, 9, 10, 11], [0, 1]), ([12, 11, 0, 1, 2, 3, 4, 5, 6, 7, 8, 9, 10, 11], [11, 12])])
def script_nest.B10 : List Nat := [0, 0, 0, 0, 12, 28, 0, 0, 192, 448, 960, 2044, 4095, 8191]
theorem script_nest.tab10 : rtab .any (opsOf Tryd.f40 10) = script_nest.T10 := by kernel_rfl
theorem script_nest.bits10 : waitsOk script_nest.T10.2 script_nest.B10 = true := by kernel_rfl
set_option maxHeartbeats 8000000 in
set_option maxRecDepth 100000 in
theorem script_nest.calls (k : Nat) (A0 : Option Addr) (c0 : Nat) (l0 : List (S51)) (A1 : Option Addr) (c1 : Nat) (l1 : List Int) (r : Int) (w : World) (hr0 : Kd.C k51 w A0 l0.length l0) (hc0 : l0.length ≤ c0) (hr1 : Kd.C (Kd.int .i64) w A1 l1.length l1) (hc1 : l1.length ≤ c1) (h : script_nest.f k l0 l1 = some r) :
  Calls Tryd.prog 40 #[.slice A0 l0.length c0, .slice A1 l1.length c1] w fun e w' => e = .returned (.int .i64 r) ∧ Below w.heap.size w w' := by
 have HR0 := aK hr0; have HC0 := aK hc0; clear hr0 hc0; have HR1 := aK hr1; have HC1 := aK hc1; clear hr1 hc1
 have HB := aK (Below.refl w.heap.size w)
 have H : (if 0 ≤ (l0.length : Int) then (if ((l0.length : Int) : Int).toNat ≤ 35184372088832 then (script_nest.l0 k l0 l1 (List.replicate ((l0.length : Int) : Int).toNat 0) 0 (l0.length : Int) 0) else (none)) else (none)) = some r := h
 clear h
 by_cases c3 : 0 ≤ (l0.length : Int)
 ·rw [if_pos c3] at H
  have c3b0 := eq_true c3
  have c3b1 : decide (0 ≤ (l0.length : Int)) = true := decide_eq_true c3
  clear c3
  by_cases c4 : ((l0.length : Int) : Int).toNat ≤ 35184372088832
  ·rw [if_pos c4] at H
   have c4b0 := eq_true c4
   have c4b1 : decide (((l0.length : Int) : Int).toNat ≤ 35184372088832) = true := decide_eq_true c4
   clear c4
   obtain ⟨y153, hy153⟩ : ∃ y_ : List Int, y_ = (List.replicate ((l0.length : Int) : Int).toNat 0) := ⟨_, rfl⟩
   replace H : (script_nest.l0 k l0 l1 y153 0 (l0.length : Int) 0) = some r := by first | (rw [hy153]; with_reducible exact H) | (have H2_ := (Option.bind_some _ _).symm.trans H; rw [hy153]; with_reducible exact H2_) | (have H2_ := (Option.bind_some _ _).symm.trans H; with_reducible exact H2_) | with_reducible exact H | (rw [hy153]; exact H) | exact H
   have Ny153 := aK hy153; clear hy153
   have H' := aK H
   clear H
   go_enter Tryd.func40, Tryd.ntmps40
   go_wp2_with (first | ((with_reducible refine gate_dst (N := 12) rfl ?_); refine Kd.R_make (Kd.int .i64) _ 3 rfl (N := 12) rfl 91 _ _ rfl (l0.length : Int) rfl rfl Tryd.underlying91 (.int .i64 0) 8 info3 rfl (by decide) (by omega) 0 (ok := fun _ => True) (okp := fun _ => True) rfl (fun _ hk => hk) trivial (of_decide_eq_true qDoor11_2) (Nat.le_trans (Nat.mul_le_mul_right _ (of_decide_eq_true qDoor11_2 : (l0.length : Int).toNat ≤ 35184372088832)) (by omega)) (Below.refl _ _) (Nat.le_refl _) ?_; intro v154 w5 ho6 hb hg_ hnew_; clear hg_ hnew_; (first | rw [← Ny153.out] at ho6 | (simp only [Int.reduceToNat] at ho6; rw [← Ny153.out] at ho6)); have n0_ := aK (Kd.R_lower ho6 (below_size qDoor11_0)); have n1_ := aK (below_step qDoor11_0 hb); clear HB; have HO155 := n0_; have HB := n1_; clear n0_ n1_; clear hb ho6))
   go_loopg [6, 15] k (fun kq v6 v15 w' => ∃ (x5_1 : List Int) (x6_1 : Int) (x15_1 : Int), v6 = .int .i64 x6_1 ∧ v15 = .int .i64 x15_1 ∧ Aside0 (script_nest.l0 kq l0 l1 x5_1 x6_1 (l0.length : Int) x15_1 = some r) ∧ Aside0 (kq ≤ k) ∧ Aside0 (Kd.R (Kd.int .i64) 3 w' w.heap.size (fun _ => True) v154 x5_1) ∧ Aside0 (Below w.heap.size w w'))
   case atStart => exact ⟨(y153), (0), (0), qDoor11_4, qDoor11_4, H', ⟨Nat.le_refl _⟩, ⟨by (with_reducible repeat (first | apply Kd.R_alloc | apply Kd.R_drewN | apply Kd.R_drew)); exact HO155.out⟩, ⟨qDoor11_0⟩⟩
   case round =>
    clear H'; (try clear c1); (try clear p2); (try clear c3); (try clear c3b0); (try clear c3b1); (try clear c4); (try clear c4b0); (try clear c4b1)
    obtain ⟨x5_1, x6_1, x15_1, rfl, rfl, HA, HK1, HO_5, HB⟩ := hrel
    cases gk with
    | zero => exact absurd HA.out (by simp [script_nest.l0])
    | succ k1 =>
     have H := HA.out
     clear HA
     simp only [script_nest.l0] at H
     by_cases c7 : x15_1 < (l0.length : Int)
     ·rw [if_pos c7] at H
      have c7b0 : decide (x15_1 < (l0.length : Int)) = true := decide_eq_true c7
      clear c7
      by_cases c8 : 0 ≤ x15_1
      ·rw [if_pos c8] at H
       have c8b0 : decide (0 ≤ x15_1) = true := decide_eq_true c8
       clear c8
       by_cases c9 : x15_1 < (x5_1.length : Int)
       ·rw [if_pos c9] at H
        have c9b0 : decide (x15_1 < (x5_1.length : Int)) = true := decide_eq_true c9
        clear c9
        obtain ⟨y156, hy156⟩ : ∃ y_ : List Int, y_ = (x5_1.set (x15_1 : Int).toNat 1) := ⟨_, rfl⟩
        replace H : ((script_parts.f k1 l0 l1 x15_1).bind fun t157 => (script_nest.l1 k1 l0 l1 y156 x6_1 x15_1 (l0.length : Int) x15_1 t157 (t157.length : Int) 0)) = some r := by first | (rw [hy156]; with_reducible exact H) | (have H2_ := (Option.bind_some _ _).symm.trans H; rw [hy156]; with_reducible exact H2_) | (have H2_ := (Option.bind_some _ _).symm.trans H; with_reducible exact H2_) | with_reducible exact H | (rw [hy156]; exact H) | exact H
        have Ny156 := aK hy156; clear hy156
        replace H := Option.bind_eq_some_iff.mp H
        obtain ⟨t157, A110, H⟩ := H
        replace H : (script_nest.l1 k1 l0 l1 y156 x6_1 x15_1 (l0.length : Int) x15_1 t157 (t157.length : Int) 0) = some r := H
        have A11 := aK A110; clear A110
        have H' := aK H
        clear H
        have p10 : 0 ≤ (x15_1 : Int) := of_decide_eq_true qDoor11_2
        have q10 : (x15_1 : Int) < ((x5_1.length : Int) : Int) := of_decide_eq_true qDoor11_2
        obtain ⟨go10, co10, eo10, gb10, gl10, cl10, HG10⟩ := Kd.R_form HO_5.out (by omega)
        (first | cases eo10 | (injection eo10 with ea_ en_ ec_; (first | subst ea_ | (injection ea_ with ea_; subst ea_)); subst ec_; clear en_))
        have GB10 := aK gb10; have GG10 := aK HG10; clear gb10 gl10 HG10
        obtain ⟨hx10_0, hf10_0⟩ := Kd.R_celln 0 HO_5.out (x15_1 : Int) p10 q10
        replace p10 := eq_true p10
        replace q10 := eq_true q10
        have HP12 := Kd.R_putg HO_5.out (x15_1 : Int) 1
        go_wp2_with (first | ((with_reducible refine gate_store (t := 3) (p := 20) rfl ?_); refine store_event (t := 3) (p := 20) (v := ?vo_w13) (w1 := (wr.setCell ⟨go10, (x15_1 : Int).toNat, none⟩ (.int .i64 1))) ?hg ?ho ?hn ?hr ?_; (case ho => rfl); (case hg => rfl); (case hn => rfl); (case hr => first | (go_simp; done) | (go_simp; rfl)); intro w13 hw; have hg : wr.grownBy w13 (some go10) := (by rw [hw]; exact HP12.2); have hp_ : Kd.R (Kd.int .i64) 3 w13 w.heap.size (fun _ => True) (.slice (some ⟨go10, 0, none⟩) x5_1.length co10) y156 := (by rw [hw, Ny156.out]; exact HP12.1); clear HP12; have n0_ := aK (hp_); have n1_ := aK ((by rw [hw]; exact below_set (HB.out) GB10.out : Below w.heap.size w w13)); clear HO_5; clear HB; have HO_5 := n0_; have HB := n1_; clear n0_ n1_; clear hg hw hp_) | ((with_reducible refine gate_callee (f := 58) rfl ?_); refine goesL_ (some 24) rfl rfl Tryd.func58 (by kernel_rfl) rfl #[.slice A0 l0.length c0, .slice A1 l1.length c1, .int .i64 x15_1] rfl qDoor11_1 ?_; (with_reducible refine (script_parts.calls k1 _ _ l0 _ _ l1 x15_1 t157 _ ?side1 ?side2 ?side3 ?side4 A11.out).mono ?_); (case side1 => repeat (first | exact (Kd.C_below HR0.out HB.out) | (with_reducible refine Kd.C_alloc ?_ _) | (with_reducible refine Kd.C_drewN ?_ _) | (with_reducible refine Kd.C_drew ?_))); (case side2 => exact HC0.out); (case side3 => repeat (first | exact (Kd.C_below HR1.out HB.out) | (with_reducible refine Kd.C_alloc ?_ _) | (with_reducible refine Kd.C_drewN ?_ _) | (with_reducible refine Kd.C_drew ?_))); (case side4 => exact HC1.out); rintro e w14 ⟨v158, rfl, ho0, hb⟩; refine ⟨_, rfl, ?_⟩; have n0_ := aK (Kd.R_elder' qDoor11_5 (Kd.R_base ho0) hb); have n1_ := aK (Kd.R_lower (Kd.R_new' ho0 (Kd.R_lt qDoor11_5)) (below_size qDoor11_0)); have n2_ := aK (below_step qDoor11_0 hb); clear HO_5; clear HB; have HO_5 := n0_; have HO159 := n1_; have HB := n2_; clear n0_ n1_ n2_; (try clear hb); (try clear hb2); (try clear hk); (try clear hi); (try clear ho0); obtain ⟨Ao15, co15, eo15⟩ := Kd.R_slice HO159.out; subst eo15))
        go_loopg [26] k1 (fun kq v26 w' => ∃ (x5_2 : List Int) (x26_2 : Int), v26 = .int .i64 x26_2 ∧ Aside0 (script_nest.l1 kq l0 l1 x5_2 x6_1 x15_1 (l0.length : Int) x15_1 t157 (t157.length : Int) x26_2 = some r) ∧ Aside0 (kq ≤ k1) ∧ Aside0 (Kd.R (Kd.int .i64) 3 w' w.heap.size (fun k_ => some k_ ≠ ((.slice Ao15 t157.length co15) : Value).ownBlock) (.slice (some ⟨go10, 0, none⟩) x5_1.length co10) x5_2) ∧ Aside0 (Kd.R (Kd.int .i64) 3 w' w.heap.size (fun k_ => some k_ ≠ ((.slice (some ⟨go10, 0, none⟩) x5_1.length co10) : Value).ownBlock) (.slice Ao15 t157.length co15) t157) ∧ Aside0 (Below w.heap.size w w'))
        case atStart => exact ⟨(y156), (0), qDoor11_4, H', ⟨Nat.le_refl _⟩, ⟨by (with_reducible repeat (first | apply Kd.R_alloc | apply Kd.R_drewN | apply Kd.R_drew)); exact Kd.R_mono HO_5.out (fun _ hk => hk.2)⟩, ⟨by (with_reducible repeat (first | apply Kd.R_alloc | apply Kd.R_drewN | apply Kd.R_drew)); exact Kd.R_mono HO159.out (fun _ hk => hk.2)⟩, ⟨qDoor11_0⟩⟩
        case round =>
         clear H'; (try clear c1); (try clear p1); (try clear q1); (try clear hx1); (try clear p2); (try clear c3); (try clear c3b0); (try clear c3b1); (try clear c4); (try clear c4b0); (try clear c4b1); (try clear c5); (try clear c7); (try clear c7b0); (try clear c8); (try clear c8b0); (try clear c9); (try clear c9b0); (try clear p10); (try clear q10); (try clear hx10); (try clear hf10); (try clear hx10_0); (try clear p10); (try clear p2); (try clear q10)
         obtain ⟨x5_2, x26_2, rfl, HA, HK2, HO_5, HO_24, HB⟩ := hrel
         have hl5_2 := (Kd.R_reads' HO_5.out).1
         rw [hl5_2] at HO_5
         (try simp only [hl5_2])
         (try simp only [hl5_2] at HO_24)
         cases gk with
         | zero => exact absurd HA.out (by simp [script_nest.l1])
         | succ k2 =>
          have H := HA.out
          clear HA
          simp only [script_nest.l1] at H
          by_cases c16 : x26_2 < (t157.length : Int)
          ·rw [if_pos c16] at H
           have c16b0 : decide (x26_2 < (t157.length : Int)) = true := decide_eq_true c16
           clear c16
           by_cases c17 : 0 ≤ x26_2
           ·rw [if_pos c17] at H
            have c17b0 : decide (0 ≤ x26_2) = true := decide_eq_true c17
            clear c17
            by_cases c18 : x26_2 < (t157.length : Int)
            ·rw [if_pos c18] at H
             have c18b0 : decide (x26_2 < (t157.length : Int)) = true := decide_eq_true c18
             clear c18
             by_cases c19 : 0 ≤ x15_1
             ·rw [if_pos c19] at H
              have c19b0 : decide (0 ≤ x15_1) = true := decide_eq_true c19
              clear c19
              by_cases c20 : x15_1 < (x5_2.length : Int)
              ·rw [if_pos c20] at H
               have c20b0 : decide (x15_1 < (x5_2.length : Int)) = true := decide_eq_true c20
               clear c20
               by_cases c21 : 0 ≤ (rd t157 x26_2)
               ·rw [if_pos c21] at H
                have c21b0 : decide (0 ≤ (rd t157 x26_2)) = true := decide_eq_true c21
                clear c21
                by_cases c22 : (rd t157 x26_2) < (x5_2.length : Int)
                ·rw [if_pos c22] at H
                 have c22b0 : decide ((rd t157 x26_2) < (x5_2.length : Int)) = true := decide_eq_true c22
                 clear c22
                 obtain ⟨ji23, hji23⟩ : ∃ j_ : Int, (mx (rd x5_2 x15_1) (wrap64 ((rd x5_2 (rd t157 x26_2)) + 1))) = j_ := ⟨_, rfl⟩
                 replace H : (script_nest.l1 k2 l0 l1 (x5_2.set (x15_1 : Int).toNat (ji23)) x6_1 x15_1 (l0.length : Int) x15_1 t157 (t157.length : Int) (wrap64 (x26_2 + 1))) = some r := by first | (rw [hji23] at H; exact H) | (simp only [hji23] at H ⊢; exact H)
                 have hji23_ : (if (rd x5_2 x15_1) < (wrap64 ((rd x5_2 (rd t157 x26_2)) + 1)) then (wrap64 ((rd x5_2 (rd t157 x26_2)) + 1)) else (rd x5_2 x15_1)) = ji23 := hji23
                 obtain ⟨y163, hy163⟩ : ∃ y_ : List Int, y_ = (x5_2.set (x15_1 : Int).toNat (ji23)) := ⟨_, rfl⟩
                 replace H : (script_nest.l1 k2 l0 l1 y163 x6_1 x15_1 (l0.length : Int) x15_1 t157 (t157.length : Int) (wrap64 (x26_2 + 1))) = some r := by first | (rw [hy163]; with_reducible exact H) | (have H2_ := (Option.bind_some _ _).symm.trans H; rw [hy163]; with_reducible exact H2_) | (have H2_ := (Option.bind_some _ _).symm.trans H; with_reducible exact H2_) | with_reducible exact H | (rw [hy163]; exact H) | exact H
                 have Ny163 := aK hy163; clear hy163
                 have H' := aK H
                 clear H
                 have p160 : 0 ≤ (x26_2 : Int) := of_decide_eq_true qDoor11_2
                 have q160 : x26_2 < (t157.length : Int) := of_decide_eq_true qDoor11_2
                 obtain ⟨ad160, e160, hx160_0⟩ := Kd.at_int (Kd.R_reads' HO_24.out).2.2 x26_2 p160 q160
                 cases e160
                 replace p160 := eq_true p160
                 replace q160 := eq_true q160
                 try go_wp2
                 have n0_ := aK (Kd.R_drew HO_5.out)
                 have n1_ := aK (Kd.R_drew HO_24.out)
                 have n2_ := aK (below_drew1 HB.out)
                 clear HO_5; clear HO_24; clear HB
                 have HO_5 := n0_
                 have HO_24 := n1_
                 have HB := n2_
                 clear n0_ n1_ n2_
                 have p161 : 0 ≤ (x15_1 : Int) := of_decide_eq_true qDoor11_2
                 have q161 : x15_1 < (x5_2.length : Int) := of_decide_eq_true qDoor11_2
                 obtain ⟨ad161, e161, hx161_0⟩ := Kd.at_int (Kd.R_reads' HO_5.out).2.2 x15_1 p161 q161
                 obtain rfl : (⟨go10, 0, none⟩ : Addr) = ad161 := (by injection e161)
                 (first | simp only [add_plain] at hx161_0 | simp only [add_at] at hx161_0 | simp only [Addr.add, Nat.zero_add] at hx161_0 | skip)
                 replace p161 := eq_true p161
                 replace q161 := eq_true q161
                 have p162 : 0 ≤ ((rd t157 x26_2) : Int) := of_decide_eq_true qDoor11_2
                 have q162 : (rd t157 x26_2) < (x5_2.length : Int) := of_decide_eq_true qDoor11_2
                 obtain ⟨ad162, e162, hx162_0⟩ := Kd.at_int (Kd.R_reads' HO_5.out).2.2 (rd t157 x26_2) p162 q162
                 obtain rfl : (⟨go10, 0, none⟩ : Addr) = ad162 := (by injection e162)
                 (first | simp only [add_plain] at hx162_0 | simp only [add_at] at hx162_0 | simp only [Addr.add, Nat.zero_add] at hx162_0 | skip)
                 replace p162 := eq_true p162
                 replace q162 := eq_true q162
                 have p24 : 0 ≤ (x15_1 : Int) := of_decide_eq_true qDoor11_2
                 have q24 : (x15_1 : Int) < ((x5_2.length : Int) : Int) := of_decide_eq_true qDoor11_2
                 obtain ⟨hx24_0, hf24_0⟩ := Kd.R_celln 0 HO_5.out (x15_1 : Int) p24 q24
                 replace p24 := eq_true p24
                 replace q24 := eq_true q24
                 have HP26 := Kd.R_putn HO_5.out (x15_1 : Int) ji23
                 rw [← Ny163.out] at HP26
                 have HQ26 := aK HP26; clear HP26
                 refine start_ (n := 14) (S := fun w' => w'.cell? ⟨go10, (x15_1).toNat, none⟩ = some (.int .i64 (rd x5_2 x15_1)) ∧ w'.cell? ⟨go10, ((rd t157 x26_2)).toNat, none⟩ = some (.int .i64 (rd x5_2 (rd t157 x26_2)))) (ds := [13]) #[false,false,false,false,false,false,false,false,false,false,false,false,false,false] (by kernel_rfl) rfl rfl ⟨hx161_0, hx162_0⟩ (fun hHeld => ?_); refine with_tabW script_nest.tab10 script_nest.bits10 (fun HT_ HW_ => ?_)
                 generalize wr.drew = w25 at HO_5 HO_24 HB HQ26 hf24_0 hx161_0 hx162_0 hx24_0 hHeld ⊢
                 refine pure_ (i := 0) (N := some 30) (v := ?_) (a' := ?_) #[true,false,false,false,false,false,false,false,false,false,false,false,false,false] rfl rfl (any_of HT_.out (by kernel_rfl)) (fun _ _ _ h => h) (Or.inl ⟨by rfl, ?_⟩) ?_ ?_
                 rotate_left; (· intro w'; go_simp; with_reducible rfl); rotate_left; (· simp only [Act.put, List.setIfInBounds_toArray, List.set_cons_zero, List.set_cons_succ, i64_w, i32_w]; rfl)
                 refine pure_ (i := 1) (N := some 31) (v := ?_) (a' := ?_) #[true,true,false,false,false,false,false,false,false,false,false,false,false,false] rfl rfl (any_of HT_.out (by kernel_rfl)) (fun _ _ _ h => h) (Or.inl ⟨by rfl, ?_⟩) ?_ ?_
                 rotate_left; (· intro w'; go_simp; with_reducible rfl); rotate_left; (· simp only [Act.put, List.setIfInBounds_toArray, List.set_cons_zero, List.set_cons_succ, i64_w, i32_w]; rfl)
                 refine pure_ (i := 2) (N := some 32) (v := ?_) (a' := ?_) #[true,true,true,false,false,false,false,false,false,false,false,false,false,false] rfl rfl (any_of HT_.out (by kernel_rfl)) (fun _ _ _ h => h) (Or.inl ⟨by rfl, ?_⟩) ?_ ?_
                 rotate_left; (· intro w'; go_simp; with_reducible rfl); rotate_left; (· simp only [Act.put, List.setIfInBounds_toArray, List.set_cons_zero, List.set_cons_succ, i64_w, i32_w]; rfl)
                 refine pure_ (i := 3) (N := some 33) (v := ?_) (a' := ?_) #[true,true,true,true,false,false,false,false,false,false,false,false,false,false] rfl rfl (any_of HT_.out (by kernel_rfl)) (fun _ _ _ h => h) (Or.inl ⟨by rfl, ?_⟩) ?_ ?_
                 rotate_left; (· intro w'; go_simp; with_reducible rfl); rotate_left; (· simp only [Act.put, List.setIfInBounds_toArray, List.set_cons_zero, List.set_cons_succ, i64_w, i32_w]; rfl)
                 refine pure_ (i := 4) (N := some 34) (v := ?_) (a' := ?_) #[true,true,true,true,true,false,false,false,false,false,false,false,false,false] rfl rfl (any_of HT_.out (by kernel_rfl)) (fun _ _ _ h => h) (Or.inl ⟨by rfl, ?_⟩) ?_ ?_
                 rotate_left; (· intro w'; go_simp; with_reducible rfl); rotate_left; (· simp only [Act.put, List.setIfInBounds_toArray, List.set_cons_zero, List.set_cons_succ, i64_w, i32_w]; rfl)
                 refine pure_ (i := 6) (N := some 36) (v := ?_) (a' := ?_) #[true,true,true,true,true,false,true,false,false,false,false,false,false,false] rfl rfl (any_of HT_.out (by kernel_rfl)) (fun _ _ _ h => h) (Or.inl ⟨by rfl, ?_⟩) ?_ ?_
                 rotate_left; (· intro w'; go_simp; with_reducible rfl); rotate_left; (· simp only [Act.put, List.setIfInBounds_toArray, List.set_cons_zero, List.set_cons_succ, i64_w, i32_w]; rfl)
                 refine pure_ (i := 7) (N := some 37) (v := ?_) (a' := ?_) #[true,true,true,true,true,false,true,true,false,false,false,false,false,false] rfl rfl (any_of HT_.out (by kernel_rfl)) (fun _ _ _ h => h) (Or.inl ⟨by rfl, ?_⟩) ?_ ?_
                 rotate_left; (· intro w'; go_simp; with_reducible rfl); rotate_left; (· simp only [Act.put, List.setIfInBounds_toArray, List.set_cons_zero, List.set_cons_succ, i64_w, i32_w]; rfl)
                 refine pure_ (i := 8) (N := some 38) (v := ?_) (a' := ?_) #[true,true,true,true,true,false,true,true,true,false,false,false,false,false] rfl rfl (any_of HT_.out (by kernel_rfl)) (fun _ _ _ h => h) (Or.inl ⟨by rfl, ?_⟩) ?_ ?_
                 rotate_left; (· intro w'; go_simp; with_reducible rfl); rotate_left; (· simp only [Act.put, List.setIfInBounds_toArray, List.set_cons_zero, List.set_cons_succ, i64_w, i32_w]; rfl)
                 refine take_ (i := 5) (N := some 35) (v := ?_) (a' := ?_) #[true,true,true,true,true,true,true,true,true,false,false,false,false,false] rfl rfl (take_ofW HT_.out HW_.out (by kernel_rfl)) (fun _ _ _ h => h) (Or.inl ⟨by rfl, ?_⟩) hHeld ?_ ?_
                 rotate_left; (· rintro w' ⟨s0, s1⟩; go_simp; with_reducible rfl); rotate_left; (· simp only [Act.put, List.setIfInBounds_toArray, List.set_cons_zero, List.set_cons_succ, i64_w, i32_w]; rfl)
                 refine take_ (i := 9) (N := some 39) (v := ?_) (a' := ?_) #[true,true,true,true,true,true,true,true,true,true,false,false,false,false] rfl rfl (take_ofW HT_.out HW_.out (by kernel_rfl)) (fun _ _ _ h => h) (Or.inl ⟨by rfl, ?_⟩) hHeld ?_ ?_
                 rotate_left; (· rintro w' ⟨s0, s1⟩; go_simp; with_reducible rfl); rotate_left; (· simp only [Act.put, List.setIfInBounds_toArray, List.set_cons_zero, List.set_cons_succ, i64_w, i32_w]; rfl)
                 refine pure_ (i := 10) (N := some 40) (v := ?_) (a' := ?_) #[true,true,true,true,true,true,true,true,true,true,true,false,false,false] rfl rfl (any_of HT_.out (by kernel_rfl)) (fun _ _ _ h => h) (Or.inl ⟨by rfl, ?_⟩) ?_ ?_
                 rotate_left; (· intro w'; go_simp; with_reducible rfl); rotate_left; (· simp only [Act.put, List.setIfInBounds_toArray, List.set_cons_zero, List.set_cons_succ, i64_w, i32_w]; rfl)
                 refine pure_ (i := 11) (N := some 41) (v := ?_) (a' := ?_) #[true,true,true,true,true,true,true,true,true,true,true,true,false,false] rfl rfl (any_of HT_.out (by kernel_rfl)) (fun _ _ _ h => h) (Or.inl ⟨by rfl, ?_⟩) ?_ ?_
                 rotate_left; (· intro w'; go_simp; with_reducible rfl); rotate_left; (· simp only [Act.put, List.setIfInBounds_toArray, List.set_cons_zero, List.set_cons_succ, i64_w, i32_w]; rfl)
                 refine pure_ (i := 12) (N := some 42) (v := ?_) (a' := ?_) #[true,true,true,true,true,true,true,true,true,true,true,true,true,false] rfl rfl (any_of HT_.out (by kernel_rfl)) (fun _ _ _ h => h) (Or.inl ⟨by rfl, ?_⟩) ?_ ?_
                 rotate_left; (· intro w'; go_simp; with_reducible rfl); rotate_left; (· simp only [Act.put, List.setIfInBounds_toArray, List.set_cons_zero, List.set_cons_succ, i64_w, i32_w]; rfl)
                 refine last_ (i := 13) (N := none) #[true,true,true,true,true,true,true,true,true,true,true,true,true,true] rfl rfl (one_of HT_.out (by kernel_rfl)) (by decide) (fun K hK => ?_)
                 refine skip_ (w1 := ?_) (by rfl) rfl ?_ ?_
                 rotate_left
                 ·go_simp
                  rfl
                 refine hK.out _ _ ?_
                 clear hK K
                 refine done_ (done_of HT_.out (by kernel_rfl)) ?_
                 try go_wp2
                 (try simp only [← hl5_2])
                 go_roundg k2
                 case measure => have := HK1.out; have := HK2.out; omega
                 case rel => exact ⟨(y163), (wrap64 (x26_2 + 1)), qDoor11_4, H', ⟨by have := HK1.out; have := HK2.out; omega⟩, ⟨by (try simp only [hl5_2]); (with_reducible repeat (first | apply Kd.R_alloc | apply Kd.R_drewN | apply Kd.R_drew)); exact HQ26.out⟩, ⟨by (try simp only [hl5_2]); (with_reducible repeat (first | apply Kd.R_alloc | apply Kd.R_drewN | apply Kd.R_drew)); exact Kd.R_mono (Kd.R_far (p := ⟨go10, (x15_1 : Int).toNat, none⟩) (Kd.R_mono HO_24.out (fun k_ hk => (⟨hk, fun e_ => hk (by rw [e_]; rfl)⟩ : _ ∧ k_ ≠ go10))) (fun _ hk => hk.2) (.int .i64 ji23)) (fun _ hk => hk.1)⟩, ⟨by repeat (first | (with_reducible first | exact HB.out | apply below_alloc | apply pw_below_drewN | apply below_drew1 | refine below_set ?_ GB10.out) | exact HB.out)⟩⟩
                ·rw [if_neg c22] at H
                 exact absurd H (by simp)
               ·rw [if_neg c21] at H
                exact absurd H (by simp)
              ·rw [if_neg c20] at H
               exact absurd H (by simp)
             ·rw [if_neg c19] at H
              exact absurd H (by simp)
            ·rw [if_neg c18] at H
             exact absurd H (by simp)
           ·rw [if_neg c17] at H
            exact absurd H (by simp)
          ·rw [if_neg c16] at H
           have c16b0 : decide (x26_2 < (t157.length : Int)) = false := decide_eq_false c16
           clear c16
           by_cases c27 : 0 ≤ x15_1
           ·rw [if_pos c27] at H
            have c27b0 : decide (0 ≤ x15_1) = true := decide_eq_true c27
            clear c27
            by_cases c28 : x15_1 < (x5_2.length : Int)
            ·rw [if_pos c28] at H
             have c28b0 : decide (x15_1 < (x5_2.length : Int)) = true := decide_eq_true c28
             clear c28
             obtain ⟨ji29, hji29⟩ : ∃ j_ : Int, (mx x6_1 (rd x5_2 x15_1)) = j_ := ⟨_, rfl⟩
             replace H : (script_nest.l0 k2 l0 l1 x5_2 ji29 (l0.length : Int) (wrap64 (x15_1 + 1))) = some r := by first | (rw [hji29] at H; exact H) | (simp only [hji29] at H ⊢; exact H)
             have hji29_ : (if x6_1 < (rd x5_2 x15_1) then (rd x5_2 x15_1) else x6_1) = ji29 := hji29
             have H' := aK H
             clear H
             have p164 : 0 ≤ (x15_1 : Int) := of_decide_eq_true qDoor11_2
             have q164 : x15_1 < (x5_2.length : Int) := of_decide_eq_true qDoor11_2
             obtain ⟨ad164, e164, hx164_0⟩ := Kd.at_int (Kd.R_reads' HO_5.out).2.2 x15_1 p164 q164
             obtain rfl : (⟨go10, 0, none⟩ : Addr) = ad164 := (by injection e164)
             (first | simp only [add_plain] at hx164_0 | simp only [add_at] at hx164_0 | simp only [Addr.add, Nat.zero_add] at hx164_0 | skip)
             replace p164 := eq_true p164
             replace q164 := eq_true q164
             go_wp2
             (try simp only [← hl5_2])
             go_roundg k2
             case measure => have := HK1.out; have := HK2.out; omega
             case rel => exact ⟨(x5_2), (ji29), (wrap64 (x15_1 + 1)), (by first | rfl | (simp; done) | (simp only [← hji29] <;> (first | rfl | simp)) | (simp [*]; done)), qDoor11_4, H', ⟨by have := HK1.out; have := HK2.out; omega⟩, ⟨by (try simp only [hl5_2]); (with_reducible repeat (first | apply Kd.R_alloc | apply Kd.R_drewN | apply Kd.R_drew)); exact Kd.R_mono HO_5.out (fun _ hk => trivial)⟩, ⟨qDoor11_0⟩⟩
            ·rw [if_neg c28] at H
             exact absurd H (by simp)
           ·rw [if_neg c27] at H
            exact absurd H (by simp)
       ·rw [if_neg c9] at H
        exact absurd H (by simp)
      ·rw [if_neg c8] at H
       exact absurd H (by simp)
     ·rw [if_neg c7] at H
      have c7b0 : decide (x15_1 < (l0.length : Int)) = false := decide_eq_false c7
      clear c7
      obtain rfl := Option.some.inj H
      go_wp2
      go_ret
      exact ⟨qDoor11_3, qDoor11_0⟩
  ·rw [if_neg c4] at H
   exact absurd H (by simp)
 ·rw [if_neg c3] at H
  exact absurd H (by simp)
def script_Nest.f (k : Nat) (l0 : List (S51)) : Option (Int) := (script_begins.f k l0).bind fun t165 => ((script_tree.f l0 t165).bind fun t168 => (if t168 = true then ((script_nest.f k l0 t165).bind fun t169 => (some t169)) else (some 0)))
theorem script_Nest.mono : ∀ a0 k, LeO (script_Nest.f k a0) (script_Nest.f (k + 1) a0) := by
 intro a0 k
 unfold script_Nest.f
 repeat' first
   | (with_reducible exact script_begins.mono _ _)
   | (with_reducible exact script_nest.mono _ _ _)
   | (with_reducible exact LeO.refl _)
   | (with_reducible exact LeO.none _)
   | (with_reducible refine LeO.ite ?_ ?_)
   | (with_reducible refine LeO.bind ?_ (fun _ => ?_))
   | exact script_begins.mono _ _
   | exact script_nest.mono _ _ _
   | exact LeO.none _
   | refine LeO.ite ?_ ?_
   | refine LeO.bind ?_ (fun _ => ?_)
set_option maxHeartbeats 8000000 in
set_option maxRecDepth 100000 in
theorem script_Nest.calls (k : Nat) (A0 : Option Addr) (c0 : Nat) (l0 : List (S51)) (r : Int) (w : World) (hr0 : Kd.C k51 w A0 l0.length l0) (hc0 : l0.length ≤ c0) (h : script_Nest.f k l0 = some r) :
  Calls Tryd.prog 29 #[.slice A0 l0.length c0] w fun e w' => e = .returned (.int .i64 r) ∧ Below w.heap.size w w' := by
 have HR0 := aK hr0; have HC0 := aK hc0; clear hr0 hc0
 have HB := aK (Below.refl w.heap.size w)
 have H : ((script_begins.f k l0).bind fun t165 => ((script_tree.f l0 t165).bind fun t168 => (if t168 = true then ((script_nest.f k l0 t165).bind fun t169 => (some t169)) else (some 0)))) = some r := h
 clear h
 replace H := Option.bind_eq_some_iff.mp H
 obtain ⟨t165, A20, H⟩ := H
 replace H : ((script_tree.f l0 t165).bind fun t168 => (if t168 = true then ((script_nest.f k l0 t165).bind fun t169 => (some t169)) else (some 0))) = some r := H
 have A2 := aK A20; clear A20
 replace H := Option.bind_eq_some_iff.mp H
 obtain ⟨t168, A30, H⟩ := H
 replace H : (if t168 = true then ((script_nest.f k l0 t165).bind fun t169 => (some t169)) else (some 0)) = some r := H
 have A3 := aK A30; clear A30
 by_cases c4 : t168 = true
 ·subst c4
  have H1 : ((script_nest.f k l0 t165).bind fun t169 => (some t169)) = some r := by rw [if_pos rfl] at H; exact H
  clear H
  have H := H1
  clear H1
  replace H := Option.bind_eq_some_iff.mp H
  obtain ⟨t169, A50, H⟩ := H
  replace H : (some t169) = some r := H
  have A5 := aK A50; clear A50
  obtain rfl := Option.some.inj H
  go_enter Tryd.func29, Tryd.ntmps29
  go_wp2_with (first | ((with_reducible refine gate_callee (f := 39) rfl ?_); refine goesL_ (some 5) rfl rfl Tryd.func39 (by kernel_rfl) rfl #[.slice A0 l0.length c0] rfl qDoor11_1 ?_; (with_reducible refine (script_begins.calls k _ _ l0 t165 _ ?side1 ?side2 A2.out).mono ?_); (case side1 => repeat (first | exact HR0.out | (with_reducible refine Kd.C_alloc ?_ _) | (with_reducible refine Kd.C_drewN ?_ _) | (with_reducible refine Kd.C_drew ?_))); (case side2 => exact HC0.out); rintro e w6 ⟨v166, rfl, ho0, hb⟩; refine ⟨_, rfl, ?_⟩; have n0_ := aK (Kd.R_lower ho0 (below_size qDoor11_0)); have n1_ := aK (below_step qDoor11_0 hb); clear HB; have HO167 := n0_; have HB := n1_; clear n0_ n1_; (try clear hb); (try clear hb2); (try clear hk); (try clear hi); (try clear ho0); obtain ⟨Ao7, co7, eo7⟩ := Kd.R_slice HO167.out; subst eo7) | ((with_reducible refine gate_callee (f := 38) rfl ?_); refine goesL_ (some 8) rfl rfl Tryd.func38 (by kernel_rfl) rfl #[.slice A0 l0.length c0, .slice Ao7 t165.length co7] rfl qDoor11_1 ?_; (with_reducible refine (script_tree.calls _ _ l0 _ _ t165 true _ ?side1 ?side2 ?side3 ?side4 A3.out).mono ?_); (case side1 => repeat (first | exact (Kd.C_below HR0.out HB.out) | (with_reducible refine Kd.C_alloc ?_ _) | (with_reducible refine Kd.C_drewN ?_ _) | (with_reducible refine Kd.C_drew ?_))); (case side2 => exact HC0.out); (case side3 => repeat (first | exact (Kd.R_reads' HO167.out).2.2 | (with_reducible refine Kd.C_alloc ?_ _) | (with_reducible refine Kd.C_drewN ?_ _) | (with_reducible refine Kd.C_drew ?_))); (case side4 => exact (Kd.R_reads' HO167.out).2.1); rintro e w' ⟨rfl, ⟨nd, rfl⟩⟩; refine ⟨_, rfl, ?_⟩) | ((with_reducible refine gate_callee (f := 40) rfl ?_); refine goesL_ (some 12) rfl rfl Tryd.func40 (by kernel_rfl) rfl #[.slice A0 l0.length c0, .slice Ao7 t165.length co7] rfl qDoor11_1 ?_; (with_reducible refine (script_nest.calls k _ _ l0 _ _ t165 t169 _ ?side1 ?side2 ?side3 ?side4 A5.out).mono ?_); (case side1 => repeat (first | exact (Kd.C_below HR0.out qDoor11_0) | (with_reducible refine Kd.C_alloc ?_ _) | (with_reducible refine Kd.C_drewN ?_ _) | (with_reducible refine Kd.C_drew ?_))); (case side2 => exact HC0.out); (case side3 => repeat (first | exact (Kd.R_reads' HO167.out).2.2 | (with_reducible refine Kd.C_alloc ?_ _) | (with_reducible refine Kd.C_drewN ?_ _) | (with_reducible refine Kd.C_drew ?_))); (case side4 => exact (Kd.R_reads' HO167.out).2.1); rintro e w8 ⟨rfl, hb⟩; refine ⟨_, rfl, ?_⟩; have n0_ := aK (Kd.R_below (by (with_reducible repeat (first | apply Kd.R_alloc | apply Kd.R_drewN | apply Kd.R_drew)); exact HO167.out) hb); have n1_ := aK (below_step qDoor11_0 hb); clear HO167; clear HB; have HO167 := n0_; have HB := n1_; clear n0_ n1_; (try clear hb); (try clear hb2); (try clear hk); (try clear hi)))
  go_ret
  exact ⟨qDoor11_3, qDoor11_0⟩
 ·replace c4 := Bool.eq_false_iff.mpr c4
  subst c4
  have H1 : (some 0) = some r := by rw [if_neg (show ¬ (false = true) by decide)] at H; exact H
  clear H
  have H := H1
  clear H1
  obtain rfl := Option.some.inj H
  go_enter Tryd.func29, Tryd.ntmps29
  go_wp2_with (first | ((with_reducible refine gate_callee (f := 39) rfl ?_); refine goesL_ (some 5) rfl rfl Tryd.func39 (by kernel_rfl) rfl #[.slice A0 l0.length c0] rfl qDoor11_1 ?_; (with_reducible refine (script_begins.calls k _ _ l0 t165 _ ?side1 ?side2 A2.out).mono ?_); (case side1 => repeat (first | exact HR0.out | (with_reducible refine Kd.C_alloc ?_ _) | (with_reducible refine Kd.C_drewN ?_ _) | (with_reducible refine Kd.C_drew ?_))); (case side2 => exact HC0.out); rintro e w9 ⟨v166, rfl, ho0, hb⟩; refine ⟨_, rfl, ?_⟩; have n0_ := aK (Kd.R_lower ho0 (below_size qDoor11_0)); have n1_ := aK (below_step qDoor11_0 hb); clear HB; have HO167 := n0_; have HB := n1_; clear n0_ n1_; (try clear hb); (try clear hb2); (try clear hk); (try clear hi); (try clear ho0); obtain ⟨Ao10, co10, eo10⟩ := Kd.R_slice HO167.out; subst eo10) | ((with_reducible refine gate_callee (f := 38) rfl ?_); refine goesL_ (some 8) rfl rfl Tryd.func38 (by kernel_rfl) rfl #[.slice A0 l0.length c0, .slice Ao10 t165.length co10] rfl qDoor11_1 ?_; (with_reducible refine (script_tree.calls _ _ l0 _ _ t165 false _ ?side1 ?side2 ?side3 ?side4 A3.out).mono ?_); (case side1 => repeat (first | exact (Kd.C_below HR0.out HB.out) | (with_reducible refine Kd.C_alloc ?_ _) | (with_reducible refine Kd.C_drewN ?_ _) | (with_reducible refine Kd.C_drew ?_))); (case side2 => exact HC0.out); (case side3 => repeat (first | exact (Kd.R_reads' HO167.out).2.2 | (with_reducible refine Kd.C_alloc ?_ _) | (with_reducible refine Kd.C_drewN ?_ _) | (with_reducible refine Kd.C_drew ?_))); (case side4 => exact (Kd.R_reads' HO167.out).2.1); rintro e w' ⟨rfl, ⟨nd, rfl⟩⟩; refine ⟨_, rfl, ?_⟩))
  go_ret
  exact ⟨qDoor11_3, qDoor11_0⟩
end Go.Proofs.YtihiicjnjhideaaDoor.PAll
end
section
namespace Go.Proofs.YtihiicjnjhideaaDoor.Build
open Go.RowKit Go.Proofs.YtihiicjnjhideaaDoorW.PrintWords Go.Proofs.YtihiicjnjhideaaDoor.PAll Go.Proofs.YtihiicjnjhideaaDoor.Core
set_option linter.unusedVariables false
set_option linter.unusedSimpArgs false
section
variable (e : List EN) (hl : e.length ≤ 1048576) (R : List Int) (hR : R.length = e.length) (hb : ∀ j, j < e.length → BegAt e (R.getD j 0) j ∧ ChAt e R (R.getD j 0) j)
include hl hR hb in
theorem parts_loop (i : Nat) (hi : i < e.length) (b : Int) : ∀ (q : Nat) (out : List Int) (a : Int), q ≤ out.length → out.length ≤ 1048576 → 0 ≤ a → a ≤ i → Ch R q a b → (∀ j v, q ≤ j → out[j]? = some v → 0 ≤ v ∧ v < e.length) →
  ∃ o, Ev (fun k => script_parts.l0 k R out a ((q : Int) - 1)) o ∧ o.length = out.length ∧ ∀ v ∈ o, 0 ≤ v ∧ v < (e.length : Int)
 | 0, out, a, hq, ho, ha, hai, hc, hv => ⟨out, by
   refine Ev.step (fun _ => by rw [script_parts.l0]) ?_
   exact Ev.neg (by omega) (Ev.some_ rfl), rfl, fun v hm => by
   obtain ⟨j, hj, rfl⟩ := List.mem_iff_getElem.1 hm
   exact hv j _ (Nat.zero_le _) (List.getElem?_eq_getElem hj)⟩
 | q + 1, out, a, hq, ho, ha, hai, hc, hv => by
  have hp := hc.1
  obtain ⟨a', ha'⟩ : ∃ a' : Nat, a = (a' : Int) + 1 := ⟨a.toNat - 1, by omega⟩
  have hB := (hb a' (by omega)).1
  have hw := aK (show wrap64 (a - 1) = (a' : Int) by rw [ha', show (a' : Int) + 1 - 1 = (a' : Int) by omega, w64] <;> omega)
  have hwq := aK (show wrap64 (((q + 1 : Nat) : Int) - 1 - 1) = (q : Int) - 1 by rw [w64] <;> omega)
  have hrd := aK (show rd R (a' : Int) = R.getD a' 0 by rw [rd, Int.toNat_natCast])
  have hc2 : Ch R q (R.getD a' 0) b := by have := hc.2; rwa [show (a - 1).toNat = a' by omega] at this
  have hlo : q = 0 ∨ 0 ≤ R.getD a' 0 := by
   cases q with
   | zero => exact .inl rfl
   | succ q => exact .inr (by have := hc2.1; omega)
  have go : ∀ c, 0 ≤ c ∨ q = 0 → c ≤ (i : Int) → Ch R q c b → ∃ o, Ev (fun k => script_parts.l0 k R (out.set q (a' : Int)) c ((q : Int) - 1)) o ∧ o.length = out.length ∧ ∀ v ∈ o, 0 ≤ v ∧ v < (e.length : Int) := by
   intro c hc0 hci hcc
   have hv2 : ∀ j v, q ≤ j → (out.set q (a' : Int))[j]? = some v → 0 ≤ v ∧ v < (e.length : Int) := fun j v hj h => by
    rw [List.getElem?_set] at h
    by_cases e1 : q = j
    ·rw [if_pos e1] at h
     split at h
     ·cases h; omega
     ·cases h
    ·rw [if_neg e1] at h
     exact hv j v (by omega) h
   by_cases h0 : 0 ≤ c
   ·obtain ⟨o, h1, h2, h3⟩ := parts_loop i hi b q (out.set q (a' : Int)) c (by rw [List.length_set]; omega) (by rw [List.length_set]; exact ho) h0 hci hcc hv2
    exact ⟨o, h1, by rw [h2, List.length_set], h3⟩
   ·obtain rfl : q = 0 := by rcases hc0 with h | h <;> omega
    refine ⟨out.set 0 (a' : Int), ?_, by rw [List.length_set], fun v hm => ?_⟩
    ·refine Ev.step (fun _ => by rw [script_parts.l0]) ?_
     exact Ev.neg (by omega) (Ev.some_ rfl)
    ·obtain ⟨j, hj, rfl⟩ := List.mem_iff_getElem.1 hm
     exact hv2 j _ (Nat.zero_le _) (List.getElem?_eq_getElem hj)
  obtain ⟨o, h1, h2, h3⟩ := go (R.getD a' 0) (by rcases hlo with h | h; exact .inr h; exact .inl h) (by have := hB.hi; omega) hc2
  refine ⟨o, ?_, h2, h3⟩
  refine Ev.step (fun _ => by rw [script_parts.l0]) ?_
  refine Ev.pos (by omega) (Ev.pos (by omega) (Ev.pos (by omega) ?_))
  rw [hw.out, hwq.out, hrd.out, show (((q + 1 : Nat) : Int) - 1).toNat = q by omega]
  exact Ev.pos (by omega) (Ev.pos (by omega) h1)
include hb in
theorem ch_le : ∀ (k : Nat) (a b : Int), a ≤ (e.length : Int) → Ch R k a b → k ≤ a.toNat
 | 0, _, _, _, _ => Nat.zero_le _
 | k + 1, a, b, ha, h => by
  have hp := h.1
  have hB := (hb (a - 1).toNat (by omega)).1
  have := hB.hi
  have := ch_le k (R.getD (a - 1).toNat 0) b (by omega) h.2
  omega
include hl hR hb in
theorem parts_any (i : Nat) (hi : i < e.length) : ∃ o, Ev (fun k => script_parts.f k e R (i : Int)) o ∧ o.length ≤ 1048576 ∧ ∀ v ∈ o, 0 ≤ v ∧ v < (e.length : Int) := by
 obtain ⟨x, hx⟩ : ∃ x, e[i]? = some x := ⟨_, List.getElem?_eq_getElem hi⟩
 have hrd := aK (show rd_T51 e (i : Int) = x by rw [rd_T51, Int.toNat_natCast, List.getD_eq_getElem?_getD, hx]; rfl)
 have hrr := aK (show rd R (i : Int) = R.getD i 0 by rw [rd, Int.toNat_natCast])
 have nil : Ev (fun k => script_parts.j0 k e R (i : Int) true) [] := by
  refine Ev.step (fun _ => by rw [script_parts.j0]) ?_
  exact Ev.pos rfl (Ev.some_ rfl)
 unfold script_parts.f
 by_cases h0 : R.getD i 0 < 0
 ·refine ⟨[], Ev.neg (by omega) (Ev.neg (by omega) (Ev.pos (by omega) (Ev.pos (by omega) ?_))), Nat.zero_le _, fun v hv => by cases hv⟩
  rw [hrr.out]
  exact Ev.pos h0 nil
 ·obtain ⟨hn, hch⟩ := (hb i hi).2 x hx (by omega)
  obtain ⟨N, hN⟩ : ∃ N : Nat, x.f1 = (N : Int) := ⟨x.f1.toNat, by omega⟩
  rw [hN, Int.toNat_natCast] at hch
  have hle := ch_le e R hb N (i : Int) _ (by omega) hch
  by_cases hz : N = 0
  ·refine ⟨[], Ev.neg (by omega) (Ev.neg (by omega) (Ev.pos (by omega) (Ev.pos (by omega) ?_))), Nat.zero_le _, fun v hv => by cases hv⟩
   rw [hrr.out, hrd.out, show (x.f1 == 0) = true from beq_iff_eq.2 (by omega)]
   exact Ev.neg h0 (Ev.pos (by omega) nil)
  ·obtain ⟨o, h1, h2, h3⟩ := parts_loop e hl R hR hb i hi _ N (List.replicate N 0) (i : Int) (by rw [List.length_replicate]; exact Nat.le_refl _) (by rw [List.length_replicate]; omega) (by omega) (Int.le_refl _) hch (fun j v hj hv => by rw [List.getElem?_replicate, if_neg (by omega)] at hv; cases hv)
   have hw := aK (show wrap64 ((N : Int) - 1) = (N : Int) - 1 by rw [w64] <;> omega)
   refine ⟨o, Ev.neg (by omega) (Ev.neg (by omega) (Ev.pos (by omega) (Ev.pos (by omega) ?_))), by rw [h2, List.length_replicate]; omega, h3⟩
   rw [hrr.out, hrd.out, show (x.f1 == 0) = false from beq_eq_false_iff_ne.2 (by omega)]
   refine Ev.neg h0 (Ev.pos (by omega) ?_)
   refine Ev.step (fun _ => by rw [script_parts.j0]) ?_
   rw [hrd.out, hN, Int.toNat_natCast]
   refine Ev.neg (by simp) (Ev.pos (by omega) (Ev.pos (by omega) (Ev.pos (by omega) (Ev.pos (by omega) ?_))))
   simp only [Option.bind_some, List.length_replicate]
   rw [hw.out]
   exact h1
theorem nest_inner (i m : Nat) (hi : i < m) (o : List Int) (ho : o.length ≤ 1048576) (ho2 : ∀ v ∈ o, 0 ≤ v ∧ v < (m : Int)) (w x14 : Int) (hnext : ∀ (D : List Int) (u : Int), D.length = m → ∃ v, Ev (fun k => script_nest.l0 k e R D u x14 (wrap64 ((i : Int) + 1))) v) : ∀ (d j : Nat) (D : List Int), j + d = o.length → D.length = m → ∃ v, Ev (fun k => script_nest.l1 k e R D w (i : Int) x14 (i : Int) o (o.length : Int) (j : Int)) v
 | 0, j, D, hj, hD => by
  obtain ⟨v, hv⟩ := hnext D (mx w (rd D (i : Int))) hD
  refine ⟨v, Ev.step (fun _ => by rw [script_nest.l1]) ?_⟩
  exact Ev.neg (by omega) (Ev.pos (by omega) (Ev.pos (by omega) hv))
 | d + 1, j, D, hj, hD => by
  have hlt : j < o.length := by omega
  have hw := aK (show wrap64 ((j : Int) + 1) = ((j + 1 : Nat) : Int) by rw [w64] <;> omega)
  have hrd := aK (show rd o (j : Int) = o[j] by rw [rd, Int.toNat_natCast, List.getD_eq_getElem?_getD, List.getElem?_eq_getElem hlt]; rfl)
  have h2 := ho2 _ (List.getElem_mem hlt)
  obtain ⟨y, hy⟩ : ∃ y, o[j] = y := ⟨_, rfl⟩
  rw [hy] at h2
  have hrd2 := aK (hrd.out.trans hy)
  clear hrd
  obtain ⟨v, hv⟩ := nest_inner i m hi o ho ho2 w x14 hnext d (j + 1) (D.set i (mx (rd D (i : Int)) (wrap64 (rd D y + 1)))) (by omega) (by rw [List.length_set]; exact hD)
  refine ⟨v, Ev.step (fun _ => by rw [script_nest.l1]) ?_⟩
  rw [hrd2.out, hw.out, Int.toNat_natCast]
  exact Ev.pos (by omega) (Ev.pos (by omega) (Ev.pos (by omega) (Ev.pos (by omega) (Ev.pos (by omega) (Ev.pos (by omega) (Ev.pos (by omega) hv))))))
include hl hR hb in
theorem nest_loop : ∀ (d i : Nat) (D : List Int) (u : Int), i + d = e.length → D.length = e.length → ∃ v, Ev (fun k => script_nest.l0 k e R D u (e.length : Int) (i : Int)) v
 | 0, i, D, u, hi, hD => ⟨u, by
   refine Ev.step (fun _ => by rw [script_nest.l0]) ?_
   exact Ev.neg (by omega) (Ev.some_ rfl)⟩
 | d + 1, i, D, u, hi, hD => by
  obtain ⟨o, h1, h2, h3⟩ := parts_any e hl R hR hb i (by omega)
  have hw := aK (show wrap64 ((i : Int) + 1) = ((i + 1 : Nat) : Int) by rw [w64] <;> omega)
  obtain ⟨v, hv⟩ := nest_inner e R i e.length (by omega) o h2 h3 u (e.length : Int) (fun D u hD => by rw [hw.out]; exact nest_loop d (i + 1) D u (by omega) hD) o.length 0 (D.set i 1) (by omega) (by rw [List.length_set]; exact hD)
  refine ⟨v, Ev.step (fun _ => by rw [script_nest.l0]) ?_⟩
  refine Ev.pos (by omega) (Ev.pos (by omega) (Ev.pos (by omega) (Ev.bind h1 ?_)))
  rwa [Int.toNat_natCast]
end
theorem nest_any (e : List EN) (hl : e.length ≤ 1048576) : ∃ v, Ev (fun k => script_Nest.f k e) v := by
 obtain ⟨R, h1, h2, h3⟩ := begins_any e hl
 obtain ⟨b, h4, _⟩ := tree_any e hl R h2 h3
 unfold script_Nest.f
 cases b with
 | false =>
  refine ⟨0, Ev.bind h1 ?_⟩
  rw [h4]
  exact Ev.some_ rfl
 | true =>
  obtain ⟨v, hv⟩ := nest_loop e hl R h2 h3 e.length 0 (List.replicate e.length 0) 0 (by omega) (by simp)
  refine ⟨v, Ev.bind h1 ?_⟩
  rw [h4]
  show Ev (fun n => if true = true then (script_nest.f n e R).bind fun t169 => some t169 else some 0) v
  refine Ev.pos rfl (Ev.bind ?_ (Ev.some_ rfl))
  unfold script_nest.f
  refine Ev.pos (by omega) (Ev.pos (by omega) ?_)
  rw [Int.toNat_natCast]
  exact hv
end Go.Proofs.YtihiicjnjhideaaDoor.Build
end
