/- Parts of the proof of coreGrammars: KeptCore, Ev, PAllx7. No condition beyond each lemma's own. -/
import Derived.BigQuiet
import Derived.Deep.QuietTactic
import Derived.Deep.RegionHeld3
import Derived.IntWalk
import Derived.WalkKit
import Derived.Test.YtebiogaacikphaaTG0
import Derived.Test.YtebiogaacikphaaTG4
import Derived.Test.YtebiogaacikphaaTG5
import Derived.Test.YtebiogaacikphaaTG8
section
namespace Go.Proofs.Ytebiogaacikphaa.Core
open Go.RowKit Go.Proofs.YtebiogaacikphaaW.PrintWords Go.Proofs.Ytebiogaacikphaa.PAll
set_option linter.unusedVariables false
set_option linter.unusedSimpArgs false
/-- What the walk of KeptCore keeps: the two boxes, what was lent, what is old. -/
structure KI (w : World) (gb gc gR : Nat) (G : List Nat) (A : Option Addr) (c : Nat) (st : Int) (l : List (S30)) (W : World) : Prop where
  b1 : W.heap[gb]? = some (.cells #[.slice (some ⟨gR, 0, none⟩) l.length (l.length + 1), .int .i64 st] 24 (0, 0))
  b2 : W.heap[gc]? = some (.cells #[.slice A l.length c, .int .i64 st] 24 (0, 0))
  lent : Lent W gR G l
  rd : Kd.C k30 W A l.length l
  old : Below w.heap.size w W
section
variable {w W W' : World} {gb gc gR : Nat} {G : List Nat} {A : Option Addr} {c : Nat} {st : Int} {l : List (S30)}
theorem KI.below (h : KI w gb gc gR G A c st l W) (hb : Below W.heap.size W W') : KI w gb gc gR G A c st l W' :=
  ⟨blk_below h.b1 hb, blk_below h.b2 hb, h.lent.below hb, Kd.C_below h.rd hb, below_step h.old hb⟩
theorem KI.c10 (h : KI w gb gc gR G A c st l W) : W.cell? ⟨gb, 0, none⟩ = some (.slice (some ⟨gR, 0, none⟩) l.length (l.length + 1)) := (blk_cell h.b1 0).trans rfl
theorem KI.c11 (h : KI w gb gc gR G A c st l W) : W.cell? ⟨gb, 1, none⟩ = some (.int .i64 st) := (blk_cell h.b1 1).trans rfl
theorem KI.c20 (h : KI w gb gc gR G A c st l W) : W.cell? ⟨gc, 0, none⟩ = some (.slice A l.length c) := (blk_cell h.b2 0).trans rfl
theorem KI.c21 (h : KI w gb gc gR G A c st l W) : W.cell? ⟨gc, 1, none⟩ = some (.int .i64 st) := (blk_cell h.b2 1).trans rfl
theorem KI.ch (h : KI w gb gc gR G A c st l W) : W.cell? ⟨gR, l.length * 2, none⟩ = some (.string holder) := by
  have hlen : (lentCells l G).length = l.length * 2 := lentCells_length _ _ h.lent.bodies.1
  rw [h.lent.rules.cell, List.getElem?_append_right (by omega), hlen, Nat.sub_self]
  rfl
theorem KI.ofRule (h : KI w gb gc gR G A c st l W) {i : Nat} (hi : i < l.length) : ∃ g, W.cell? ⟨gR, i * 2 + 1, none⟩ = some (.slice (some ⟨g, 0, none⟩) l[i].f1.length (l[i].f1.length + 1)) ∧ W.cell? ⟨g, l[i].f1.length * 7, none⟩ = some (.int .i64 (-77)) := by
  have hb := h.lent.bodies
  have hlen : (lentCells l G).length = l.length * 2 := lentCells_length _ _ hb.1
  have hg : i < G.length := by rw [hb.1]; exact hi
  refine ⟨G[i], ?_, ?_⟩
  · rw [h.lent.rules.cell, List.getElem?_append_left (by omega), lentCells_get l G i 1 l[i] G[i] (List.getElem?_eq_getElem hi) (List.getElem?_eq_getElem hg) (by decide)]
    rfl
  · have hr := hb.2 i l[i] G[i] (List.getElem?_eq_getElem hi) (List.getElem?_eq_getElem hg)
    have hf : (l[i].f1.flatMap nodeCells).length = l[i].f1.length * 7 := flatNode.all l[i].f1
    rw [hr.cell, List.getElem?_append_right (by omega), hf, Nat.sub_self]
    rfl
theorem KI.all (h : KI w gb gc gR G A c st l W) : W.cell? ⟨gb, 0, none⟩ = some (.slice (some ⟨gR, 0, none⟩) l.length (l.length + 1)) ∧ W.cell? ⟨gb, 1, none⟩ = some (.int .i64 st) ∧ W.cell? ⟨gc, 0, none⟩ = some (.slice A l.length c) ∧ W.cell? ⟨gc, 1, none⟩ = some (.int .i64 st) ∧ W.cell? ⟨gR, l.length * 2, none⟩ = some (.string holder) ∧ KI w gb gc gR G A c st l W :=
  ⟨h.c10, h.c11, h.c20, h.c21, h.ch, h⟩
end
set_option maxHeartbeats 1000000 in
set_option maxRecDepth 100000 in
theorem KeptCore_calls (k : Nat) (gR : Nat) (G : List Nat) (A : Option Addr) (c : Nat) (l : List (S30)) (st : Int) (w : World) (hlent : Lent w gR G l) (hr : Kd.C k30 w A l.length l) (hc : l.length ≤ c) (hn : l.length ≤ 65536) (hm : ∀ r ∈ l, r.f1.length ≤ 1048576)
    (hsame : dowelbook_Cores.f k l st l st = some true) :
    Calls Try.prog 21 #[.agg #[.slice (some ⟨gR, 0, none⟩) l.length (l.length + 1), .int .i64 st], .agg #[.slice A l.length c, .int .i64 st]] w fun e w' => e = .returned (.bool true) ∧ Below w.heap.size w w' := by
  have HR := Aside0.mk hr
  have HL := Aside0.mk hlent
  have HC := Aside0.mk hc
  have HM := Aside0.mk hm
  have HS := Aside0.mk hsame
  have q1 : (l.length : Int) ≤ 65536 := by omega
  clear hr hc hm hlent hsame
  go_enter Try.func21, Try.ntmps21
  go_wp2_with (first
    | ((with_reducible refine gate_dst (N := 2) rfl ?_); refine box_event (N := 2) rfl rfl (cs := #[.slice (some ⟨gR, 0, none⟩) l.length (l.length + 1), .int .i64 st]) (t := 24) ?hr1 ?_; (case hr1 => first | (go_simp; done) | (go_simp; rfl)); intro gb hgb w1 hbox hb1; have HX := Aside0.mk hbox; have HB := Aside0.mk hb1; have HG := Aside0.mk (show gb < w1.heap.size from blk_lt hbox); clear hbox hb1 hgb)
    | ((with_reducible refine gate_dst (N := 3) rfl ?_); refine box_event (N := 3) rfl rfl (cs := #[.slice A l.length c, .int .i64 st]) (t := 24) ?hr2 ?_; (case hr2 => first | (go_simp; done) | (go_simp; rfl)); intro gc hgc w2 hbox hb2; have HI := Aside0.mk (show KI w gb gc gR G A c st l w2 from ⟨blk_below HX.out hb2, hbox, (HL.out.below HB.out).below hb2, Kd.C_below (Kd.C_below HR.out HB.out) hb2, below_step HB.out hb2⟩); clear HX HB hbox hb2 hgc))
  have hw1 : IntKind.i64.wrap ((l.length : Int) + 1) = (l.length : Int) + 1 := IntWalk.i64_in _ (by omega)
  have hsl : ∀ W : World, (Instr.slice 22 (.slice (some ⟨gR, 0, none⟩) l.length (l.length + 1)) none (some (.int .i64 ((l.length : Int) + 1))) none).run Try.prog W = .ok (.slice (some ⟨gR, 0, none⟩) (l.length + 1) (l.length + 1)) W :=
    fun W => run_slice_own (P := Try.prog) (t := 22) (size := 2) rfl szRule gR l.length (l.length + 1) (l.length + 1) (by omega) W
  have hix : ∀ W : World, (Instr.indexAt 22 (.slice (some ⟨gR, 0, none⟩) (l.length + 1) (l.length + 1)) (.int .i64 (l.length : Int))).run Try.prog W = .ok (.pointer (some ⟨gR, l.length * 2, none⟩)) W :=
    fun W => run_indexAt_own (P := Try.prog) (t := 22) (size := 2) Try.underlying22 szRule gR (l.length + 1) (l.length + 1) l.length (by omega) W
  have hh : (!(holder.toList == ([45, 104, 111, 108, 100, 101, 114, 45] : List UInt8))) = false := by rw [ByteArray.toList_eq]; rfl
  have hS0 := HI.out
  go_region_held3 (fun w' => w'.cell? ⟨gb, 0, none⟩ = some (.slice (some ⟨gR, 0, none⟩) l.length (l.length + 1)) ∧ w'.cell? ⟨gb, 1, none⟩ = some (.int .i64 st) ∧ w'.cell? ⟨gc, 0, none⟩ = some (.slice A l.length c) ∧ w'.cell? ⟨gc, 1, none⟩ = some (.int .i64 st) ∧ w'.cell? ⟨gR, l.length * 2, none⟩ = some (.string holder) ∧ KI w gb gc gR G A c st l w')
    ((refine KI.all ?_; first | assumption | exact hS0.below (below_drew (Below.refl _ _))))
    (first | (go_at_call 49; go_split_ands; refine (dowelbook_Cores.calls k (some ⟨gR, 0, none⟩) (l.length + 1) l st A c l st true _ (by (rename_i hki); exact hki.lent.reads (by omega) (fun r hr => by have := HM.out r hr; omega)) (by omega) (by (rename_i hki); exact hki.rd) HC.out HS.out).mono ?_; rintro e w3 ⟨rfl, hb3⟩; have hS2 := KI.below (by assumption) hb3))
  clear hS0 HI hsl hix hh hb3
  have HI := Aside0.mk hS2
  clear hS2
  go_wp2
  go_loopw [5] (fun v wr => ∃ (i : Nat), v = .int .i64 i ∧ i ≤ l.length ∧ Aside0 (KI w gb gc gR G A c st l wr)) (fun v _ => l.length - (intOf v).toNat)
  case atStart => exact ⟨0, rfl, Nat.zero_le _, HI⟩
  case round =>
    clear HI
    obtain ⟨i, rfl, hi, HI⟩ := hrel
    have h10 := HI.out.c10
    have h20 := HI.out.c20
    by_cases c1 : i < l.length
    · obtain ⟨ad, A1, c1', e, hx0, hx1, hl1, hi1⟩ := at_T30 HI.out.rd (i : Int) (by omega) (by omega)
      cases e
      rw [Int.toNat_natCast] at hx0 hx1
      have hrho : rd_T30 l (i : Int) = l[i] := by
        rw [rd_T30, Int.toNat_natCast, List.getD_eq_getElem?_getD, List.getElem?_eq_getElem c1]
        rfl
      rw [hrho] at hx0 hx1 hl1 hi1
      obtain ⟨g, hg1, hg2⟩ := HI.out.ofRule c1
      have HM1 := HM.out l[i] (List.getElem_mem _)
      generalize l[i] = rho at *
      clear hrho hi1 hl1 hx0
      have q3 : (rho.f1.length : Int) ≤ 1048576 := by omega
      have hw2 : IntKind.i64.wrap ((rho.f1.length : Int) + 1) = (rho.f1.length : Int) + 1 := IntWalk.i64_in _ (by omega)
      have hw3 : IntKind.i64.wrap (rho.f1.length : Int) = (rho.f1.length : Int) := IntWalk.i64_in _ (by omega)
      have hsl : ∀ W : World, (Instr.slice 25 (.slice (some ⟨g, 0, none⟩) rho.f1.length (rho.f1.length + 1)) none (some (.int .i64 ((rho.f1.length : Int) + 1))) none).run Try.prog W = .ok (.slice (some ⟨g, 0, none⟩) (rho.f1.length + 1) (rho.f1.length + 1)) W :=
        fun W => run_slice_own (P := Try.prog) (t := 25) (size := 7) rfl szNode g rho.f1.length (rho.f1.length + 1) (rho.f1.length + 1) (by omega) W
      have hix : ∀ W : World, (Instr.indexAt 25 (.slice (some ⟨g, 0, none⟩) (rho.f1.length + 1) (rho.f1.length + 1)) (.int .i64 (rho.f1.length : Int))).run Try.prog W = .ok (.pointer (some ⟨g, rho.f1.length * 7, none⟩)) W :=
        fun W => run_indexAt_own (P := Try.prog) (t := 25) (size := 7) Try.underlying25 szNode g (rho.f1.length + 1) (rho.f1.length + 1) rho.f1.length (by omega) W
      have hix2 : ∀ W : World, (Instr.indexAt 22 (.slice (some ⟨gR, 0, none⟩) l.length (l.length + 1)) (.int .i64 (i : Int))).run Try.prog W = .ok (.pointer (some ⟨gR, i * 2, none⟩)) W :=
        fun W => run_indexAt_own (P := Try.prog) (t := 22) (size := 2) Try.underlying22 szRule gR l.length (l.length + 1) i (by omega) W
      go_wp2
      go_quiet (fail)
      have n1_ := Aside0.mk (HI.out.below (pw_below_drewN (Below.refl wr.heap.size wr) nq))
      clear HI
      have HI := n1_
      clear n1_
      go_wp2
      go_roundw
      case rel => exact ⟨i + 1, by go_num, by omega, HI⟩
      case measure => simp [intOf]; omega
    · go_wp2
      go_ret
      exact ⟨rfl, HI.out.old⟩
end Go.Proofs.Ytebiogaacikphaa.Core
end
section
namespace Go.Proofs.YtebiogaacikphaaW.PrintWords
open Go.RowKit
theorem Ev.pos {α : Type} {c : Prop} [Decidable c] {g f : Nat → Option α} {r : α} (h : c) (k : Ev g r) : Ev (fun n => if c then g n else f n) r := Ev.congr (fun _ => if_pos h) k
theorem Ev.neg {α : Type} {c : Prop} [Decidable c] {g f : Nat → Option α} {r : α} (h : ¬ c) (k : Ev f r) : Ev (fun n => if c then g n else f n) r := Ev.congr (fun _ => if_neg h) k
theorem Ev.ite {α : Type} {c : Prop} [Decidable c] {g f : Nat → Option α} {r : α} (h : c → Ev g r) (k : ¬ c → Ev f r) : Ev (fun n => if c then g n else f n) r := by
  by_cases hc : c
  · exact Ev.pos hc (h hc)
  · exact Ev.neg hc (k hc)
theorem Ev.some_ {α : Type} {r r' : α} (h : r = r') : Ev (fun _ => some r) r' := h ▸ Ev.now r
theorem Ev.const {α : Type} {o : Option α} {r : α} (h : o = some r) : Ev (fun _ => o) r := h ▸ Ev.now r
theorem Ev.to {α : Type} {g : Nat → Option α} {r r' : α} (h : Ev g r) (e : r = r') : Ev g r' := e ▸ h
theorem w64 {x : Int} (h0 : -9223372036854775808 ≤ x) (h1 : x ≤ 9223372036854775807) : wrap64 x = x := by
  unfold wrap64
  omega
theorem bt_nat (s : ByteArray) (i : Nat) (h : i < s.data.toList.length) : bt s (i : Int) = ((s.data.toList[i]).toNat : Int) := by
  have h' : i < s.size := by rw [data_length] at h; exact h
  simp [bt, h']
  rfl
theorem size_list (s : ByteArray) : s.size = s.data.toList.length := (data_length s).symm
end Go.Proofs.YtebiogaacikphaaW.PrintWords
end
section
namespace Go.Proofs.Ytebiogaacikphaa.PAll
open Go.RowKit Go.Proofs.YtebiogaacikphaaW.PrintWords Go.Proofs.YtebiogaacikphaaW.PrintLast Go.Proofs.YtebiogaacikphaaW.PrintMore
attribute [local go_sem] max2_int max_two
set_option linter.unusedVariables false
set_option linter.unusedSimpArgs false
theorem q7_2 {p : Prop} (h : p := by first | (with_reducible assumption) | assumption) : p := h
theorem q7_1 {p : Prop} (h : p := by first | rfl | (simp; done) | (simp [*]; done)) : p := h
theorem q7_0 {p : Prop} (h : p := by repeat (first | exact Drawn0.refl _ | apply Drawn0.step)) : p := h
def dowelref04_letter.f (a0 : Int) : Option (Bool) := if a0 ≥ 97 then (if a0 ≤ 122 then (some true) else (if a0 ≥ 65 then (if a0 ≤ 90 then (some true) else (some (a0 == 95))) else (some (a0 == 95)))) else (if a0 ≥ 65 then (if a0 ≤ 90 then (some true) else (some (a0 == 95))) else (some (a0 == 95)))
set_option maxHeartbeats 8000000 in
set_option maxRecDepth 100000 in
theorem dowelref04_letter.calls (a0 : Int) (r : Bool) (w : World) (h : dowelref04_letter.f a0 = some r) :
  Calls Try.prog 112 #[.int .u8 a0] w fun e w' => e = .returned (.bool r) ∧ Drawn0 w w' := by
 have H : (if a0 ≥ 97 then (if a0 ≤ 122 then (some true) else (if a0 ≥ 65 then (if a0 ≤ 90 then (some true) else (some (a0 == 95))) else (some (a0 == 95)))) else (if a0 ≥ 65 then (if a0 ≤ 90 then (some true) else (some (a0 == 95))) else (some (a0 == 95)))) = some r := h
 clear h
 by_cases c2 : a0 ≥ 97
 ·rw [if_pos c2] at H
  have c2b0 : decide (97 ≤ a0) = true := decide_eq_true c2
  clear c2
  by_cases c3 : a0 ≤ 122
  ·rw [if_pos c3] at H
   have c3b0 : decide (a0 ≤ 122) = true := decide_eq_true c3
   clear c3
   obtain rfl := Option.some.inj H
   go_enter Try.func112, Try.ntmps112
   go_wp2
   go_ret
   exact ⟨q7_1, q7_0⟩
  ·rw [if_neg c3] at H
   have c3b0 : decide (a0 ≤ 122) = false := decide_eq_false c3
   clear c3
   by_cases c4 : a0 ≥ 65
   ·rw [if_pos c4] at H
    have c4b0 : decide (65 ≤ a0) = true := decide_eq_true c4
    clear c4
    by_cases c5 : a0 ≤ 90
    ·rw [if_pos c5] at H
     have c5b0 : decide (a0 ≤ 90) = true := decide_eq_true c5
     clear c5
     obtain rfl := Option.some.inj H
     go_enter Try.func112, Try.ntmps112
     go_wp2
     go_ret
     exact ⟨q7_1, q7_0⟩
    ·rw [if_neg c5] at H
     have c5b0 : decide (a0 ≤ 90) = false := decide_eq_false c5
     clear c5
     obtain rfl := Option.some.inj H
     go_enter Try.func112, Try.ntmps112
     go_wp2
     go_ret
     exact ⟨q7_1, q7_0⟩
   ·rw [if_neg c4] at H
    have c4b0 : decide (65 ≤ a0) = false := decide_eq_false c4
    clear c4
    obtain rfl := Option.some.inj H
    go_enter Try.func112, Try.ntmps112
    go_wp2
    go_ret
    exact ⟨q7_1, q7_0⟩
 ·rw [if_neg c2] at H
  have c2b0 : decide (97 ≤ a0) = false := decide_eq_false c2
  clear c2
  by_cases c6 : a0 ≥ 65
  ·rw [if_pos c6] at H
   have c6b0 : decide (65 ≤ a0) = true := decide_eq_true c6
   clear c6
   by_cases c7 : a0 ≤ 90
   ·rw [if_pos c7] at H
    have c7b0 : decide (a0 ≤ 90) = true := decide_eq_true c7
    clear c7
    obtain rfl := Option.some.inj H
    go_enter Try.func112, Try.ntmps112
    go_wp2
    go_ret
    exact ⟨q7_1, q7_0⟩
   ·rw [if_neg c7] at H
    have c7b0 : decide (a0 ≤ 90) = false := decide_eq_false c7
    clear c7
    obtain rfl := Option.some.inj H
    go_enter Try.func112, Try.ntmps112
    go_wp2
    go_ret
    exact ⟨q7_1, q7_0⟩
  ·rw [if_neg c6] at H
   have c6b0 : decide (65 ≤ a0) = false := decide_eq_false c6
   clear c6
   obtain rfl := Option.some.inj H
   go_enter Try.func112, Try.ntmps112
   go_wp2
   go_ret
   exact ⟨q7_1, q7_0⟩
def dowelref04_digit.f (a0 : Int) : Option (Bool) := if a0 ≥ 48 then (some (decide (a0 ≤ 57))) else (some false)
set_option maxHeartbeats 8000000 in
set_option maxRecDepth 100000 in
theorem dowelref04_digit.calls (a0 : Int) (r : Bool) (w : World) (h : dowelref04_digit.f a0 = some r) :
  Calls Try.prog 113 #[.int .u8 a0] w fun e w' => e = .returned (.bool r) ∧ Drawn0 w w' := by
 have H : (if a0 ≥ 48 then (some (decide (a0 ≤ 57))) else (some false)) = some r := h
 clear h
 by_cases c2 : a0 ≥ 48
 ·rw [if_pos c2] at H
  have c2b0 : decide (48 ≤ a0) = true := decide_eq_true c2
  clear c2
  obtain rfl := Option.some.inj H
  go_enter Try.func113, Try.ntmps113
  go_wp2
  go_ret
  exact ⟨q7_1, q7_0⟩
 ·rw [if_neg c2] at H
  have c2b0 : decide (48 ≤ a0) = false := decide_eq_false c2
  clear c2
  obtain rfl := Option.some.inj H
  go_enter Try.func113, Try.ntmps113
  go_wp2
  go_ret
  exact ⟨q7_1, q7_0⟩
mutual
def dowelref04_own.j0 : Nat → ByteArray → Int → Bool → Option (Int)
 | 0, _, _, _ => none
 | k + 1, x0, x1, x16 => if x16 = true then (some x1) else (dowelref04_own.l0 k x0 x1)
def dowelref04_own.l0 : Nat → ByteArray → Int → Option (Int)
 | 0, _, _ => none
 | k + 1, x0, x5 => if x5 < (x0.size : Int) then (if 0 ≤ x5 then ((dowelref04_letter.f (bt x0 x5)).bind fun t108 => (if t108 = true then (dowelref04_own.l0 k x0 (wrap64 (x5 + 1))) else ((dowelref04_digit.f (bt x0 x5)).bind fun t109 => (if t109 = true then (dowelref04_own.l0 k x0 (wrap64 (x5 + 1))) else (some x5))))) else (none)) else (some x5)
end
def dowelref04_own.f (k : Nat) (a0 : ByteArray) (a1 : Int) : Option (Int) := if a1 ≥ (a0.size : Int) then (dowelref04_own.j0 k a0 a1 true) else (if 0 ≤ a1 then (if a1 < (a0.size : Int) then ((dowelref04_letter.f (bt a0 a1)).bind fun t107 => (dowelref04_own.j0 k a0 a1 (!t107))) else (none)) else (none))
theorem dowelref04_own.mono_l : ∀ k, (∀ y0 y1 y2, LeO (dowelref04_own.j0 k y0 y1 y2) (dowelref04_own.j0 (k + 1) y0 y1 y2)) ∧ (∀ y0 y1, LeO (dowelref04_own.l0 k y0 y1) (dowelref04_own.l0 (k + 1) y0 y1))
 | 0 => ⟨fun _ _ _ r h => by simp [dowelref04_own.j0] at h, fun _ _ r h => by simp [dowelref04_own.l0] at h⟩
 | k + 1 => by
  obtain ⟨ih0, ih1⟩ := dowelref04_own.mono_l k
  refine ⟨?_, ?_⟩
  ·intro y0 y1 y2
   unfold dowelref04_own.j0
   repeat' first
   | (with_reducible exact ih0 _ _ _)
   | (with_reducible exact ih1 _ _)
   | (with_reducible exact LeO.refl _)
   | (with_reducible exact LeO.none _)
   | (with_reducible refine LeO.ite ?_ ?_)
   | (with_reducible refine LeO.bind ?_ (fun _ => ?_))
   | exact ih0 _ _ _
   | exact ih1 _ _
   | exact LeO.none _
   | refine LeO.ite ?_ ?_
   | refine LeO.bind ?_ (fun _ => ?_)
  ·intro y0 y1
   unfold dowelref04_own.l0
   repeat' first
   | (with_reducible exact ih0 _ _ _)
   | (with_reducible exact ih1 _ _)
   | (with_reducible exact LeO.refl _)
   | (with_reducible exact LeO.none _)
   | (with_reducible refine LeO.ite ?_ ?_)
   | (with_reducible refine LeO.bind ?_ (fun _ => ?_))
   | exact ih0 _ _ _
   | exact ih1 _ _
   | exact LeO.none _
   | refine LeO.ite ?_ ?_
   | refine LeO.bind ?_ (fun _ => ?_)
theorem dowelref04_own.mono : ∀ a0 a1 k, LeO (dowelref04_own.f k a0 a1) (dowelref04_own.f (k + 1) a0 a1) := by
 intro a0 a1 k
 obtain ⟨ih0, ih1⟩ := dowelref04_own.mono_l k
 unfold dowelref04_own.f
 repeat' first
   | (with_reducible exact ih0 _ _ _)
   | (with_reducible exact ih1 _ _)
   | (with_reducible exact LeO.refl _)
   | (with_reducible exact LeO.none _)
   | (with_reducible refine LeO.ite ?_ ?_)
   | (with_reducible refine LeO.bind ?_ (fun _ => ?_))
   | exact ih0 _ _ _
   | exact ih1 _ _
   | exact LeO.none _
   | refine LeO.ite ?_ ?_
   | refine LeO.bind ?_ (fun _ => ?_)
set_option maxHeartbeats 8000000 in
set_option maxRecDepth 100000 in
theorem dowelref04_own.calls (k : Nat) (a0 : ByteArray) (a1 : Int) (r : Int) (w : World) (h : dowelref04_own.f k a0 a1 = some r) :
  Calls Try.prog 102 #[.string a0, .int .i64 a1] w fun e w' => e = .returned (.int .i64 r) ∧ Drawn0 w w' := by
 have H : (if a1 ≥ (a0.size : Int) then (dowelref04_own.j0 k a0 a1 true) else (if 0 ≤ a1 then (if a1 < (a0.size : Int) then ((dowelref04_letter.f (bt a0 a1)).bind fun t107 => (dowelref04_own.j0 k a0 a1 (!t107))) else (none)) else (none))) = some r := h
 clear h; have HC3 := Aside0.mk H; clear H
 go_enter Try.func102, Try.ntmps102
 go_upto_region 1 with (fail)
 go_cut [16] (fun v16 wc => ∃ (kq : Nat) (x16_2 : Bool), v16 = .bool x16_2 ∧ Aside0 (dowelref04_own.j0 kq a0 a1 x16_2 = some r) ∧ Aside0 (kq ≤ k) ∧ Drawn0 w wc)
 case first =>
  have H := HC3.out
  clear HC3
  by_cases c4 : a1 ≥ (a0.size : Int)
  ·rw [if_pos c4] at H
   have c4b0 : decide ((a0.size : Int) ≤ a1) = true := decide_eq_true c4
   clear c4
   (first | rw [c4b0] | (simp only [i64_w, i32_w]; rw [c4b0]) | skip)
   have H' := Aside0.mk H
   clear H
   go_wp2
   go_meet
   case rel => exact ⟨_, (true), q7_1, H', ⟨by first | omega | exact Nat.le_refl _⟩, q7_0⟩
  ·rw [if_neg c4] at H
   have c4b0 : decide ((a0.size : Int) ≤ a1) = false := decide_eq_false c4
   clear c4
   (first | rw [c4b0] | (simp only [i64_w, i32_w]; rw [c4b0]) | skip)
   by_cases c5 : 0 ≤ a1
   ·rw [if_pos c5] at H
    have c5b0 : decide (0 ≤ a1) = true := decide_eq_true c5
    clear c5
    by_cases c6 : a1 < (a0.size : Int)
    ·rw [if_pos c6] at H
     have c6b0 : decide (a1 < (a0.size : Int)) = true := decide_eq_true c6
     clear c6
     replace H := Option.bind_eq_some_iff.mp H
     obtain ⟨t107, A80, H⟩ := H
     replace H : (dowelref04_own.j0 k a0 a1 (!t107)) = some r := H
     have A8 := Aside0.mk A80; clear A80
     have H' := Aside0.mk H
     clear H
     have p7 : 0 ≤ (a1 : Int) := of_decide_eq_true q7_2
     have q7 : a1 < (a0.size : Int) := of_decide_eq_true q7_2
     have hx7 := bt_at a0 a1
     replace p7 := eq_true p7
     replace q7 := eq_true q7
     go_wp2_with (first | (go_at_call 112; (with_reducible refine (dowelref04_letter.calls (bt a0 a1) t107 _ A8.out).mono ?_); rintro e w' ⟨rfl, ⟨nd, rfl⟩⟩))
     go_meet
     case rel => exact ⟨_, (!t107), q7_1, H', ⟨by first | omega | exact Nat.le_refl _⟩, q7_0⟩
    ·rw [if_neg c6] at H
     exact absurd H (by simp)
   ·rw [if_neg c5] at H
    exact absurd H (by simp)
 case rest =>
  clear HC3; (try clear c1); (try clear p2); (try clear c4); (try clear c4b0); (try clear c5); (try clear c5b0); (try clear c6); (try clear c6b0); (try clear p7); (try clear q7); (try clear hx7); (try clear p7); (try clear q7)
  obtain ⟨kq, x16_2, rfl, HA, HJ2, ⟨mc2, rfl⟩⟩ := hcut
  cases kq with
  | zero => exact absurd HA.out (by simp [dowelref04_own.j0])
  | succ kj2 =>
   have H := HA.out
   clear HA
   simp only [dowelref04_own.j0] at H
   by_cases c9 : x16_2 = true
   ·subst c9
    have H1 : (some a1) = some r := by rw [if_pos rfl] at H; exact H
    clear H
    have H := H1
    clear H1
    obtain rfl := Option.some.inj H
    go_wp2
    go_ret
    exact ⟨q7_1, q7_0⟩
   ·replace c9 := Bool.eq_false_iff.mpr c9
    subst c9
    have H1 : (dowelref04_own.l0 kj2 a0 a1) = some r := by rw [if_neg (show ¬ (false = true) by decide)] at H; exact H
    clear H
    have H := H1
    clear H1
    have H' := Aside0.mk H
    clear H
    go_wp2
    go_loopg [5] kj2 (fun kq v5 w' => ∃ (x5_2 : Int), v5 = .int .i64 x5_2 ∧ Aside0 (dowelref04_own.l0 kq a0 x5_2 = some r) ∧ Aside0 (kq ≤ kj2) ∧ Drawn0 w w')
    case atStart => exact ⟨(a1), q7_1, H', ⟨Nat.le_refl _⟩, q7_0⟩
    case round =>
     clear H'; (try clear c1); (try clear c2); (try clear p2); (try clear c4); (try clear c4b0); (try clear c5); (try clear c5b0); (try clear c6); (try clear c6b0); (try clear p7); (try clear q7); (try clear hx7); (try clear c9); (try clear p2); (try clear p7); (try clear q7)
     obtain ⟨x5_2, rfl, HA, HK2, ⟨m2, rfl⟩⟩ := hrel
     cases gk with
     | zero => exact absurd HA.out (by simp [dowelref04_own.l0])
     | succ k2 =>
      have H := HA.out
      clear HA
      simp only [dowelref04_own.l0] at H
      by_cases c10 : x5_2 < (a0.size : Int)
      ·rw [if_pos c10] at H
       have c10b0 : decide (x5_2 < (a0.size : Int)) = true := decide_eq_true c10
       clear c10
       by_cases c11 : 0 ≤ x5_2
       ·rw [if_pos c11] at H
        have c11b0 : decide (0 ≤ x5_2) = true := decide_eq_true c11
        clear c11
        replace H := Option.bind_eq_some_iff.mp H
        obtain ⟨t108, A130, H⟩ := H
        replace H : (if t108 = true then (dowelref04_own.l0 k2 a0 (wrap64 (x5_2 + 1))) else ((dowelref04_digit.f (bt a0 x5_2)).bind fun t109 => (if t109 = true then (dowelref04_own.l0 k2 a0 (wrap64 (x5_2 + 1))) else (some x5_2)))) = some r := H
        have A13 := Aside0.mk A130; clear A130
        by_cases c14 : t108 = true
        ·subst c14
         have H1 : (dowelref04_own.l0 k2 a0 (wrap64 (x5_2 + 1))) = some r := by rw [if_pos rfl] at H; exact H
         clear H
         have H := H1
         clear H1
         have H' := Aside0.mk H
         clear H
         have p12 : 0 ≤ (x5_2 : Int) := of_decide_eq_true q7_2
         have q12 : x5_2 < (a0.size : Int) := of_decide_eq_true q7_2
         have hx12 := bt_at a0 x5_2
         replace p12 := eq_true p12
         replace q12 := eq_true q12
         go_wp2_with (first | (go_at_call 112; (with_reducible refine (dowelref04_letter.calls (bt a0 x5_2) true _ A13.out).mono ?_); rintro e w' ⟨rfl, ⟨nd, rfl⟩⟩))
         go_roundg k2
         case measure => have := HJ2.out; have := HK2.out; omega
         case rel => exact ⟨(wrap64 (x5_2 + 1)), q7_1, H', ⟨by have := HJ2.out; have := HK2.out; omega⟩, q7_0⟩
        ·replace c14 := Bool.eq_false_iff.mpr c14
         subst c14
         have H1 : ((dowelref04_digit.f (bt a0 x5_2)).bind fun t109 => (if t109 = true then (dowelref04_own.l0 k2 a0 (wrap64 (x5_2 + 1))) else (some x5_2))) = some r := by rw [if_neg (show ¬ (false = true) by decide)] at H; exact H
         clear H
         have H := H1
         clear H1
         replace H := Option.bind_eq_some_iff.mp H
         obtain ⟨t109, A160, H⟩ := H
         replace H : (if t109 = true then (dowelref04_own.l0 k2 a0 (wrap64 (x5_2 + 1))) else (some x5_2)) = some r := H
         have A16 := Aside0.mk A160; clear A160
         by_cases c17 : t109 = true
         ·subst c17
          have H1 : (dowelref04_own.l0 k2 a0 (wrap64 (x5_2 + 1))) = some r := by rw [if_pos rfl] at H; exact H
          clear H
          have H := H1
          clear H1
          have H' := Aside0.mk H
          clear H
          have p12 : 0 ≤ (x5_2 : Int) := of_decide_eq_true q7_2
          have q12 : x5_2 < (a0.size : Int) := of_decide_eq_true q7_2
          have hx12 := bt_at a0 x5_2
          replace p12 := eq_true p12
          replace q12 := eq_true q12
          go_wp2_with (first | (go_at_call 112; (with_reducible refine (dowelref04_letter.calls (bt a0 x5_2) false _ A13.out).mono ?_); rintro e w' ⟨rfl, ⟨nd, rfl⟩⟩; have p15 : 0 ≤ (x5_2 : Int) := of_decide_eq_true q7_2; have q15 : x5_2 < (a0.size : Int) := of_decide_eq_true q7_2; have hx15 := bt_at a0 x5_2; replace p15 := eq_true p15; replace q15 := eq_true q15) | (go_at_call 113; (with_reducible refine (dowelref04_digit.calls (bt a0 x5_2) true _ A16.out).mono ?_); rintro e w' ⟨rfl, ⟨nd, rfl⟩⟩))
          go_roundg k2
          case measure => have := HJ2.out; have := HK2.out; omega
          case rel => exact ⟨(wrap64 (x5_2 + 1)), q7_1, H', ⟨by have := HJ2.out; have := HK2.out; omega⟩, q7_0⟩
         ·replace c17 := Bool.eq_false_iff.mpr c17
          subst c17
          have H1 : (some x5_2) = some r := by rw [if_neg (show ¬ (false = true) by decide)] at H; exact H
          clear H
          have H := H1
          clear H1
          obtain rfl := Option.some.inj H
          have p12 : 0 ≤ (x5_2 : Int) := of_decide_eq_true q7_2
          have q12 : x5_2 < (a0.size : Int) := of_decide_eq_true q7_2
          have hx12 := bt_at a0 x5_2
          replace p12 := eq_true p12
          replace q12 := eq_true q12
          go_wp2_with (first | (go_at_call 112; (with_reducible refine (dowelref04_letter.calls (bt a0 x5_2) false _ A13.out).mono ?_); rintro e w' ⟨rfl, ⟨nd, rfl⟩⟩; have p15 : 0 ≤ (x5_2 : Int) := of_decide_eq_true q7_2; have q15 : x5_2 < (a0.size : Int) := of_decide_eq_true q7_2; have hx15 := bt_at a0 x5_2; replace p15 := eq_true p15; replace q15 := eq_true q15) | (go_at_call 113; (with_reducible refine (dowelref04_digit.calls (bt a0 x5_2) false _ A16.out).mono ?_); rintro e w' ⟨rfl, ⟨nd, rfl⟩⟩))
          go_ret
          exact ⟨q7_1, q7_0⟩
       ·rw [if_neg c11] at H
        exact absurd H (by simp)
      ·rw [if_neg c10] at H
       have c10b0 : decide (x5_2 < (a0.size : Int)) = false := decide_eq_false c10
       clear c10
       obtain rfl := Option.some.inj H
       go_wp2
       go_ret
       exact ⟨q7_1, q7_0⟩
def dowelref04_digits.l0 : Nat → ByteArray → Int → Option (Int)
 | 0, _, _ => none
 | k + 1, x0, x1 => if x1 < (x0.size : Int) then (if 0 ≤ x1 then ((dowelref04_digit.f (bt x0 x1)).bind fun t110 => (if t110 = true then (dowelref04_digits.l0 k x0 (wrap64 (x1 + 1))) else (some x1))) else (none)) else (some x1)
def dowelref04_digits.f (k : Nat) (a0 : ByteArray) (a1 : Int) : Option (Int) := dowelref04_digits.l0 k a0 a1
theorem dowelref04_digits.mono_l : ∀ k, (∀ y0 y1, LeO (dowelref04_digits.l0 k y0 y1) (dowelref04_digits.l0 (k + 1) y0 y1))
 | 0 => fun _ _ r h => by simp [dowelref04_digits.l0] at h
 | k + 1 => by
  have ih0 := dowelref04_digits.mono_l k
  ·intro y0 y1
   unfold dowelref04_digits.l0
   repeat' first
   | (with_reducible exact ih0 _ _)
   | (with_reducible exact LeO.refl _)
   | (with_reducible exact LeO.none _)
   | (with_reducible refine LeO.ite ?_ ?_)
   | (with_reducible refine LeO.bind ?_ (fun _ => ?_))
   | exact ih0 _ _
   | exact LeO.none _
   | refine LeO.ite ?_ ?_
   | refine LeO.bind ?_ (fun _ => ?_)
theorem dowelref04_digits.mono : ∀ a0 a1 k, LeO (dowelref04_digits.f k a0 a1) (dowelref04_digits.f (k + 1) a0 a1) := by
 intro a0 a1 k
 have ih0 := dowelref04_digits.mono_l k
 unfold dowelref04_digits.f
 repeat' first
   | (with_reducible exact ih0 _ _)
   | (with_reducible exact LeO.refl _)
   | (with_reducible exact LeO.none _)
   | (with_reducible refine LeO.ite ?_ ?_)
   | (with_reducible refine LeO.bind ?_ (fun _ => ?_))
   | exact ih0 _ _
   | exact LeO.none _
   | refine LeO.ite ?_ ?_
   | refine LeO.bind ?_ (fun _ => ?_)
set_option maxHeartbeats 8000000 in
set_option maxRecDepth 100000 in
theorem dowelref04_digits.calls (k : Nat) (a0 : ByteArray) (a1 : Int) (r : Int) (w : World) (h : dowelref04_digits.f k a0 a1 = some r) :
  Calls Try.prog 103 #[.string a0, .int .i64 a1] w fun e w' => e = .returned (.int .i64 r) ∧ Drawn0 w w' := by
 have H : (dowelref04_digits.l0 k a0 a1) = some r := h
 clear h
 have H' := Aside0.mk H
 clear H
 go_enter Try.func103, Try.ntmps103
 go_wp2
 go_loopg [1] k (fun kq v1 w' => ∃ (x1_1 : Int), v1 = .int .i64 x1_1 ∧ Aside0 (dowelref04_digits.l0 kq a0 x1_1 = some r) ∧ Aside0 (kq ≤ k) ∧ Drawn0 w w')
 case atStart => exact ⟨(a1), q7_1, H', ⟨Nat.le_refl _⟩, q7_0⟩
 case round =>
  clear H'; (try clear c1); (try clear p2)
  obtain ⟨x1_1, rfl, HA, HK1, ⟨m1, rfl⟩⟩ := hrel
  cases gk with
  | zero => exact absurd HA.out (by simp [dowelref04_digits.l0])
  | succ k1 =>
   have H := HA.out
   clear HA
   simp only [dowelref04_digits.l0] at H
   by_cases c3 : x1_1 < (a0.size : Int)
   ·rw [if_pos c3] at H
    have c3b0 : decide (x1_1 < (a0.size : Int)) = true := decide_eq_true c3
    clear c3
    by_cases c4 : 0 ≤ x1_1
    ·rw [if_pos c4] at H
     have c4b0 : decide (0 ≤ x1_1) = true := decide_eq_true c4
     clear c4
     replace H := Option.bind_eq_some_iff.mp H
     obtain ⟨t110, A60, H⟩ := H
     replace H : (if t110 = true then (dowelref04_digits.l0 k1 a0 (wrap64 (x1_1 + 1))) else (some x1_1)) = some r := H
     have A6 := Aside0.mk A60; clear A60
     by_cases c7 : t110 = true
     ·subst c7
      have H1 : (dowelref04_digits.l0 k1 a0 (wrap64 (x1_1 + 1))) = some r := by rw [if_pos rfl] at H; exact H
      clear H
      have H := H1
      clear H1
      have H' := Aside0.mk H
      clear H
      have p5 : 0 ≤ (x1_1 : Int) := of_decide_eq_true q7_2
      have q5 : x1_1 < (a0.size : Int) := of_decide_eq_true q7_2
      have hx5 := bt_at a0 x1_1
      replace p5 := eq_true p5
      replace q5 := eq_true q5
      go_wp2_with (first | (go_at_call 113; (with_reducible refine (dowelref04_digit.calls (bt a0 x1_1) true _ A6.out).mono ?_); rintro e w' ⟨rfl, ⟨nd, rfl⟩⟩))
      go_roundg k1
      case measure => have := HK1.out; omega
      case rel => exact ⟨(wrap64 (x1_1 + 1)), q7_1, H', ⟨by have := HK1.out; omega⟩, q7_0⟩
     ·replace c7 := Bool.eq_false_iff.mpr c7
      subst c7
      have H1 : (some x1_1) = some r := by rw [if_neg (show ¬ (false = true) by decide)] at H; exact H
      clear H
      have H := H1
      clear H1
      obtain rfl := Option.some.inj H
      have p5 : 0 ≤ (x1_1 : Int) := of_decide_eq_true q7_2
      have q5 : x1_1 < (a0.size : Int) := of_decide_eq_true q7_2
      have hx5 := bt_at a0 x1_1
      replace p5 := eq_true p5
      replace q5 := eq_true q5
      go_wp2_with (first | (go_at_call 113; (with_reducible refine (dowelref04_digit.calls (bt a0 x1_1) false _ A6.out).mono ?_); rintro e w' ⟨rfl, ⟨nd, rfl⟩⟩))
      go_ret
      exact ⟨q7_1, q7_0⟩
    ·rw [if_neg c4] at H
     exact absurd H (by simp)
   ·rw [if_neg c3] at H
    have c3b0 : decide (x1_1 < (a0.size : Int)) = false := decide_eq_false c3
    clear c3
    obtain rfl := Option.some.inj H
    go_wp2
    go_ret
    exact ⟨q7_1, q7_0⟩
end Go.Proofs.Ytebiogaacikphaa.PAll
end
