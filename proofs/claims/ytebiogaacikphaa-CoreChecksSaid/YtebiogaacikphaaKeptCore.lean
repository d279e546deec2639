/- The walk of dowelbook.KeptCore, on what LendCore lent and what it was lent of: true, where Cores says so. -/
import Derived.Test.YtebiogaacikphaaLendCore
import Derived.Test.YtebiogaacikphaaPAllx20
import Derived.Deep.RegionHeld3
import Derived.Deep.QuietTactic
import Derived.BigQuiet
import Derived.WalkKit
import Derived.IntWalk
namespace Go.Proofs.Ytebiogaacikphaa.Core
open Go.RowKit Go.Proofs.YtebiogaacikphaaW.PrintWords Go.Proofs.Ytebiogaacikphaa.PAll
set_option linter.unusedVariables false
set_option linter.unusedSimpArgs false
/-- What the walk of KeptCore keeps: the two boxes, what was lent, what is old. -/
structure KI (w : World) (gb gc gR : Nat) (G : List Nat) (A : Option Addr) (c : Nat) (st : Int) (l : List (S30)) (W : World) : Prop where
  b1 : W.heap[gb]? = some (.cells #[.slice (some ⟨gR, 0, none⟩) l.length (l.length + 1), .int .i64 st] 24 (0, 0))
  b2 : W.heap[gc]? = some (.cells #[.slice A l.length c, .int .i64 st] 24 (0, 0))
  lent : Lent W gR G l
  rd : Kd.C k30 W A l.length l
  old : Below w.heap.size w W
section
variable {w W W' : World} {gb gc gR : Nat} {G : List Nat} {A : Option Addr} {c : Nat} {st : Int} {l : List (S30)}
theorem KI.below (h : KI w gb gc gR G A c st l W) (hb : Below W.heap.size W W') : KI w gb gc gR G A c st l W' :=
  ⟨blk_below h.b1 hb, blk_below h.b2 hb, h.lent.below hb, Kd.C_below h.rd hb, below_step h.old hb⟩
theorem KI.c10 (h : KI w gb gc gR G A c st l W) : W.cell? ⟨gb, 0, none⟩ = some (.slice (some ⟨gR, 0, none⟩) l.length (l.length + 1)) := (blk_cell h.b1 0).trans rfl
theorem KI.c11 (h : KI w gb gc gR G A c st l W) : W.cell? ⟨gb, 1, none⟩ = some (.int .i64 st) := (blk_cell h.b1 1).trans rfl
theorem KI.c20 (h : KI w gb gc gR G A c st l W) : W.cell? ⟨gc, 0, none⟩ = some (.slice A l.length c) := (blk_cell h.b2 0).trans rfl
theorem KI.c21 (h : KI w gb gc gR G A c st l W) : W.cell? ⟨gc, 1, none⟩ = some (.int .i64 st) := (blk_cell h.b2 1).trans rfl
theorem KI.ch (h : KI w gb gc gR G A c st l W) : W.cell? ⟨gR, l.length * 2, none⟩ = some (.string holder) := by
  have hlen : (lentCells l G).length = l.length * 2 := lentCells_length _ _ h.lent.bodies.1
  rw [h.lent.rules.cell, List.getElem?_append_right (by omega), hlen, Nat.sub_self]
  rfl
theorem KI.ofRule (h : KI w gb gc gR G A c st l W) {i : Nat} (hi : i < l.length) : ∃ g, W.cell? ⟨gR, i * 2 + 1, none⟩ = some (.slice (some ⟨g, 0, none⟩) l[i].f1.length (l[i].f1.length + 1)) ∧ W.cell? ⟨g, l[i].f1.length * 7, none⟩ = some (.int .i64 (-77)) := by
  have hb := h.lent.bodies
  have hlen : (lentCells l G).length = l.length * 2 := lentCells_length _ _ hb.1
  have hg : i < G.length := by rw [hb.1]; exact hi
  refine ⟨G[i], ?_, ?_⟩
  · rw [h.lent.rules.cell, List.getElem?_append_left (by omega), lentCells_get l G i 1 l[i] G[i] (List.getElem?_eq_getElem hi) (List.getElem?_eq_getElem hg) (by decide)]
    rfl
  · have hr := hb.2 i l[i] G[i] (List.getElem?_eq_getElem hi) (List.getElem?_eq_getElem hg)
    have hf : (l[i].f1.flatMap nodeCells).length = l[i].f1.length * 7 := flatNode.all l[i].f1
    rw [hr.cell, List.getElem?_append_right (by omega), hf, Nat.sub_self]
    rfl
theorem KI.all (h : KI w gb gc gR G A c st l W) : W.cell? ⟨gb, 0, none⟩ = some (.slice (some ⟨gR, 0, none⟩) l.length (l.length + 1)) ∧ W.cell? ⟨gb, 1, none⟩ = some (.int .i64 st) ∧ W.cell? ⟨gc, 0, none⟩ = some (.slice A l.length c) ∧ W.cell? ⟨gc, 1, none⟩ = some (.int .i64 st) ∧ W.cell? ⟨gR, l.length * 2, none⟩ = some (.string holder) ∧ KI w gb gc gR G A c st l W :=
  ⟨h.c10, h.c11, h.c20, h.c21, h.ch, h⟩
end

set_option maxHeartbeats 1000000 in
set_option maxRecDepth 100000 in
theorem KeptCore_calls (k : Nat) (gR : Nat) (G : List Nat) (A : Option Addr) (c : Nat) (l : List (S30)) (st : Int) (w : World) (hlent : Lent w gR G l) (hr : Kd.C k30 w A l.length l) (hc : l.length ≤ c) (hn : l.length ≤ 65536) (hm : ∀ r ∈ l, r.f1.length ≤ 1048576)
    (hsame : dowelbook_Cores.f k l st l st = some true) :
    Calls Try.prog 21 #[.agg #[.slice (some ⟨gR, 0, none⟩) l.length (l.length + 1), .int .i64 st], .agg #[.slice A l.length c, .int .i64 st]] w fun e w' => e = .returned (.bool true) ∧ Below w.heap.size w w' := by
  have HR := Aside0.mk hr
  have HL := Aside0.mk hlent
  have HC := Aside0.mk hc
  have HM := Aside0.mk hm
  have HS := Aside0.mk hsame
  have q1 : (l.length : Int) ≤ 65536 := by omega
  clear hr hc hm hlent hsame
  go_enter Try.func21, Try.ntmps21
  go_wp2_with (first
    | ((with_reducible refine gate_dst (N := 2) rfl ?_); refine box_event (N := 2) rfl rfl (cs := #[.slice (some ⟨gR, 0, none⟩) l.length (l.length + 1), .int .i64 st]) (t := 24) ?hr1 ?_; (case hr1 => first | (go_simp; done) | (go_simp; rfl)); intro gb hgb w1 hbox hb1; have HX := Aside0.mk hbox; have HB := Aside0.mk hb1; have HG := Aside0.mk (show gb < w1.heap.size from blk_lt hbox); clear hbox hb1 hgb)
    | ((with_reducible refine gate_dst (N := 3) rfl ?_); refine box_event (N := 3) rfl rfl (cs := #[.slice A l.length c, .int .i64 st]) (t := 24) ?hr2 ?_; (case hr2 => first | (go_simp; done) | (go_simp; rfl)); intro gc hgc w2 hbox hb2; have HI := Aside0.mk (show KI w gb gc gR G A c st l w2 from ⟨blk_below HX.out hb2, hbox, (HL.out.below HB.out).below hb2, Kd.C_below (Kd.C_below HR.out HB.out) hb2, below_step HB.out hb2⟩); clear HX HB hbox hb2 hgc))
  have hw1 : IntKind.i64.wrap ((l.length : Int) + 1) = (l.length : Int) + 1 := IntWalk.i64_in _ (by omega)
  have hsl : ∀ W : World, (Instr.slice 22 (.slice (some ⟨gR, 0, none⟩) l.length (l.length + 1)) none (some (.int .i64 ((l.length : Int) + 1))) none).run Try.prog W = .ok (.slice (some ⟨gR, 0, none⟩) (l.length + 1) (l.length + 1)) W :=
    fun W => run_slice_own (P := Try.prog) (t := 22) (size := 2) rfl szRule gR l.length (l.length + 1) (l.length + 1) (by omega) W
  have hix : ∀ W : World, (Instr.indexAt 22 (.slice (some ⟨gR, 0, none⟩) (l.length + 1) (l.length + 1)) (.int .i64 (l.length : Int))).run Try.prog W = .ok (.pointer (some ⟨gR, l.length * 2, none⟩)) W :=
    fun W => run_indexAt_own (P := Try.prog) (t := 22) (size := 2) Try.underlying22 szRule gR (l.length + 1) (l.length + 1) l.length (by omega) W
  have hh : (!(holder.toList == ([45, 104, 111, 108, 100, 101, 114, 45] : List UInt8))) = false := by rw [ByteArray.toList_eq]; rfl
  have hS0 := HI.out
  go_region_held3 (fun w' => w'.cell? ⟨gb, 0, none⟩ = some (.slice (some ⟨gR, 0, none⟩) l.length (l.length + 1)) ∧ w'.cell? ⟨gb, 1, none⟩ = some (.int .i64 st) ∧ w'.cell? ⟨gc, 0, none⟩ = some (.slice A l.length c) ∧ w'.cell? ⟨gc, 1, none⟩ = some (.int .i64 st) ∧ w'.cell? ⟨gR, l.length * 2, none⟩ = some (.string holder) ∧ KI w gb gc gR G A c st l w')
    ((refine KI.all ?_; first | assumption | exact hS0.below (below_drew (Below.refl _ _))))
    (first | (go_at_call 49; go_split_ands; refine (dowelbook_Cores.calls k (some ⟨gR, 0, none⟩) (l.length + 1) l st A c l st true _ (by (rename_i hki); exact hki.lent.reads (by omega) (fun r hr => by have := HM.out r hr; omega)) (by omega) (by (rename_i hki); exact hki.rd) HC.out HS.out).mono ?_; rintro e w3 ⟨rfl, hb3⟩; have hS2 := KI.below (by assumption) hb3))
  clear hS0 HI hsl hix hh hb3
  have HI := Aside0.mk hS2
  clear hS2
  go_wp2
  go_loopw [5] (fun v wr => ∃ (i : Nat), v = .int .i64 i ∧ i ≤ l.length ∧ Aside0 (KI w gb gc gR G A c st l wr)) (fun v _ => l.length - (intOf v).toNat)
  case atStart => exact ⟨0, rfl, Nat.zero_le _, HI⟩
  case round =>
    clear HI
    obtain ⟨i, rfl, hi, HI⟩ := hrel
    have h10 := HI.out.c10
    have h20 := HI.out.c20
    by_cases c1 : i < l.length
    · obtain ⟨ad, A1, c1', e, hx0, hx1, hl1, hi1⟩ := at_T30 HI.out.rd (i : Int) (by omega) (by omega)
      cases e
      rw [Int.toNat_natCast] at hx0 hx1
      have hrho : rd_T30 l (i : Int) = l[i] := by
        rw [rd_T30, Int.toNat_natCast, List.getD_eq_getElem?_getD, List.getElem?_eq_getElem c1]
        rfl
      rw [hrho] at hx0 hx1 hl1 hi1
      obtain ⟨g, hg1, hg2⟩ := HI.out.ofRule c1
      have HM1 := HM.out l[i] (List.getElem_mem _)
      generalize l[i] = rho at *
      clear hrho hi1 hl1 hx0
      have q3 : (rho.f1.length : Int) ≤ 1048576 := by omega
      have hw2 : IntKind.i64.wrap ((rho.f1.length : Int) + 1) = (rho.f1.length : Int) + 1 := IntWalk.i64_in _ (by omega)
      have hw3 : IntKind.i64.wrap (rho.f1.length : Int) = (rho.f1.length : Int) := IntWalk.i64_in _ (by omega)
      have hsl : ∀ W : World, (Instr.slice 25 (.slice (some ⟨g, 0, none⟩) rho.f1.length (rho.f1.length + 1)) none (some (.int .i64 ((rho.f1.length : Int) + 1))) none).run Try.prog W = .ok (.slice (some ⟨g, 0, none⟩) (rho.f1.length + 1) (rho.f1.length + 1)) W :=
        fun W => run_slice_own (P := Try.prog) (t := 25) (size := 7) rfl szNode g rho.f1.length (rho.f1.length + 1) (rho.f1.length + 1) (by omega) W
      have hix : ∀ W : World, (Instr.indexAt 25 (.slice (some ⟨g, 0, none⟩) (rho.f1.length + 1) (rho.f1.length + 1)) (.int .i64 (rho.f1.length : Int))).run Try.prog W = .ok (.pointer (some ⟨g, rho.f1.length * 7, none⟩)) W :=
        fun W => run_indexAt_own (P := Try.prog) (t := 25) (size := 7) Try.underlying25 szNode g (rho.f1.length + 1) (rho.f1.length + 1) rho.f1.length (by omega) W
      have hix2 : ∀ W : World, (Instr.indexAt 22 (.slice (some ⟨gR, 0, none⟩) l.length (l.length + 1)) (.int .i64 (i : Int))).run Try.prog W = .ok (.pointer (some ⟨gR, i * 2, none⟩)) W :=
        fun W => run_indexAt_own (P := Try.prog) (t := 22) (size := 2) Try.underlying22 szRule gR l.length (l.length + 1) i (by omega) W
      go_wp2
      go_quiet (fail)
      have n1_ := Aside0.mk (HI.out.below (pw_below_drewN (Below.refl wr.heap.size wr) nq))
      clear HI
      have HI := n1_
      clear n1_
      go_wp2
      go_roundw
      case rel => exact ⟨i + 1, by go_num, by omega, HI⟩
      case measure => simp [intOf]; omega
    · go_wp2
      go_ret
      exact ⟨rfl, HI.out.old⟩
end Go.Proofs.Ytebiogaacikphaa.Core
