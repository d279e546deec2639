/- The walk of dowelbook.LendCore, of up to 2^16 rules with bodies of up to 2^20 nodes. -/
import Derived.Test.YtebiogaacikphaaLentCore
import Derived.StillTailTactics
import Derived.WalkKit
import Derived.IntWalk
namespace Go.Proofs.Ytebiogaacikphaa.Core
open Go.RowKit Go.Proofs.YtebiogaacikphaaW.PrintWords Go.Proofs.Ytebiogaacikphaa.PAll
set_option linter.unusedVariables false
set_option linter.unusedSimpArgs false
theorem szNode (W : World) : (sizeOf (Try.prog.elem 25)).run Try.prog W = .ok 7 W := by kernel_rfl
theorem szRule (W : World) : (sizeOf 30).run Try.prog W = .ok 2 W := by kernel_rfl
def zeroRule : List Value := [.string ⟨#[]⟩, .slice none 0 0]
/-- What a round of LendCore keeps. -/
structure LI (w : World) (gb gr gR : Nat) (bx : Obj) (l : List (S30)) (i : Nat) (G : List Nat) (W : World) : Prop where
  box : W.heap[gb]? = some bx
  res : W.heap[gr]? = some (.cells #[.slice none 0 0, .int .i64 0] 24 (0, 0))
  rules : RowAt W gR 30 (lentCells (l.take i) G ++ (List.replicate (l.length + 1 - i) zeroRule).flatten)
  bodies : BodiesAt W (l.take i) G
  old : Below w.heap.size w W
  ord : w.heap.size ≤ gb ∧ gb < gr ∧ gr < gR ∧ ∀ g ∈ G, gR < g
theorem LI.below {w W W' : World} {gb gr gR : Nat} {bx : Obj} {l : List (S30)} {i : Nat} {G : List Nat} (h : LI w gb gr gR bx l i G W) (hb : Below W.heap.size W W') : LI w gb gr gR bx l i G W' :=
  ⟨blk_below h.box hb, blk_below h.res hb, h.rules.below hb, h.bodies.below hb, below_step h.old hb, h.ord⟩
/-- A block behind all of it is written. -/
theorem LI.grown {w W W' : World} {gb gr gR : Nat} {bx : Obj} {l : List (S30)} {i : Nat} {G : List Nat} (h : LI w gb gr gR bx l i G W) {g : Nat} (hg : W.grownBy W' (some g)) (h1 : gR < g) (h2 : ∀ q ∈ G, q < g) : LI w gb gr gR bx l i G W' := by
  have := h.ord
  exact ⟨(hg.block _ (blk_lt h.box) (by simp; omega)).trans h.box, (hg.block _ (blk_lt h.res) (by simp; omega)).trans h.res, h.rules.grown hg (by simp; omega), h.bodies.grown hg (fun hm => by have := h2 _ hm; omega), pw_below_grown h.old (some g) h.old.size hg (fun k hk => by cases hk; omega), h.ord⟩
/-- The next rule is in. -/
theorem LI.next {w W W' : World} {gb gr gR : Nat} {bx : Obj} {l : List (S30)} {i : Nat} {G : List Nat} (h : LI w gb gr gR bx l i G W) (hi : i < l.length) {g : Nat} (hb : RowAt W g 90 (l[i].f1.flatMap nodeCells ++ nodeCells holdNode)) (hg : gR < g)
    (hr : RowAt W' gR 30 ((lentCells (l.take i) G ++ (List.replicate (l.length + 1 - i) zeroRule).flatten).take (i * 2) ++ ruleCells l[i] g ++ (lentCells (l.take i) G ++ (List.replicate (l.length + 1 - i) zeroRule).flatten).drop (i * 2 + 2)))
    (hw : W.grownBy W' (some gR)) : LI w gb gr gR bx l (i + 1) (G ++ [g]) W' := by
  have ho := h.ord
  have hlen : (lentCells (l.take i) G).length = i * 2 := by
    rw [lentCells_length _ _ h.bodies.1, List.length_take]
    omega
  have hrep : (List.replicate (l.length + 1 - i) zeroRule).flatten = zeroRule ++ (List.replicate (l.length + 1 - (i + 1)) zeroRule).flatten := by
    rw [show l.length + 1 - i = (l.length + 1 - (i + 1)) + 1 by omega, List.replicate_succ, List.flatten_cons]
  refine ⟨(hw.block _ (blk_lt h.box) (by simp; omega)).trans h.box, (hw.block _ (blk_lt h.res) (by simp; omega)).trans h.res, ?_, ?_, pw_below_grown h.old (some gR) h.old.size hw (fun k hk => by cases hk; omega), ho.1, ho.2.1, ho.2.2.1, fun q hq => ?_⟩
  · rw [List.take_append_of_le_length (by omega), List.take_of_length_le (by omega), ← hlen, List.drop_append, hlen] at hr
    rw [List.drop_of_length_le (by omega), List.nil_append, show i * 2 + 2 - i * 2 = 2 by omega, hrep] at hr
    rw [List.take_succ_eq_append_getElem hi, lentCells_snoc _ _ _ _ h.bodies.1]
    exact hr
  · rw [List.take_succ_eq_append_getElem hi]
    exact (h.bodies.grown hw (fun hm => by have := ho.2.2.2 _ hm; omega)).snoc (hb.grown hw (by simp; omega))
  · rcases List.mem_append.1 hq with hq | hq
    · exact ho.2.2.2 q hq
    · rw [List.mem_singleton.1 hq]
      exact hg
/-- All is in. -/
structure LF (w : World) (gb gr gR : Nat) (bx : Obj) (l : List (S30)) (G : List Nat) (W : World) : Prop where
  box : W.heap[gb]? = some bx
  res : W.heap[gr]? = some (.cells #[.slice none 0 0, .int .i64 0] 24 (0, 0))
  lent : Lent W gR G l
  old : Below w.heap.size w W
  ord : w.heap.size ≤ gb ∧ gb < gr ∧ gr < gR ∧ ∀ g ∈ G, gR < g
theorem LF.below {w W W' : World} {gb gr gR : Nat} {bx : Obj} {l : List (S30)} {G : List Nat} (h : LF w gb gr gR bx l G W) (hb : Below W.heap.size W W') : LF w gb gr gR bx l G W' :=
  ⟨blk_below h.box hb, blk_below h.res hb, h.lent.below hb, below_step h.old hb, h.ord⟩
theorem LI.last {w W W' : World} {gb gr gR : Nat} {bx : Obj} {l : List (S30)} {G : List Nat} (h : LI w gb gr gR bx l l.length G W)
    (hr : RowAt W' gR 30 ((lentCells (l.take l.length) G ++ (List.replicate (l.length + 1 - l.length) zeroRule).flatten).take (l.length * 2) ++ [.string holder, .slice none 0 0] ++ (lentCells (l.take l.length) G ++ (List.replicate (l.length + 1 - l.length) zeroRule).flatten).drop (l.length * 2 + 2)))
    (hw : W.grownBy W' (some gR)) : LF w gb gr gR bx l G W' := by
  have ho := h.ord
  have hbod := h.bodies
  rw [List.take_of_length_le (Nat.le_refl _)] at hr hbod
  have hlen : (lentCells l G).length = l.length * 2 := lentCells_length _ _ hbod.1
  have hone : (List.replicate (l.length + 1 - l.length) zeroRule).flatten = zeroRule := by
    rw [show l.length + 1 - l.length = 1 by omega]
    rfl
  refine ⟨(hw.block _ (blk_lt h.box) (by simp; omega)).trans h.box, (hw.block _ (blk_lt h.res) (by simp; omega)).trans h.res, ⟨?_, hbod.grown hw (fun hm => by have := ho.2.2.2 _ hm; omega)⟩, pw_below_grown h.old (some gR) h.old.size hw (fun k hk => by cases hk; omega), ho⟩
  rw [hone, List.take_append_of_le_length (by omega), List.take_of_length_le (by omega), List.drop_of_length_le (by rw [List.length_append, hlen]; simp [zeroRule]), List.append_nil] at hr
  exact hr

set_option maxHeartbeats 1000000 in
set_option maxRecDepth 100000 in
theorem LendCore_calls (A : Option Addr) (c : Nat) (l : List (S30)) (st : Int) (w : World) (hr : Kd.C k30 w A l.length l) (hc : l.length ≤ c) (hn : l.length ≤ 65536) (hm : ∀ r ∈ l, r.f1.length ≤ 1048576) :
    Calls Try.prog 18 #[.agg #[.slice A l.length c, .int .i64 st]] w fun e w' => ∃ gR G, e = .returned (.agg #[.slice (some ⟨gR, 0, none⟩) l.length (l.length + 1), .int .i64 st]) ∧ Lent w' gR G l ∧ Below w.heap.size w w' ∧ w.heap.size ≤ gR ∧ ∀ g ∈ G, gR < g := by
  have HR := Aside0.mk hr
  have HC := Aside0.mk hc
  have HM := Aside0.mk hm
  have q1 : (l.length : Int) ≤ 65536 := by omega
  clear hr hc hm
  go_enter Try.func18, Try.ntmps18
  go_wp2_with (first
    | ((with_reducible refine gate_dst (N := 1) rfl ?_); refine box_event (N := 1) rfl rfl (cs := #[.slice A l.length c, .int .i64 st]) (t := 24) ?hr1 ?_; (case hr1 => first | (go_simp; done) | (go_simp; rfl)); intro gb hgb w1 hbox hb1; have HX := Aside0.mk hbox; have HB := Aside0.mk hb1; have HG := Aside0.mk (show w.heap.size ≤ gb by omega); clear hbox hb1 hgb)
    | ((with_reducible refine gate_dst (N := 2) rfl ?_); refine box_event (N := 2) rfl rfl (cs := #[.slice none 0 0, .int .i64 0]) (t := 24) ?hr2 ?_; (case hr2 => first | (go_simp; done) | (go_simp; rfl)); intro gr hgr w2 hbox hb2; have HR2 := Aside0.mk hbox; have n1_ := Aside0.mk (blk_below HX.out hb2); have n2_ := Aside0.mk (below_step HB.out hb2); have HG2 := Aside0.mk (show gb < gr by rw [hgr]; exact blk_lt HX.out); clear HX HB hbox hb2 hgr; have HX := n1_; have HB := n2_; clear n1_ n2_; have h0 := blk_cell HX.out 0; simp only [List.getElem?_toArray, List.getElem?_cons_zero] at h0)
    | ((with_reducible refine gate_dst (N := 10) rfl ?_); refine make_event rfl 22 (.tmp 9) (.tmp 9) rfl (l.length + 1) rfl rfl 30 (.agg #[.string ⟨#[]⟩, .slice none 0 0]) 2 40 Try.underlying22 (by kernel_rfl) rfl (by omega) (by omega) ?_; intro gR hgR w3 hrow hb3; have HI := Aside0.mk (show LI w gb gr gR (.cells #[.slice A l.length c, .int .i64 st] 24 (0, 0)) l 0 [] w3 from ⟨blk_below HX.out hb3, blk_below HR2.out hb3, hrow, ⟨rfl, fun j r g h1 h2 => by simp at h2⟩, below_step HB.out hb3, HG.out, HG2.out, by rw [hgR]; exact blk_lt HR2.out, fun g hg => by cases hg⟩); clear HX HR2 HB h0 hrow hb3 hgR))
  go_loopw [4] (fun v wr => ∃ (i : Nat) (G : List Nat), v = .int .i64 i ∧ i ≤ l.length ∧ Aside0 (LI w gb gr gR (.cells #[.slice A l.length c, .int .i64 st] 24 (0, 0)) l i G wr)) (fun v _ => l.length - (intOf v).toNat)
  case atStart => exact ⟨0, [], rfl, Nat.zero_le _, HI⟩
  case round =>
    clear HI
    obtain ⟨i, G, rfl, hi, HI⟩ := hrel
    have h0 := blk_cell HI.out.box 0
    simp only [List.getElem?_toArray, List.getElem?_cons_zero] at h0
    by_cases c1 : i < l.length
    · obtain ⟨ad, A1, c1', e, hx0, hx1, hl1, hi1⟩ := at_T30 HR.out (i : Int) (by omega) (by omega)
      cases e
      rw [Int.toNat_natCast] at hx0 hx1
      have hrho : rd_T30 l (i : Int) = l[i] := by
        rw [rd_T30, Int.toNat_natCast, List.getD_eq_getElem?_getD, List.getElem?_eq_getElem c1]
        rfl
      rw [hrho] at hx0 hx1 hl1 hi1
      have HM1 := Aside0.mk (HM.out l[i] (List.getElem_mem _))
      have HNX := Aside0.mk (fun {W W' : World} {g : Nat} (h : LI w gb gr gR (.cells #[.slice (some ad) l.length c, .int .i64 st] 24 (0, 0)) l i G W) => h.next (W' := W') (g := g) c1)
      generalize l[i] = rho at *
      clear hrho
      have HX0 := Aside0.mk hx0
      have HX1 := Aside0.mk hx1
      replace hx0 := (HI.out.old.cell (World.block_lt_of_cell? w _ HX0.out)).trans HX0.out
      replace hx1 := (HI.out.old.cell (World.block_lt_of_cell? w _ HX1.out)).trans HX1.out
      have HI1 := Aside0.mk hi1
      have HL1 := Aside0.mk hl1
      have q3 : (rho.f1.length : Int) ≤ 1048576 := by have := HM1.out; omega
      have q4 : (i : Int) ≤ 65536 := by omega
      clear hi1 hl1
      have HZ : Aside0 ((List.replicate (rho.f1.length + 1) (nodeCells z90)).flatten.length = (rho.f1.length + 1) * 7) := ⟨by simp [nodeCells]⟩
      have HLN : Aside0 ((rho.f1.flatMap nodeCells).length = rho.f1.length * 7) := ⟨flatNode.all rho.f1⟩
      have HFIT : Aside0 ((rho.f1.flatMap nodeCells).length ≤ (List.replicate (rho.f1.length + 1) (nodeCells z90)).flatten.length) := ⟨by rw [HZ.out, HLN.out]; omega⟩
      have HFIT2 := Aside0.mk (put_last_fit (rho.f1.flatMap nodeCells) (List.replicate (rho.f1.length + 1) (nodeCells z90)).flatten (nodeCells holdNode) (rho.f1.length * 7) HLN.out (by rw [HZ.out]; simp [nodeCells]; omega))
      have HROW := Aside0.mk (put_last (rho.f1.flatMap nodeCells) (List.replicate (rho.f1.length + 1) (nodeCells z90)).flatten (nodeCells holdNode) (rho.f1.length * 7) HLN.out (by rw [HZ.out]; simp [nodeCells]; omega))
      have HSRC := fun (W : World) (hb : Below w.heap.size w W) => flatNode.cells (by decide) (Kd.C_below HI1.out hb)
      have HSRC' := Aside0.mk HSRC
      clear HSRC
      go_wp2_with (first
        | ((with_reducible refine gate_dst (N := 26) rfl ?_); refine make_event rfl 25 (.tmp 25) (.tmp 25) rfl (rho.f1.length + 1) rfl rfl 90 (.agg #[.int .i64 0, .int .u64 0, .int .u64 0, .int .u64 0, .int .u64 0, .int .i64 0, .string ⟨#[]⟩]) 7 64 Try.underlying25 (by kernel_rfl) rfl (by omega) (by omega) ?_; intro g5 hg5 w4 hrow hb4; have HG5 := Aside0.mk (show gR < g5 ∧ ∀ q ∈ G, q < g5 by rw [hg5]; exact ⟨HI.out.rules.lt, HI.out.bodies.lt⟩); have n1_ := Aside0.mk (HI.out.below hb4); have H5 := Aside0.mk (show RowAt w4 g5 90 (List.replicate (rho.f1.length + 1) (nodeCells z90)).flatten from hrow); clear HI hrow hb4 hg5; have HI := n1_; clear n1_; clear hx0 hx1 h0; have hx0 := (HI.out.old.cell (World.block_lt_of_cell? w _ HX0.out)).trans HX0.out; have hx1 := (HI.out.old.cell (World.block_lt_of_cell? w _ HX1.out)).trans HX1.out; have h0 := blk_cell HI.out.box 0; simp only [List.getElem?_toArray, List.getElem?_cons_zero] at h0)
        | ((with_reducible refine gate_dst (N := 34) rfl ?_); refine copy_event rfl (.tmp 27) (.tmp 33) 25 25 rfl 90 7 Try.underlying25 (by kernel_rfl) rfl rfl (Nat.le_succ _) H5.out HLN.out HFIT.out (HSRC'.out _ HI.out.old) (flatNode.ones rho.f1) ?_; intro w5 hrow hgr; have n1_ := Aside0.mk (HI.out.grown hgr HG5.out.1 HG5.out.2); have n2_ := Aside0.mk hrow; clear HI H5 hrow hgr; have HI := n1_; have H5 := n2_; clear n1_ n2_; clear hx0 hx1 h0; have hx0 := (HI.out.old.cell (World.block_lt_of_cell? w _ HX0.out)).trans HX0.out; have hx1 := (HI.out.old.cell (World.block_lt_of_cell? w _ HX1.out)).trans HX1.out; have h0 := blk_cell HI.out.box 0; simp only [List.getElem?_toArray, List.getElem?_cons_zero] at h0)
        | ((with_reducible refine gate_store (t := 90) (p := 40) rfl ?_); refine put_event rfl rfl 90 (.tmp 40) (.tmp 39) rfl (u := .agg (nodeCells holdNode).toArray) (seg := nodeCells holdNode) rfl rfl H5.out rfl (by kernel_rfl) HFIT2.out (flatNode.one holdNode) ?_; intro w6 hrow hgr; have n1_ := Aside0.mk (HI.out.grown hgr HG5.out.1 HG5.out.2); have n2_ := Aside0.mk (show RowAt w6 g5 90 (rho.f1.flatMap nodeCells ++ nodeCells holdNode) from HROW.out ▸ hrow); clear HI H5 hrow hgr; have HI := n1_; have H5 := n2_; clear n1_ n2_; clear hx0 hx1 h0; have hx0 := (HI.out.old.cell (World.block_lt_of_cell? w _ HX0.out)).trans HX0.out; have hx1 := (HI.out.old.cell (World.block_lt_of_cell? w _ HX1.out)).trans HX1.out; have h0 := blk_cell HI.out.box 0; simp only [List.getElem?_toArray, List.getElem?_cons_zero] at h0))
      have hs1 : IntKind.i64.wrap (rho.f1.length : Int) = (rho.f1.length : Int) := IntWalk.i64_in _ (by omega)
      have hsl := run_slice_own (P := Try.prog) (t := 25) (size := 7) rfl szNode g5 (rho.f1.length + 1) (rho.f1.length + 1) rho.f1.length (by omega)
      have hix := run_indexAt_own (P := Try.prog) (t := 22) (size := 2) Try.underlying22 szRule gR (l.length + 1) (l.length + 1) i (by omega)
      go_still_tail 15, (by kernel_rfl)
      change wpList _ _ _ _ _ w6.drew
      have n1_ := Aside0.mk (HI.out.below (below_drew (Below.refl w6.heap.size w6)))
      have n2_ := Aside0.mk (H5.out.below (below_drew (Below.refl w6.heap.size w6)))
      clear HI H5
      have HI := n1_
      have H5 := n2_
      clear n1_ n2_
      generalize w6.drew = w7 at *
      refine put_event rfl rfl 30 (.tmp 55) (.tmp 54) rfl (off := i * 2) (u := .agg (ruleCells rho g5).toArray) (seg := ruleCells rho g5) rfl rfl HI.out.rules rfl (by kernel_rfl) (by
        have h1 := lentCells_length _ _ HI.out.bodies.1
        rw [List.length_append, h1, List.length_take]
        simp [ruleCells, zeroRule]
        omega) (by simp [ruleCells, Value.oneCell']) ?_
      intro w8 hrow hgr
      have n1_ := Aside0.mk (HNX.out HI.out H5.out HG5.out.1 hrow hgr)
      clear HI H5 hrow hgr HNX HM1 HX0 HX1 hx0 hx1 h0 HI1 HL1 HZ HLN HFIT HFIT2 HROW HSRC' hs1 hsl hix
      have HI := n1_
      clear n1_
      go_wp2
      go_roundw
      case rel => exact ⟨i + 1, G ++ [g5], by go_num, by omega, HI⟩
      case measure => simp [intOf]; omega
    · have e1 : i = l.length := by omega
      subst e1
      have HIX := Aside0.mk (fun W => run_indexAt_own (P := Try.prog) (t := 22) (size := 2) Try.underlying22 szRule gR (l.length + 1) (l.length + 1) l.length (by omega) W)
      have HSL := Aside0.mk (fun W => run_slice_own (P := Try.prog) (t := 22) (size := 2) rfl szRule gR (l.length + 1) (l.length + 1) l.length (by omega) W)
      have hix := HIX.out
      go_wp2_with (first
        | ((with_reducible refine gate_store (t := 30) (p := 61) rfl ?_); refine put_event rfl rfl 30 (.tmp 61) (.tmp 60) rfl (off := l.length * 2) (u := .agg #[.string holder, .slice none 0 0]) (seg := [.string holder, .slice none 0 0]) rfl rfl HI.out.rules rfl (by kernel_rfl) (by
            have h1 := lentCells_length _ _ HI.out.bodies.1
            rw [List.length_append, h1, List.length_take]
            simp [zeroRule]) (by simp [Value.oneCell']) ?_; intro w4 hrow hgr; have HF := Aside0.mk (HI.out.last hrow hgr); clear HI hrow hgr h0 hix HIX; have h0 := blk_cell HF.out.box 0; have h0b := blk_cell HF.out.box 1; have hsl := HSL.out; simp only [List.getElem?_toArray, List.getElem?_cons_zero, List.getElem?_cons_succ] at h0 h0b))
      go_still_tail 8, (by kernel_rfl)
      change wpList _ _ _ _ _ w4.drew
      have n1_ := Aside0.mk (HF.out.below (below_drew (Below.refl w4.heap.size w4)))
      clear HF
      have HF := n1_
      clear n1_
      generalize w4.drew = w5 at *
      refine store_whole rfl rfl 24 (.tmp 2) (.tmp 69) rfl (cs := #[.slice (some ⟨gR, 0, none⟩) l.length (l.length + 1), .int .i64 st]) rfl rfl HF.out.res rfl (by kernel_rfl) (by simp [Value.oneCell']) ?_
      intro w6 hbox hgr _
      have ho := HF.out.ord
      have hl := HF.out.lent
      have hres : Below w.heap.size w w6 := pw_below_grown HF.out.old (some gr) HF.out.old.size hgr (fun k hk => by cases hk; omega)
      have hlent : Lent w6 gR G l := ⟨hl.rules.grown hgr (by simp; omega), hl.bodies.grown hgr (fun hm => by have := ho.2.2.2 _ hm; omega)⟩
      clear HF hl hgr
      go_wp2
      refine bodyPost_ret (results_cell_row rfl _ _ gr 24 #[.slice (some ⟨gR, 0, none⟩) l.length (l.length + 1), .int .i64 st] (0, 0) _ rfl hbox rfl rfl (by kernel_rfl)) rfl ?_
      exact ⟨gR, G, rfl, hlent, hres, by omega, ho.2.2.2⟩
end Go.Proofs.Ytebiogaacikphaa.Core
