/- Parts of the proof of packEncodes: LendInss, Kept. No condition beyond each lemma's own. -/
import Derived.IntWalk
import Derived.Outline
import Derived.WalkKit
import Derived.Test.YtebiogaacikphaaTE3
import Derived.Test.YtebiogaacikphaaTE8
import Derived.Test.YtebiogaacikphaaTE11
import Derived.Test.YtebiogaacikphaaTE14
section
namespace Go.Proofs.Ytebiogaacikphaa.Pack
open Go.RowKit Go.Proofs.YtebiogaacikphaaW.PrintWords Go.Proofs.Ytebiogaacikphaa.PAll
set_option linter.unusedVariables false
set_option linter.unusedSimpArgs false
set_option linter.unnecessarySimpa false
theorem flatIns : Flat k78 insCells := ⟨fun w x cs => ⟨fun h => k78_open h, fun h => h ▸ k78_mk w x⟩⟩
/-- Instructions that were lent: in a block of their own, with two marks behind them. -/
def LentI (w w' : World) (l : List Ins) (x : Ending) : Prop :=
  ∃ g, x = .returned (.slice (some ⟨g, 0, none⟩) l.length (l.length + 2)) ∧ RowAt w' g 78 ((l ++ [markI 77, moreI 77]).flatMap insCells) ∧ Below w.heap.size w w' ∧ w.heap.size ≤ g
theorem mark77_lit (w : World) : Calls Try.prog 62 #[.int .i64 77] w fun e w' => e = .returned (.agg #[.int .i64 (markI 77).f0, .int .i64 (markI 77).f1, .int .u64 (markI 77).f2.f0, .int .u64 (markI 77).f2.f1, .int .u64 (markI 77).f2.f2, .int .u64 (markI 77).f2.f3, .string (markI 77).f3]) ∧ Below w.heap.size w w' :=
  dowelbook_inssMark.calls 77 _ _ _ _ _ _ _ w (by rw [dowelbook_inssMark.f]; simp only [markI]; rw [show wrap64 ((-1 : Int) - (77 : Int)) = -1 - ((77 : Nat) : Int) by rw [w64] <;> omega]; rfl)
theorem more77_lit (w : World) : Calls Try.prog 63 #[.int .i64 77] w fun e w' => e = .returned (.agg #[.int .i64 (moreI 77).f0, .int .i64 (moreI 77).f1, .int .u64 (moreI 77).f2.f0, .int .u64 (moreI 77).f2.f1, .int .u64 (moreI 77).f2.f2, .int .u64 (moreI 77).f2.f3, .string (moreI 77).f3]) ∧ Below w.heap.size w w' :=
  dowelbook_inssMore.calls 77 _ _ _ _ _ _ _ w (by rw [dowelbook_inssMore.f]; simp only [moreI]; rw [show wrap64 ((-100000 : Int) - (77 : Int)) = -100000 - ((77 : Nat) : Int) by rw [w64] <;> omega]; rfl)
theorem idx_inss (g n m k : Nat) (hk : k < n) (W : World) : (Instr.indexAt 39 (.slice (some ⟨g, 0, none⟩) n m) (.int .i64 (k : Int))).run Try.prog W = .ok (.pointer (some ⟨g, k * 7, none⟩)) W :=
  run_indexAt_own (P := Try.prog) (t := 39) (size := 7) Try.underlying39 (fun W => by kernel_rfl) g n m k hk W
theorem szIns (W : World) : (sizeOf (Try.prog.elem 39)).run Try.prog W = .ok 7 W := by kernel_rfl
set_option maxRecDepth 100000 in
theorem cut_inss (g n : Nat) (W : World) : (Instr.slice 39 (.slice (some ⟨g, 0, none⟩) (n + 2) (n + 2)) none (some (.int .i64 (n : Int))) none).run Try.prog W = .ok (.slice (some ⟨g, 0, none⟩) n (n + 2)) W :=
  run_slice_own (P := Try.prog) (t := 39) (size := 7) (by kernel_rfl) szIns g (n + 2) (n + 2) n (by omega) W
theorem rep_flat (n : Nat) : (List.replicate n (insCells zIns)).flatten = (List.replicate n zIns).flatMap insCells := by
  induction n with
  | zero => rfl
  | succ n ih => rw [List.replicate_succ, List.flatten_cons, ih, List.replicate_succ, List.flatMap_cons]
theorem copied (l : List Ins) : l.flatMap insCells ++ ((List.replicate (l.length + 2) zIns).flatMap insCells).drop (l.flatMap insCells).length = (l ++ [zIns, zIns]).flatMap insCells := by
  have e : List.replicate (l.length + 2) zIns = List.replicate l.length zIns ++ [zIns, zIns] := by rw [← List.replicate_append_replicate]; rfl
  have h1 : (l.flatMap insCells).length = ((List.replicate l.length zIns).flatMap insCells).length := by rw [flat_len insCells_len, flat_len insCells_len, List.length_replicate]
  rw [e, List.flatMap_append, List.flatMap_append, h1, List.drop_left]
theorem set_first (l : List Ins) (a b y : Ins) : (l ++ [a, b]).set l.length y = l ++ [y, b] := by
  rw [List.set_append_right _ _ (Nat.le_refl _), Nat.sub_self]; rfl
theorem set_second (l : List Ins) (a b y : Ins) : (l ++ [a, b]).set (l.length + 1) y = l ++ [a, y] := by
  rw [List.set_append_right _ _ (by omega), Nat.add_sub_cancel_left]; rfl
section
variable (w : World) (A : Option Addr) (c : Nat) (l : List Ins)
set_option maxHeartbeats 2000000 in
theorem lendInss_calls (hr : Kd.C k78 w A l.length l) (hc : l.length ≤ c) (hl : l.length ≤ 16777216) :
    Calls Try.prog 34 #[.slice A l.length c] w fun x w' => LentI w w' l x := by
  have HR := Aside0.mk hr
  have hl' := hl
  have hw1 : IntKind.i64.wrap ((l.length : Int) + 2) = ((l.length + 2 : Nat) : Int) := by rw [IntWalk.i64_in _ (by omega)]; omega
  have hw2 : IntKind.i64.wrap ((l.length : Int) + 1) = ((l.length + 1 : Nat) : Int) := by rw [IntWalk.i64_in _ (by omega)]; omega
  clear hr hc
  go_enter Try.func34, Try.ntmps34
  go_wp2_with (first
    | ((with_reducible refine gate_dst (N := 7) rfl ?_); refine make_event rfl 39 (.tmp 6) (.tmp 6) rfl (l.length + 2) rfl rfl 78 (.agg #[.int .i64 0, .int .i64 0, .int .u64 0, .int .u64 0, .int .u64 0, .int .u64 0, .string (⟨#[]⟩ : ByteArray)]) 7 64 Try.underlying39 (by kernel_rfl) rfl (by omega) (by omega) ?_; intro g hg w3 hrow hb3; have HB := Aside0.mk hb3; have HG := Aside0.mk (show w.heap.size ≤ g by omega); have HROW := Aside0.mk (show RowAt w3 g 78 ((List.replicate (l.length + 2) zIns).flatMap insCells) by rw [← rep_flat]; exact hrow); have hix0 := idx_inss g (l.length + 2) (l.length + 2) l.length (by omega); have hix1 := idx_inss g (l.length + 2) (l.length + 2) (l.length + 1) (by omega); clear hrow hb3 hg)
    | ((with_reducible refine gate_dst (N := 10) rfl ?_); refine copy_event rfl (.tmp 8) (.tmp 9) 39 39 rfl 78 7 Try.underlying39 (by kernel_rfl) (news := l.flatMap insCells) rfl rfl (by omega) HROW.out (flat_len insCells_len l) (by rw [flat_len insCells_len, flat_len insCells_len, List.length_replicate]; omega) (flatIns.cells (by decide) (Kd.C_below HR.out HB.out)) (flatIns.ones l) ?_; intro w5 hrow hgr; have n1_ := Aside0.mk (pw_below_grown HB.out (some g) HB.out.size hgr (fun k hk => by injection hk with hk; have := HG.out; omega)); have n2_ := Aside0.mk (show RowAt w5 g 78 ((l ++ [zIns, zIns]).flatMap insCells) by rw [← copied]; exact hrow); clear HB HROW hrow hgr; have HB := n1_; have HROW := n2_; clear n1_ n2_)
    | (go_at_call 62; refine (mark77_lit _).mono ?_; rintro xx w6 ⟨rfl, hb⟩; have n1_ := Aside0.mk (below_step HB.out hb); have n2_ := Aside0.mk (HROW.out.below hb); clear HB HROW hb; have HB := n1_; have HROW := n2_; clear n1_ n2_)
    | (go_at_call 63; refine (more77_lit _).mono ?_; rintro xx w6 ⟨rfl, hb⟩; have n1_ := Aside0.mk (below_step HB.out hb); have n2_ := Aside0.mk (HROW.out.below hb); clear HB HROW hb; have HB := n1_; have HROW := n2_; clear n1_ n2_)
    | ((with_reducible refine gate_store (t := 78) (p := 15) rfl ?_); refine put_event rfl rfl 78 (.tmp 15) (.tmp 14) rfl (g := g) (off := l.length * 7) (seg := insCells (markI 77)) rfl rfl HROW.out rfl (by kernel_rfl) (by rw [insCells_len, flat_len insCells_len]; simp; omega) (by simp [insCells, Value.oneCell']) ?_; intro w7 hrow hgr; have n1_ := Aside0.mk (pw_below_grown HB.out (some g) HB.out.size hgr (fun k hk => by injection hk with hk; have := HG.out; omega)); have n2_ := Aside0.mk (show RowAt w7 g 78 ((l ++ [markI 77, zIns]).flatMap insCells) by rw [← set_first l zIns zIns (markI 77), ← flat_set insCells_len (markI 77) (l ++ [zIns, zIns]) l.length (by simp)]; exact hrow); clear HB HROW hrow hgr; have HB := n1_; have HROW := n2_; clear n1_ n2_)
    | ((with_reducible refine gate_store (t := 78) (p := 21) rfl ?_); refine put_event rfl rfl 78 (.tmp 21) (.tmp 20) rfl (g := g) (off := (l.length + 1) * 7) (seg := insCells (moreI 77)) rfl rfl HROW.out rfl (by kernel_rfl) (by rw [insCells_len, flat_len insCells_len]; simp; omega) (by simp [insCells, Value.oneCell']) ?_; intro w7 hrow hgr; have n1_ := Aside0.mk (pw_below_grown HB.out (some g) HB.out.size hgr (fun k hk => by injection hk with hk; have := HG.out; omega)); have n2_ := Aside0.mk (show RowAt w7 g 78 ((l ++ [markI 77, moreI 77]).flatMap insCells) by rw [← set_second l (markI 77) zIns (moreI 77), ← flat_set insCells_len (moreI 77) (l ++ [markI 77, zIns]) (l.length + 1) (by simp)]; exact hrow); clear HB HROW hrow hgr; have HB := n1_; have HROW := n2_; clear n1_ n2_; have hcut := cut_inss g l.length))
  go_ret
  exact ⟨g, rfl, HROW.out, HB.out, HG.out⟩
end
end Go.Proofs.Ytebiogaacikphaa.Pack
end
section
namespace Go.Proofs.Ytebiogaacikphaa.Pack
open Go.RowKit Go.Proofs.YtebiogaacikphaaW.PrintWords Go.Proofs.Ytebiogaacikphaa.PAll
set_option linter.unusedVariables false
set_option linter.unusedSimpArgs false
theorem bytes_loop (l : List Int) (hl : l.length ≤ 140737488351232) : ∀ d i : Nat, i + d = l.length → Ev (fun k => dowelbook_Bytes.l0 k l l (i : Int)) true
  | 0, i, h => by
    refine Ev.step (fun _ => by rw [dowelbook_Bytes.l0]) ?_
    exact Ev.neg (by omega) (Ev.some_ rfl)
  | d + 1, i, h => by
    have ih := bytes_loop l hl d (i + 1) (by omega)
    refine Ev.step (fun _ => by rw [dowelbook_Bytes.l0]) ?_
    refine Ev.pos (by omega) (Ev.pos (by omega) (Ev.pos (by omega) (Ev.pos rfl ?_)))
    rw [show wrap64 ((i : Int) + 1) = ((i + 1 : Nat) : Int) by rw [w64] <;> omega]
    exact ih
theorem bytes_ev (l : List Int) (hl : l.length ≤ 140737488351232) : Ev (fun k => dowelbook_Bytes.f k l l) true := by
  unfold dowelbook_Bytes.f
  exact Ev.pos rfl (bytes_loop l hl l.length 0 (by omega))
theorem bytes_lit (A : Option Addr) (c : Nat) (A2 : Option Addr) (c2 : Nat) (l : List Int) (w : World) (h : Kd.C (Kd.int .u8) w A l.length l) (hc : l.length ≤ c) (h2 : Kd.C (Kd.int .u8) w A2 l.length l) (hc2 : l.length ≤ c2) (hl : l.length ≤ 140737488351232) :
    Calls Try.prog 37 #[.slice A l.length c, .slice A2 l.length c2] w fun e w' => e = .returned (.bool true) ∧ Drawn0 w w' := by
  obtain ⟨k, hk⟩ := bytes_ev l hl
  exact dowelbook_Bytes.calls k A c l A2 c2 l true w h hc h2 hc2 (hk k (Nat.le_refl _))
end Go.Proofs.Ytebiogaacikphaa.Pack
end
