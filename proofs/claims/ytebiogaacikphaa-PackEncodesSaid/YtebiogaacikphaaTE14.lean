/- Parts of the proof of packEncodes: Encode, Free, FreeInss. No condition beyond each lemma's own. -/
import Derived.IntWalk
import Derived.WalkKit
import Derived.Test.YtebiogaacikphaaTE6
import Derived.Test.YtebiogaacikphaaTE8
import Derived.Test.YtebiogaacikphaaTE11
import Derived.Test.YtebiogaacikphaaTE13
section
namespace Go.Proofs.Ytebiogaacikphaa.Pack
open Go.RowKit Go.Proofs.YtebiogaacikphaaW.PrintWords Go.Proofs.Ytebiogaacikphaa.PAll Go.Proofs.Ytebiogaacikphaa.Names
set_option linter.unusedVariables false
set_option linter.unusedSimpArgs false
set_option linter.unnecessarySimpa false
/-- What Encode answers. -/
def EncOut (w w' : World) (l : List Ins) (x : Ending) : Prop :=
  ((checkL l).2 ≠ 0 ∧ x = .returned (.tuple #[.slice none 0 0, .int .i64 (checkL l).2])) ∨
  (checkL l = (0, 0) ∧ 4194304 < (encodeE l).length ∧ x = .returned (.tuple #[.slice none 0 0, .int .i64 2])) ∨
  (checkL l = (0, 0) ∧ (encodeE l).length ≤ 4194304 ∧ ∃ v, x = .returned (.tuple #[v, .int .i64 0]) ∧ w'.ownsRow w.heap.size 5 1 v (encodeE l).length (nums .u8 (encodeE l)))
theorem check_zero {l : List Ins} (h : (checkL l).2 = 0) : checkL l = (0, 0) := by
  unfold checkL at h ⊢
  split at h
  · cases h
  · rename_i c0
    rw [if_neg c0]
    split at h
    · cases h
    · rename_i c1
      rw [if_neg c1]
      split at h
      · cases h
      · rfl
theorem rebase {w W W' : World} {gt gc gn : Nat} {cs : List Value} {vs vt : Value} {lc : List (Four × Value)} {ln : List (ByteArray × Value)} {S : List Four} {T : List ByteArray} (hb : Below w.heap.size w W) (h : GT W W' gt gc gn cs vs vt lc ln S T) : GT w W' gt gc gn cs vs vt lc ln S T :=
  ⟨below_step hb h.bel, h.row, h.mc, h.mn, own_less h.s hb.size, own_less h.t hb.size, ⟨Nat.le_trans hb.size h.ge.1, h.ge.2⟩, h.offs, h.offt⟩
theorem below_of_nil {W W' : World} (h : W.grownBy W' (Value.slice none 0 0).ownBlock) : Below W.heap.size W W' := ⟨h.os, h.tape, h.output, h.size, fun k hk => h.block k hk (by simp [Value.ownBlock])⟩
section
variable (A : Option Addr) (c : Nat) (l : List Ins) (w : World)
set_option maxHeartbeats 4000000 in
set_option maxRecDepth 100000 in
theorem encode_bad (hr : Kd.C k78 w A l.length l) (hc : l.length ≤ c) (hl : l.length ≤ 140737488351232) (hs : ∀ x ∈ l, x.f3.size ≤ 140737488351232) (hbad : (checkL l).2 ≠ 0) :
    Calls Try.prog 35 #[.slice A l.length c] w fun e w' => EncOut w w' l e ∧ Below w.heap.size w w' := by
  have HR := Aside0.mk hr
  have HC := Aside0.mk hc
  have HSS := Aside0.mk hs
  obtain ⟨f0, f1, hf⟩ : ∃ f0 f1, checkL l = (f0, f1) := ⟨_, _, rfl⟩
  rw [hf] at hbad
  have HF := Aside0.mk hf
  have b0 : (f1 != 0) = true := by simpa using hbad
  have HBAD := Aside0.mk hbad
  clear hr hc hs hf hbad
  go_enter Try.func35, Try.ntmps35
  go_wp2_with (first
    | (go_at_call 41; have hcall := check_calls A c l w HR.out HC.out hl HSS.out _ HF.out; (with_reducible refine hcall.mono ?_); clear hcall; rintro xx w2 ⟨rfl, hb⟩; have HB := Aside0.mk hb; clear hb)
    | ((with_reducible refine gate_dst (N := 4) rfl ?_); refine box_event (N := 4) rfl rfl (cs := #[.int .i64 0, .int .i64 0]) (t := 42) ?hr2 ?_; (case hr2 => first | (go_simp; done) | (go_simp; rfl)); intro g4 hg4 w3 hbox hb1; have H4 := Aside0.mk (show RowAt w3 g4 42 [.int .i64 0, .int .i64 0] from ⟨_, hbox, rfl⟩); have n1_ := Aside0.mk (below_step HB.out hb1); have HG4 := Aside0.mk (show w.heap.size ≤ g4 by have := HB.out.size; omega); clear HB hbox hb1 hg4; have HB := n1_; clear n1_)
    | ((with_reducible refine gate_store (t := 42) (p := 4) rfl ?_); refine put_event rfl rfl 42 (.tmp 4) (.tmp 16) rfl (off := 0) (u := .agg #[.int .i64 f0, .int .i64 f1]) (seg := [.int .i64 f0, .int .i64 f1]) rfl rfl H4.out rfl (by kernel_rfl) (by simp) (by simp [Value.oneCell']) ?_; intro w5 hrow hgr; have n1_ := Aside0.mk (pw_below_grown HB.out (some g4) HB.out.size hgr (fun k hk => by injection hk with hk; have := HG4.out; omega)); have n2_ := Aside0.mk (show RowAt w5 g4 42 [.int .i64 f0, .int .i64 f1] from hrow); clear HB H4 hrow hgr; have HB := n1_; have H4 := n2_; clear n1_ n2_; have z1 := H4.out.cell 1; simp only [List.getElem?_cons_succ, List.getElem?_cons_zero] at z1))
  go_quiet (fail)
  go_wp2
  go_ret2
  exact ⟨.inl ⟨by rw [HF.out]; exact HBAD.out, by rw [HF.out]; rfl⟩, pw_below_drewN HB.out nq⟩
set_option maxHeartbeats 8000000 in
set_option maxRecDepth 100000 in
theorem encode_good (hr : Kd.C k78 w A l.length l) (hc : l.length ≤ c) (hl : l.length ≤ 140737488351232) (hs : ∀ x ∈ l, x.f3.size ≤ 140737488351232) (hok : checkL l = (0, 0)) :
    Calls Try.prog 35 #[.slice A l.length c] w fun e w' => EncOut w w' l e ∧ Below w.heap.size w w' := by
  have HR := Aside0.mk hr
  have HC := Aside0.mk hc
  have HSS := Aside0.mk hs
  have HF := Aside0.mk hok
  obtain ⟨l0, l1, l2⟩ := (checkL_ok l).1 hok
  have HOK := Aside0.mk (fun x hx => rightB_ok (l2 x hx))


  have HCl : Aside0 ((l.foldl addC []).length ≤ 65536) := ⟨by have := foldC_length l []; rw [List.length_nil, Nat.zero_add] at this; omega⟩
  have HNl : Aside0 ((l.foldl addN []).length ≤ 65536) := ⟨by have := foldN_length l []; rw [List.length_nil, Nat.zero_add] at this; omega⟩
  have HNm : Aside0 (∀ s ∈ l.foldl addN [], okName s = true) := ⟨fun s h => by
    rcases foldN_mem l [] s h with h | ⟨x, hx, hk, rfl⟩
    · cases h
    · exact (HOK.out x hx).2 hk⟩
  have HNB : Aside0 (∀ i, (e3 (l.foldl addC []) (l.foldl addN []) l i).length ≤ 6619150) := ⟨fun i => e3_len l1 (fun x hx => (HOK.out x hx).1) (fun x hx => (HOK.out x hx).2)⟩
  have HEND := Aside0.mk (e3_end l)
  have HHC := Aside0.mk (fun x h => foldC_has l [] x h)
  have HHN := Aside0.mk (fun x h => foldN_has l [] x h)
  obtain ⟨S, hS⟩ : ∃ S, l.foldl addC [] = S := ⟨_, rfl⟩
  obtain ⟨T, hT⟩ : ∃ T, l.foldl addN [] = T := ⟨_, rfl⟩
  rw [hS] at HCl HEND HHC HNB
  rw [hT] at HNl HNm HEND HHN HNB
  have HS := Aside0.mk hS
  have HT := Aside0.mk hT
  clear hr hc hs hok l2 hS hT
  have hwS : IntKind.u64.wrap (S.length : Int) = (S.length : Int) := Bits.wrap_u64 _ (by omega) (by have := HCl.out; omega)
  have hwT : IntKind.u64.wrap (T.length : Int) = (T.length : Int) := Bits.wrap_u64 _ (by omega) (by have := HNl.out; omega)
  have hwL : IntKind.u64.wrap (l.length : Int) = (l.length : Int) := Bits.wrap_u64 _ (by omega) (by omega)
  go_enter Try.func35, Try.ntmps35
  go_wp2_with (first
    | (go_at_call 41; have hcall := check_calls A c l w HR.out HC.out hl HSS.out _ HF.out; (with_reducible refine hcall.mono ?_); clear hcall; rintro xx w2 ⟨rfl, hb⟩; have HB := Aside0.mk hb; clear hb)
    | ((with_reducible refine gate_dst (N := 4) rfl ?_); refine box_event (N := 4) rfl rfl (cs := #[.int .i64 0, .int .i64 0]) (t := 42) ?hr2 ?_; (case hr2 => first | (go_simp; done) | (go_simp; rfl)); intro g4 hg4 w3 hbox hb1; have H4 := Aside0.mk (show RowAt w3 g4 42 [.int .i64 0, .int .i64 0] from ⟨_, hbox, rfl⟩); have n1_ := Aside0.mk (below_step HB.out hb1); have HG4 := Aside0.mk (show w.heap.size ≤ g4 by have := HB.out.size; omega); clear HB hbox hb1 hg4; have HB := n1_; clear n1_)
    | ((with_reducible refine gate_store (t := 42) (p := 4) rfl ?_); refine put_event rfl rfl 42 (.tmp 4) (.tmp 16) rfl (off := 0) (u := .agg #[.int .i64 0, .int .i64 0]) (seg := [.int .i64 0, .int .i64 0]) rfl rfl H4.out rfl (by kernel_rfl) (by simp) (by simp [Value.oneCell']) ?_; intro w5 hrow hgr; have n1_ := Aside0.mk (pw_below_grown HB.out (some g4) HB.out.size hgr (fun k hk => by injection hk with hk; have := HG4.out; omega)); have n2_ := Aside0.mk (show RowAt w5 g4 42 [.int .i64 0, .int .i64 0] from hrow); clear HB H4 hrow hgr; have HB := n1_; have H4 := n2_; clear n1_ n2_; have z1 := H4.out.cell 1; simp only [List.getElem?_cons_succ, List.getElem?_cons_zero] at z1)
    | (go_at_call 71; have hcall := gathered_calls A c l w5 (Kd.C_below HR.out HB.out) l1; (with_reducible refine hcall.mono ?_); clear hcall; rintro xx w6 ⟨gt, gc, gn, vs, vt, rfl, hg⟩; rw [HS.out, HT.out] at hg; have hbw := below_step HB.out hg.bel; have HW := Aside0.mk hbw.size; obtain ⟨As, cs, rfl⟩ := own_len hg.s; obtain ⟨At, ct, rfl⟩ := own_len hg.t; have HG := Aside0.mk (rebase HB.out hg); clear hg hbw; (try clear r0 r1 r2 r3); obtain ⟨r0, r1, r2, r3⟩ := cells4 HG.out.row)
    | (go_at_call 72; refine (pack_magic.calls 100 111 119 108 1 _ rfl).mono ?_; rintro xx w7 ⟨rfl, hb3⟩; have n1_ := Aside0.mk (HG.out.below hb3); clear HG hb3; have HG := n1_; clear n1_; (try clear r0 r1 r2 r3); obtain ⟨r0, r1, r2, r3⟩ := cells4 HG.out.row)
    | ((with_reducible refine gate_dst (N := 6) rfl ?_); refine box_event (N := 6) rfl rfl (cs := #[.int .u8 0, .int .u8 0, .int .u8 0, .int .u8 0, .int .u8 0]) (t := 137) ?hr2 ?_; (case hr2 => first | (go_simp; done) | (go_simp; rfl)); intro g6 hg6 w8 hbox hb1; have H6 := Aside0.mk (show RowAt w8 g6 137 [.int .u8 0, .int .u8 0, .int .u8 0, .int .u8 0, .int .u8 0] from ⟨_, hbox, rfl⟩); have HG6 := Aside0.mk (new_off HG.out hg6); have n1_ := Aside0.mk (HG.out.below hb1); clear HG hbox hb1 hg6; have HG := n1_; clear n1_; (try clear r0 r1 r2 r3); obtain ⟨r0, r1, r2, r3⟩ := cells4 HG.out.row)
    | ((with_reducible refine gate_store (t := 137) (p := 6) rfl ?_); refine put_event rfl rfl 137 (.tmp 6) (.tmp 24) rfl (off := 0) (u := .agg #[.int .u8 100, .int .u8 111, .int .u8 119, .int .u8 108, .int .u8 1]) (seg := [.int .u8 100, .int .u8 111, .int .u8 119, .int .u8 108, .int .u8 1]) rfl rfl H6.out rfl (by kernel_rfl) (by simp) (by simp [Value.oneCell']) ?_; intro w9 hrow hgr; have n1_ := Aside0.mk (HG.out.other hgr HG6.out.1 HG6.out.2.1 HG6.out.2.2); clear HG H6 hgr; have HG := n1_; clear n1_; have H6 := Aside0.mk (show RowAt w9 g6 137 (magicL.map (Value.int .u8)) from hrow); clear hrow; (try clear r0 r1 r2 r3); obtain ⟨r0, r1, r2, r3⟩ := cells4 HG.out.row)
    | ((with_reducible refine gate_builtin (b := .append) (xs := #[.const (.slice none 0 0), .tmp 25]) rfl ?_); at_builtin; refine print_append_row_of (Value.int .u8) 0 w.heap.size rfl (.const (.slice none 0 0)) (.tmp 25) 37 5 (.int .u8 0) 1 rfl Try.underlying37 (by kernel_rfl) rfl (by decide) (fun _ => rfl) (.slice none 0 0) [] magicL (some ⟨g6, 0, none⟩) 5 5 rfl rfl (World.ownsRow_nil _ _ _ _) (Kd.reads_of_C (h1 := fun _ => rfl) (C_row' H6.out (by decide))) (Below.refl _ _) HG.out.bel.size (by decide) ?_; intro v w10 hown hbel hgr _; have HE : Aside0 (EI w w10 gt gc gn (.slice As S.length cs) (.slice At T.length ct) S T v magicL) := ⟨HG.out.below (below_of_nil hgr), hown⟩; clear HG H6 hown hbel hgr; (try clear r0 r1 r2 r3); obtain ⟨r0, r1, r2, r3⟩ := cells4 HE.out.tab.row)
    | (go_at_call 73; have hcall := counts_lit HE.out S.length (by have := HCl.out; simp [magicL]; omega); (with_reducible refine hcall.mono ?_); clear hcall; rintro xx wc ⟨vc, rfl, he⟩; clear HE; have HE := Aside0.mk he; clear he; (try clear r0 r1 r2 r3); obtain ⟨r0, r1, r2, r3⟩ := cells4 HE.out.tab.row))
  go_loopw [7, 41] (fun v7 v41 wr => ∃ (i : Nat), v41 = .int .i64 (i : Int) ∧ Aside0 (i ≤ S.length) ∧ Aside0 (EI w wr gt gc gn (.slice As S.length cs) (.slice At T.length ct) S T v7 (e1 S i))) (fun v7 v41 _ => S.length - (intOf v41).toNat)
  case atStart => exact ⟨0, rfl, ⟨Nat.zero_le _⟩, ⟨by rw [← e1_start]; exact HE.out⟩⟩
  case round =>
    clear HE r0 r1 r2 r3
    obtain ⟨i, rfl, HI, HE⟩ := hrel
    obtain ⟨r0, r1, r2, r3⟩ := cells4 HE.out.tab.row
    by_cases c2 : i < S.length
    · have k2 : decide ((i : Int) < (S.length : Int)) = true := decide_eq_true (by omega)
      have k2n : decide (i < S.length) = true := decide_eq_true c2
      obtain ⟨y, hy⟩ : ∃ y, S[i]? = some y := ⟨S[i], List.getElem?_eq_getElem c2⟩
      have HY := Aside0.mk hy
      obtain ⟨g, cp, he, hcl⟩ := cls_at HE.out.tab.s hy
      cases he
      have hixS : ∀ W : World, (Instr.indexAt 85 (.slice (some ⟨g, 0, none⟩) S.length cs) (.int .i64 (i : Int))).run Try.prog W = .ok (.pointer (some ⟨g, i * 4, none⟩)) W :=
        fun W => run_indexAt_own (P := Try.prog) (t := 85) (size := 4) Try.underlying85 (fun W => by kernel_rfl) g S.length cs i c2 W
      have y0 := hcl 0 _ rfl
      rw [Nat.add_zero] at y0
      have y1 := hcl 1 _ rfl
      have y2 := hcl 2 _ rfl
      have y3 := hcl 3 _ rfl
      have hw1 : IntKind.i64.wrap ((i : Int) + 1) = ((i + 1 : Nat) : Int) := by rw [IntWalk.i64_in _ (by have := HCl.out; omega)]; omega
      clear hcl hy c2
      go_wp2_with (first
        | ((with_reducible refine gate_dst (N := 9) rfl ?_); refine box_event (N := 9) rfl rfl (cs := #[.int .u64 0, .int .u64 0, .int .u64 0, .int .u64 0]) (t := 76) ?hr2 ?_; (case hr2 => first | (go_simp; done) | (go_simp; rfl)); intro g9 hg9 w8 hbox hb1; have H9 := Aside0.mk (show RowAt w8 g9 76 [.int .u64 0, .int .u64 0, .int .u64 0, .int .u64 0] from ⟨_, hbox, rfl⟩); have HG9 := Aside0.mk (HE.out.new_off hg9); have n1_ := Aside0.mk (HE.out.below hb1); clear HE hbox hb1 hg9 y0 y1 y2 y3; have HE := n1_; clear n1_; (try clear r0 r1 r2 r3); obtain ⟨r0, r1, r2, r3⟩ := cells4 HE.out.tab.row)
        | ((with_reducible refine gate_store (t := 76) (p := 9) rfl ?_); refine put_event rfl rfl 76 (.tmp 9) (.tmp 44) rfl (off := 0) (u := .agg #[.int .u64 y.1, .int .u64 y.2.1, .int .u64 y.2.2.1, .int .u64 y.2.2.2]) (seg := [.int .u64 y.1, .int .u64 y.2.1, .int .u64 y.2.2.1, .int .u64 y.2.2.2]) rfl rfl H9.out rfl (by kernel_rfl) (by simp) (by simp [Value.oneCell']) ?_; intro w9 hrow hgr; have n1_ := Aside0.mk (HE.out.other hgr HG9.out); clear HE H9 hgr; have HE := n1_; clear n1_; have H9 := Aside0.mk (show RowAt w9 g9 76 [.int .u64 y.1, .int .u64 y.2.1, .int .u64 y.2.2.1, .int .u64 y.2.2.2] from hrow); clear hrow; obtain ⟨y0, y1, y2, y3⟩ := cells4 H9.out; (try clear r0 r1 r2 r3); obtain ⟨r0, r1, r2, r3⟩ := cells4 HE.out.tab.row)
        | (go_at_call 74; have hcall := fixed8_lit HE.out y (by have := e1_len (i := i) HCl.out; omega); (with_reducible refine hcall.mono ?_); clear hcall; rintro xx wc ⟨vc, rfl, he⟩; clear HE; have HE := Aside0.mk he; clear he H9 y0 y1 y2 y3; (try clear r0 r1 r2 r3); obtain ⟨r0, r1, r2, r3⟩ := cells4 HE.out.tab.row))
      go_roundw
      case measure => have := HI.out; have h1 := (List.getElem?_eq_some_iff.1 HY.out).1; simp [intOf]; omega
      case rel => exact ⟨i + 1, by go_num, ⟨(List.getElem?_eq_some_iff.1 HY.out).1⟩, ⟨by have h := HE.out; rw [e1_step HY.out] at h; exact h⟩⟩
    · have k2 : decide ((i : Int) < (S.length : Int)) = false := decide_eq_false (by omega)
      have hi : i = S.length := by have := HI.out; omega
      subst hi
      clear HI c2
      go_wp2_with (first
        | (go_at_call 73; have hcall := counts_lit HE.out T.length (by have := e1_len (i := S.length) HCl.out; have := HNl.out; omega); (with_reducible refine hcall.mono ?_); clear hcall; rintro xx wc ⟨vc, rfl, he⟩; clear HE; have HE := Aside0.mk he; clear he; (try clear r0 r1 r2 r3); obtain ⟨r0, r1, r2, r3⟩ := cells4 HE.out.tab.row))
      go_loopw [7, 71] (fun v7 v71 wr => ∃ (i : Nat), v71 = .int .i64 (i : Int) ∧ Aside0 (i ≤ T.length) ∧ Aside0 (EI w wr gt gc gn (.slice As S.length cs) (.slice At T.length ct) S T v7 (e2 S T i))) (fun v7 v71 _ => T.length - (intOf v71).toNat)
      case atStart => exact ⟨0, rfl, ⟨Nat.zero_le _⟩, ⟨by rw [← e2_start]; exact HE.out⟩⟩
      case round =>
        clear HE r0 r1 r2 r3 k2
        obtain ⟨i, rfl, HI, HE⟩ := hrel
        obtain ⟨r0, r1, r2, r3⟩ := cells4 HE.out.tab.row
        by_cases c2 : i < T.length
        · have k2 : decide ((i : Int) < (T.length : Int)) = true := decide_eq_true (by omega)
          have k2n : decide (i < T.length) = true := decide_eq_true c2
          obtain ⟨s, hy⟩ : ∃ s, T[i]? = some s := ⟨T[i], List.getElem?_eq_getElem c2⟩
          have HY := Aside0.mk hy
          have HSZ := Aside0.mk (okName_size (HNm.out s (List.mem_of_getElem? hy))).2
          obtain ⟨g, cp, he, y0⟩ := str_at HE.out.tab.t hy
          cases he
          have hixT : ∀ W : World, (Instr.indexAt 86 (.slice (some ⟨g, 0, none⟩) T.length ct) (.int .i64 (i : Int))).run Try.prog W = .ok (.pointer (some ⟨g, i, none⟩)) W := fun W => by
            have := run_indexAt_own (P := Try.prog) (t := 86) (size := 1) Try.underlying86 (fun W => by kernel_rfl) g T.length ct i c2 W
            rwa [Nat.mul_one] at this
          have hw1 : IntKind.i64.wrap ((i : Int) + 1) = ((i + 1 : Nat) : Int) := by rw [IntWalk.i64_in _ (by have := HNl.out; omega)]; omega
          have hwz : IntKind.u64.wrap (s.size : Int) = (s.size : Int) := Bits.wrap_u64 _ (by omega) (by have := HSZ.out; omega)
          clear hy c2
          go_wp2_with (first
            | (go_at_call 73; have hcall := counts_lit HE.out s.size (by have := e2_len (i := i) HCl.out HNl.out HNm.out; have := HSZ.out; omega); (with_reducible refine hcall.mono ?_); clear hcall; rintro xx wc ⟨vc, rfl, he⟩; clear HE; have HE := Aside0.mk he; clear he; (try clear r0 r1 r2 r3); obtain ⟨r0, r1, r2, r3⟩ := cells4 HE.out.tab.row)
            | ((with_reducible refine gate_builtin (b := .append) (xs := #[.tmp 80, .tmp 81]) rfl ?_); at_builtin; refine print_append_str w.heap.size rfl (.tmp 80) (.tmp 81) 37 9 5 rfl Try.underlying37 Try.underlying9 (by kernel_rfl) vc (e2 S T i ++ cntE s.size) s rfl rfl HE.out.own (Below.refl _ _) HE.out.tab.bel.size (by rw [List.length_append]; have h1 := e2_len (i := i) HCl.out HNl.out HNm.out; have h2 := HSZ.out; have h3 := cntE_three s.size (by omega); omega) ?_; intro v1 w1 hown hbel hgr; have n1_ := Aside0.mk (HE.out.grown hgr hown); clear HE hown hbel hgr; have HE := n1_; clear n1_; (try clear r0 r1 r2 r3); obtain ⟨r0, r1, r2, r3⟩ := cells4 HE.out.tab.row))
          go_roundw
          case measure => have := HI.out; have h1 := (List.getElem?_eq_some_iff.1 HY.out).1; simp [intOf]; omega
          case rel => exact ⟨i + 1, by go_num, ⟨(List.getElem?_eq_some_iff.1 HY.out).1⟩, ⟨by have h := HE.out; rw [bytesOf_nums, e2_step HY.out] at h; exact h⟩⟩
        · have k2 : decide ((i : Int) < (T.length : Int)) = false := decide_eq_false (by omega)
          have hi : i = T.length := by have := HI.out; omega
          subst hi
          clear HI c2
          go_wp2_with (first
            | (go_at_call 73; have hcall := counts_lit HE.out l.length (by have := e2_len (i := T.length) HCl.out HNl.out HNm.out; omega); (with_reducible refine hcall.mono ?_); clear hcall; rintro xx wc ⟨vc, rfl, he⟩; clear HE; have HE := Aside0.mk he; clear he; (try clear r0 r1 r2 r3); obtain ⟨r0, r1, r2, r3⟩ := cells4 HE.out.tab.row))
          go_loopw [7, 92] (fun v7 v92 wr => ∃ (i : Nat), v92 = .int .i64 (i : Int) ∧ Aside0 (i ≤ l.length) ∧ Aside0 (EI w wr gt gc gn (.slice As S.length cs) (.slice At T.length ct) S T v7 (e3 S T l i))) (fun v7 v92 _ => l.length - (intOf v92).toNat)
          case atStart => exact ⟨0, rfl, ⟨Nat.zero_le _⟩, ⟨by rw [← e3_start]; exact HE.out⟩⟩
          case round =>
            clear HE r0 r1 r2 r3 k2
            obtain ⟨i, rfl, HI, HE⟩ := hrel
            by_cases c2 : i < l.length
            · have k2 : decide ((i : Int) < (l.length : Int)) = true := decide_eq_true (by omega)
              have k2n : decide (i < l.length) = true := decide_eq_true c2
              have p0 : (0 : Int) ≤ (i : Int) := by omega
              obtain ⟨x, hx⟩ : ∃ x, rd_T78 l (i : Int) = x := ⟨_, rfl⟩
              have hget : l[i]? = some x := by
                rw [List.getElem?_eq_getElem c2, ← hx, rd_T78, List.getD_eq_getElem?_getD, Int.toNat_natCast, List.getElem?_eq_getElem c2]
                rfl
              obtain ⟨ad, e, x0, x1, x2, x3, x4, x5, x6⟩ := at_T78 (Kd.C_below HR.out HE.out.tab.bel) (i : Int) p0 (by omega)
              rw [hx] at x0 x1 x2 x3 x4 x5 x6
              simp only [Int.toNat_natCast] at x0 x1 x2 x3 x4 x5 x6
              cases e
              have q0n : (i < l.length) = True := eq_true c2
              have HY := Aside0.mk hget
              have hmem : x ∈ l := List.mem_of_getElem? hget
              have hio := (HOK.out x hmem).1
              have hop := hio.op
              have HNUM : Aside0 (∀ W, Tabs w W gt gc gn (.slice As S.length cs) (.slice At T.length ct) S T → Calls Try.prog 75 #[.pointer (some ⟨gt, 0, none⟩), .int .i64 i, .agg #[.int .i64 x.f0, .int .i64 x.f1, .int .u64 x.f2.f0, .int .u64 x.f2.f1, .int .u64 x.f2.f2, .int .u64 x.f2.f3, .string x.f3]] W fun e W' => e = .returned (.int .u64 (operN i x S T : Int)) ∧ Below W.heap.size W W') :=
                ⟨fun W hg => number_calls w W gt gc gn _ _ S T i x hg (by omega) (fun k => by have := (hio.k1 k).2; omega) (HHC.out x hmem) (HHN.out x hmem) HCl.out HNl.out⟩
              have hw1 : IntKind.i64.wrap ((i : Int) + 1) = ((i + 1 : Nat) : Int) := by rw [IntWalk.i64_in _ (by omega)]; omega
              have hN : operN i x S T ≤ 131072 := by
                rcases kind4 x.f0 with k | k | k | k
                · rw [operN, if_neg (by omega), if_neg (by omega), if_neg (by omega)]; omega
                · have := (hio.k1 k).2
                  rw [operN, if_pos k]; unfold farN; split <;> omega
                · have := place_lt (HHC.out x hmem k)
                  have := HCl.out
                  rw [operN, if_neg (by omega), if_pos k]; omega
                · have := place_lt (HHN.out x hmem k)
                  have := HNl.out
                  rw [operN, if_neg (by omega), if_neg (by omega), if_pos k]; omega
              have hst := Aside0.mk (e3_step (S := S) (T := T) hget)
              have hc1 : IntKind.u8.wrap x.f0 = x.f0 := by obtain ⟨n, hn⟩ := Int.eq_ofNat_of_zero_le hop.1; rw [hn]; exact Bits.wrap_u .u8 rfl n (by show _ < 2 ^ 8; omega)
              generalize operN i x S T = n at *
              clear hx hget hmem hio c2 p0
              by_cases c3 : n < 15
              · have k3 : decide ((n : Int) < 15) = true := decide_eq_true (by omega)
                have k3n : decide (n < 15) = true := decide_eq_true c3
                have hbit : Go.bits .or .u8 x.f0 ((n : Int) % 256 * 16 % 256) = x.f0 + (n : Int) * 16 := or_low hop c3
                have hins : insE x.f0 n = [x.f0 + (n : Int) * 16] := by rw [insE, if_pos c3]
                have HST := Aside0.mk (show e3 S T l i ++ [x.f0 + (n : Int) * 16] = e3 S T l (i + 1) by rw [← hins]; exact hst.out)
                clear c3 hins
                go_wp2_with (first
                  | ((with_reducible refine gate_dst (N := 13) rfl ?_); refine box_event (N := 13) rfl rfl (cs := #[.int .i64 0, .int .i64 0, .int .u64 0, .int .u64 0, .int .u64 0, .int .u64 0, .string (⟨#[]⟩ : ByteArray)]) (t := 78) ?hr2 ?_; (case hr2 => first | (go_simp; done) | (go_simp; rfl)); intro g13 hg13 w8 hbox hb1; have H13 := Aside0.mk (show RowAt w8 g13 78 (insCells zIns) from ⟨_, hbox, rfl⟩); have HG13 := Aside0.mk (HE.out.new_off hg13); have n1_ := Aside0.mk (HE.out.below hb1); clear HE hbox hb1 hg13 x0 x1 x2 x3 x4 x5 x6; have HE := n1_; clear n1_)
                  | ((with_reducible refine gate_store (t := 78) (p := 13) rfl ?_); refine put_event rfl rfl 78 (.tmp 13) (.tmp 96) rfl (off := 0) (u := .agg #[.int .i64 x.f0, .int .i64 x.f1, .int .u64 x.f2.f0, .int .u64 x.f2.f1, .int .u64 x.f2.f2, .int .u64 x.f2.f3, .string x.f3]) (seg := insCells x) rfl rfl H13.out rfl (by kernel_rfl) (by simp [insCells]) (by simp [insCells, Value.oneCell']) ?_; intro w9 hrow hgr; have n1_ := Aside0.mk (HE.out.other hgr HG13.out); clear HE H13 hgr; have HE := n1_; clear n1_; have H13 := Aside0.mk (show RowAt w9 g13 78 (insCells x) from hrow); clear hrow; obtain ⟨x0, x1, x2, x3, x4, x5, x6⟩ := cells7 H13.out)
                  | (go_at_call 75; have hcall := HNUM.out _ HE.out.tab; (with_reducible refine hcall.mono ?_); clear hcall; rintro xx w10 ⟨rfl, hb⟩; have n1_ := Aside0.mk (HE.out.below hb); have n2_ := Aside0.mk (H13.out.below hb); clear HE H13 hb x0 x1 x2 x3 x4 x5 x6; have HE := n1_; have H13 := n2_; clear n1_ n2_; obtain ⟨x0, x1, x2, x3, x4, x5, x6⟩ := cells7 H13.out)
                  | ((with_reducible refine gate_builtin (b := .append) (xs := #[.tmp 103, .tmp 111]) rfl ?_); at_builtin; refine print_append_cells w.heap.size rfl (.tmp 103) (.tmp 111) 37 5 (.int .u8 0) 1 1 rfl Try.underlying37 (by kernel_rfl) rfl (by decide) (by decide) u7 (e3 S T l i).length (nums .u8 (e3 S T l i)) [.int .u8 (x.f0 + (n : Int) * 16)] rfl rfl rfl (by simp [Value.oneCell']) HE.out.own (Below.refl _ _) HE.out.tab.bel.size (by have := HNB.out i; omega) ?_; intro v1 w11 hown hbel hgr _; have n1_ := Aside0.mk (HE.out.push hown hgr); clear HE H13 hown hbel hgr; have HE := n1_; clear n1_))
                go_roundw
                case measure => have := HI.out; have h1 := (List.getElem?_eq_some_iff.1 HY.out).1; simp [intOf]; omega
                case rel => exact ⟨i + 1, by go_num, ⟨(List.getElem?_eq_some_iff.1 HY.out).1⟩, ⟨by have h := HE.out; rw [HST.out] at h; exact h⟩⟩
              · have k3 : decide ((n : Int) < 15) = false := decide_eq_false (by omega)
                have k3n : decide (n < 15) = false := decide_eq_false c3
                have hbit : Go.bits .or .u8 x.f0 240 = x.f0 + 240 := or_240 hop
                have hsub : IntKind.u64.wrap ((n : Int) - 15) = ((n - 15 : Nat) : Int) := by rw [show ((n : Int) - 15) = ((n - 15 : Nat) : Int) by omega]; exact Bits.wrap_u64 _ (by omega) (by omega)
                have hins : insE x.f0 n = [x.f0 + 240] ++ cntE (n - 15) := by rw [insE, if_neg c3]; rfl
                have HST := Aside0.mk (show (e3 S T l i ++ [x.f0 + 240]) ++ cntE (n - 15) = e3 S T l (i + 1) by rw [List.append_assoc, ← hins]; exact hst.out)
                clear c3 hins
                go_wp2_with (first
                  | ((with_reducible refine gate_dst (N := 13) rfl ?_); refine box_event (N := 13) rfl rfl (cs := #[.int .i64 0, .int .i64 0, .int .u64 0, .int .u64 0, .int .u64 0, .int .u64 0, .string (⟨#[]⟩ : ByteArray)]) (t := 78) ?hr2 ?_; (case hr2 => first | (go_simp; done) | (go_simp; rfl)); intro g13 hg13 w8 hbox hb1; have H13 := Aside0.mk (show RowAt w8 g13 78 (insCells zIns) from ⟨_, hbox, rfl⟩); have HG13 := Aside0.mk (HE.out.new_off hg13); have n1_ := Aside0.mk (HE.out.below hb1); clear HE hbox hb1 hg13 x0 x1 x2 x3 x4 x5 x6; have HE := n1_; clear n1_)
                  | ((with_reducible refine gate_store (t := 78) (p := 13) rfl ?_); refine put_event rfl rfl 78 (.tmp 13) (.tmp 96) rfl (off := 0) (u := .agg #[.int .i64 x.f0, .int .i64 x.f1, .int .u64 x.f2.f0, .int .u64 x.f2.f1, .int .u64 x.f2.f2, .int .u64 x.f2.f3, .string x.f3]) (seg := insCells x) rfl rfl H13.out rfl (by kernel_rfl) (by simp [insCells]) (by simp [insCells, Value.oneCell']) ?_; intro w9 hrow hgr; have n1_ := Aside0.mk (HE.out.other hgr HG13.out); clear HE H13 hgr; have HE := n1_; clear n1_; have H13 := Aside0.mk (show RowAt w9 g13 78 (insCells x) from hrow); clear hrow; obtain ⟨x0, x1, x2, x3, x4, x5, x6⟩ := cells7 H13.out)
                  | (go_at_call 75; have hcall := HNUM.out _ HE.out.tab; (with_reducible refine hcall.mono ?_); clear hcall; rintro xx w10 ⟨rfl, hb⟩; have n1_ := Aside0.mk (HE.out.below hb); have n2_ := Aside0.mk (H13.out.below hb); clear HE H13 hb x0 x1 x2 x3 x4 x5 x6; have HE := n1_; have H13 := n2_; clear n1_ n2_; obtain ⟨x0, x1, x2, x3, x4, x5, x6⟩ := cells7 H13.out)
                  | ((with_reducible refine gate_builtin (b := .append) (xs := #[.tmp 113, .tmp 118]) rfl ?_); at_builtin; refine print_append_cells w.heap.size rfl (.tmp 113) (.tmp 118) 37 5 (.int .u8 0) 1 1 rfl Try.underlying37 (by kernel_rfl) rfl (by decide) (by decide) u7 (e3 S T l i).length (nums .u8 (e3 S T l i)) [.int .u8 (x.f0 + 240)] rfl rfl rfl (by simp [Value.oneCell']) HE.out.own (Below.refl _ _) HE.out.tab.bel.size (by have := HNB.out i; omega) ?_; intro v1 w11 hown hbel hgr _; have n1_ := Aside0.mk (HE.out.push hown hgr); clear HE H13 hown hbel hgr; have HE := n1_; clear n1_)
                  | (go_at_call 73; have hcall := counts_lit HE.out (n - 15) (by rw [List.length_append]; have := HNB.out i; simp; omega); (with_reducible refine hcall.mono ?_); clear hcall; rintro xx wc ⟨vc, rfl, he⟩; clear HE; have HE := Aside0.mk he; clear he; (try clear r0 r1 r2 r3); obtain ⟨r0, r1, r2, r3⟩ := cells4 HE.out.tab.row))
                go_roundw
                case measure => have := HI.out; have h1 := (List.getElem?_eq_some_iff.1 HY.out).1; simp [intOf]; omega
                case rel => exact ⟨i + 1, by go_num, ⟨(List.getElem?_eq_some_iff.1 HY.out).1⟩, ⟨by have h := HE.out; rw [HST.out] at h; exact h⟩⟩
            · have k2 : decide ((i : Int) < (l.length : Int)) = false := decide_eq_false (by omega)
              have hi : i = l.length := by have := HI.out; omega
              subst hi
              obtain ⟨sm, hsm⟩ : ∃ sm, crcL (e3 S T l l.length) = sm := ⟨_, rfl⟩
              have HSM := Aside0.mk hsm
              have HFIN : Aside0 (e3 S T l l.length ++ leN 4 sm = encodeE l) := ⟨by rw [← hsm, HEND.out, encodeE]⟩
              have hcr : IntKind.u64.wrap sm = sm := by rw [← hsm]; have h := bits_u32 .xor 4294967295 (crcRaw 4294967295 (e3 S T l l.length)); exact Bits.wrap_u64 _ h.1 (by unfold crcL; omega)
              clear HI c2 hsm
              by_cases c5 : 4194304 < (encodeE l).length
              · have k5 : decide (((encodeE l).length : Int) > 4194304) = true := decide_eq_true (by omega)
                have HC5 := Aside0.mk c5
                clear c5
                go_wp2_with (first
                  | (go_at_call 76; have hcall := sumE_lit HE.out (by have := HNB.out l.length; omega); rw [HSM.out] at hcall; (with_reducible refine hcall.mono ?_); clear hcall; rintro xx wc ⟨rfl, he⟩; clear HE; have HE := Aside0.mk he; clear he)
                  | (go_at_call 74; have hcall := fixed4_lit HE.out sm (by have := HNB.out l.length; omega); (with_reducible refine hcall.mono ?_); clear hcall; rintro xx wd ⟨vd, rfl, he⟩; rw [HFIN.out] at he; obtain ⟨A5, c5, rfl⟩ := own_len he.own; clear HE; have HE := Aside0.mk he; clear he))
                go_ret2
                exact ⟨.inr (.inl ⟨HF.out, HC5.out, rfl⟩), HE.out.tab.bel⟩
              · have k5 : decide (((encodeE l).length : Int) > 4194304) = false := decide_eq_false (by omega)
                have HC5 := Aside0.mk (show (encodeE l).length ≤ 4194304 by omega)
                clear c5
                go_wp2_with (first
                  | (go_at_call 76; have hcall := sumE_lit HE.out (by have := HNB.out l.length; omega); rw [HSM.out] at hcall; (with_reducible refine hcall.mono ?_); clear hcall; rintro xx wc ⟨rfl, he⟩; clear HE; have HE := Aside0.mk he; clear he)
                  | (go_at_call 74; have hcall := fixed4_lit HE.out sm (by have := HNB.out l.length; omega); (with_reducible refine hcall.mono ?_); clear hcall; rintro xx wd ⟨vd, rfl, he⟩; rw [HFIN.out] at he; obtain ⟨A5, c5, rfl⟩ := own_len he.own; clear HE; have HE := Aside0.mk he; clear he))
                go_ret2
                exact ⟨.inr (.inr ⟨HF.out, HC5.out, _, rfl, HE.out.own⟩), HE.out.tab.bel⟩
theorem encode_calls (hr : Kd.C k78 w A l.length l) (hc : l.length ≤ c) (hl : l.length ≤ 140737488351232) (hs : ∀ x ∈ l, x.f3.size ≤ 140737488351232) :
    Calls Try.prog 35 #[.slice A l.length c] w fun e w' => EncOut w w' l e ∧ Below w.heap.size w w' := by
  by_cases h : (checkL l).2 = 0
  · exact encode_good A c l w hr hc hl hs (check_zero h)
  · exact encode_bad A c l w hr hc hl hs h
end
end Go.Proofs.Ytebiogaacikphaa.Pack
end
section
namespace Go.Proofs.YtebiogaacikphaaW.PrintWords
open Go.RowKit
set_option linter.unusedVariables false
set_option linter.unusedSimpArgs false
/-- v's block lies in the heap and is i's. -/
def Tag (W : World) (f : Nat → Nat) (v : Value) (i : Nat) : Prop := ∀ k, v.ownBlock = some k → k < W.heap.size ∧ f k = i
/-- v is read as these cells. -/
def Sees (W : World) (v : Value) (n : Nat) (xs : List Value) : Prop := ∃ A c, v = .slice A n c ∧ (0 < n → ∃ g, A = some ⟨g, 0, none⟩ ∧ ∀ j u, xs[j]? = some u → W.cell? ⟨g, j, none⟩ = some u)
/-- A step that changes i's blocks alone. -/
structure Step (W W' : World) (f f' : Nat → Nat) (i : Nat) : Prop where
  size : W.heap.size ≤ W'.heap.size
  tags : ∀ k, k < W.heap.size → f' k = f k
  same : ∀ k, k < W.heap.size → f k ≠ i → W'.heap[k]? = W.heap[k]?
section
variable {W W' : World} {f f' : Nat → Nat} {i j : Nat} {v : Value} {base size n : Nat} {e : TypeId} {xs : List Value}
theorem Tag.step (h : Tag W f v j) (s : Step W W' f f' i) : Tag W' f' v j := fun k hk => ⟨Nat.lt_of_lt_of_le (h k hk).1 s.size, (s.tags k (h k hk).1).trans (h k hk).2⟩
theorem own_step (h : W.ownsRow base e size v n xs) (t : Tag W f v j) (hne : j ≠ i) (s : Step W W' f f' i) : W'.ownsRow base e size v n xs := by
  refine ⟨h.1, ?_⟩
  rcases h.2 with hn | ⟨g, cap, cur, rfl, hb, hgg, rest⟩
  · exact .inl hn
  · refine .inr ⟨g, cap, cur, rfl, hb, ?_, rest⟩
    obtain ⟨h1, h2⟩ := t g rfl
    rw [s.same g h1 (by rw [h2]; exact hne)]
    exact hgg
theorem Sees.step (h : Sees W v n xs) (t : Tag W f v j) (hne : j ≠ i) (s : Step W W' f f' i) : Sees W' v n xs := by
  obtain ⟨A, c, rfl, h0⟩ := h
  refine ⟨A, c, rfl, fun hp => ?_⟩
  obtain ⟨g, rfl, h3⟩ := h0 hp
  obtain ⟨h1, h2⟩ := t g rfl
  refine ⟨g, rfl, fun q u hq => ?_⟩
  rw [World.cell?_of_block (a := ⟨g, q, none⟩) (s.same g h1 (by rw [h2]; exact hne))]
  exact h3 q u hq
theorem RowAt.step {g : Nat} {cs : List Value} (h : RowAt W g e cs) (hne : f g ≠ i) (s : Step W W' f f' i) : RowAt W' g e cs := h.kept (s.same g h.lt hne)
theorem own_sees (h : W.ownsRow base e size v n xs) : Sees W v n xs := by
  rcases h.2 with ⟨hv, h0⟩ | ⟨g, cap, cur, hv, h1, h2, h3, h4, h5, h6⟩
  · exact ⟨none, 0, by rw [hv, h0], fun hp => absurd hp (by omega)⟩
  · refine ⟨some ⟨g, 0, none⟩, cap, hv, fun _ => ⟨g, rfl, fun q u hq => ?_⟩⟩
    have := h.cells (g := g) (by rw [hv]; rfl) q u hq
    rwa [show (⟨g, 0, none⟩ : Addr).add q = ⟨g, q, none⟩ from (by simp [Addr.add]; omega)] at this
/-- A change of one block of i's, with new blocks for i. -/
theorem Step.grown {row : Option Nat} (hg : W.grownBy W' row) (hr : ∀ k, row = some k → k < W.heap.size → f k = i) : Step W W' f (fun k => if k < W.heap.size then f k else i) i :=
  ⟨hg.size, fun k hk => by rw [if_pos hk], fun k hk hne => hg.block k hk (fun h => hne (hr k h.symm hk))⟩
theorem Step.grown0 {row : Option Nat} (hg : W.grownBy W' row) (hr : ∀ k, row = some k → k < W.heap.size → f k = i) : Step W W' f f i :=
  ⟨hg.size, fun k hk => rfl, fun k hk hne => hg.block k hk (fun h => hne (hr k h.symm hk))⟩
end
section
variable {P : Program} {ops : Array Oper} {rest : List Oper} {o : Oper} {a : Act} {Q : Exit → Act → World → Prop}
theorem run_append_two (w : World) (base : Nat) (t ty e : TypeId) (i : TypeInfo) (z : Value) (size bytes : Nat) (ht : P.underlying t = some (.slice e)) (hi : P.info? e = some i) (hz : i.zero = some z)
    (hsize : i.size = size) (hby : i.bytes = bytes) (hzs : z.cells.size = size) (hsz : 0 < size)
    (v : Value) (n : Nat) (xs : List Value) (hown : w.ownsRow base e size v n xs)
    (a : Addr) (m c : Nat) (news : List Value) (hl : news.length = m * size) (hm : 0 < m) (hnews : ∀ j u, news[j]? = some u → w.cell? (a.add j) = some u) (h1 : ∀ u ∈ news, u.oneCell' = true)
    (h63 : n + m ≤ maxLen) (hbytes : (n + m) * bytes ≤ 140737488355328) (hbase : base ≤ w.heap.size) :
    ∃ v' w', (Builtin.append_ #[t, t] ty #[v, .slice (some a) m c]).run P w = .ok v' w' ∧ w'.ownsRow base e size v' (n + m) (xs ++ news) ∧
      ((v'.ownBlock = v.ownBlock ∧ w.grownBy w' v.ownBlock) ∨ (v'.ownBlock = some w.heap.size ∧ w.grownBy w' none)) := by
  subst hsize
  subst hby
  have hsmall : n + m ≤ 9223372036854775807 := by simp only [maxLen] at h63; omega
  have hlen : (xs ++ news).length = (n + m) * i.size := by rw [List.length_append, hown.1, hl, Nat.add_mul]
  have grown : ∀ (old : Nat), old < n + m → ∀ (row : Option Nat),
      (w.drew.alloc (.cells (xs.toArray ++ news.toArray ++ Builtin.zeroCells z.cells (grownCap w (n + m) old e - (n + m))) e)).ownsRow base e i.size
        (.slice (some ⟨w.heap.size, 0, none⟩) (n + m) (grownCap w (n + m) old e)) (n + m) (xs ++ news) ∧
      w.grownBy (w.drew.alloc (.cells (xs.toArray ++ news.toArray ++ Builtin.zeroCells z.cells (grownCap w (n + m) old e - (n + m))) e)) row := by
    intro old ho row
    have hge := grownCap_ge w (n + m) old e
    have hcm : grownCap w (n + m) old e ≤ maxLen := grownCap_le_maxLen w (n + m) old e h63
    refine ⟨⟨hlen, .inr ⟨w.heap.size, _, _, rfl, hbase, heap_alloc_new w.drew _, hge, hcm, ?_, ?_⟩⟩, ⟨rfl, rfl, rfl, by simp, fun k hk _ => Go.heap_alloc_old w.drew _ hk⟩⟩
    · simp only [Array.size_append, List.size_toArray, size_zeroCells, hzs, hown.1, hl, ← Nat.add_mul]
      congr 1
      omega
    · simp only [Array.toList_append, List.append_assoc]
      rw [← List.append_assoc, ← hlen]
      exact List.take_left
  rcases hown.2 with ⟨rfl, rfl⟩ | ⟨g, cap, cur, rfl, hbg, hg, hnc, hcm, hcs, htake⟩
  · have hx : xs = [] := List.eq_nil_of_length_eq_zero (by simpa using hown.1)
    subst hx
    have hr := run_append_nil (P := P) w t ty e i z ht hi hz a m c news hl hnews (by omega) (by omega) (by have hb := hbytes; simp only [Nat.zero_add] at hb; omega)
    have hgr := grown 0 (by omega) none
    simp only [Nat.zero_add, List.nil_append, Array.empty_append] at hgr ⊢
    exact ⟨_, _, hr, hgr.1, .inr ⟨rfl, hgr.2⟩⟩
  · by_cases hroom : n + m ≤ cap
    · have hfit : n * i.size + news.length ≤ cur.size := by rw [hl, hcs, ← Nat.add_mul]; exact Nat.mul_le_mul_right _ hroom
      have hr := run_append_room (P := P) w t ty e i ht hi g n cap cur hg a m c news hl hnews h1 hroom hfit
      refine ⟨_, _, hr, ⟨hlen, .inr ⟨g, cap, _, rfl, hbg, setRow_heap w g cur _ e _ hg, hroom, hcm, ?_, ?_⟩⟩, .inl ⟨rfl, ⟨rfl, rfl, rfl, by simp, fun k _ hk => setRow_other w g k _ (fun e => hk (by simp [Value.ownBlock, e]))⟩⟩⟩
      · simp only [List.size_toArray, List.length_append, List.length_take, List.length_drop, Array.length_toList]
        omega
      · rw [htake, ← hlen]
        exact List.take_left
    · have holds : ∀ j u, xs[j]? = some u → w.cell? ((⟨g, 0, none⟩ : Addr).add j) = some u := hown.cells (g := g) rfl
      have hr := run_append_grow (P := P) w t ty e i z ht hi hz ⟨g, 0, none⟩ n cap xs hown.1 holds a m c news hl hnews (by omega) (by omega) (growslice_fits (by omega) hbytes)
      have hgr := grown cap (by omega) none
      exact ⟨_, _, hr, hgr.1, .inr ⟨rfl, hgr.2⟩⟩
/-- An append of one element, that was laid into a block of its own just ahead: whose block changes. -/
theorem append_event {W : World} (base : Nat) (hgd : o.guard = none) (s x : Operand) (t e : TypeId) (z : Value) (size bytes : Nat)
    (ho : o.op = .call { callee := .builtin .append, args := #[s, x], argTypes := #[t, t] })
    (ht : P.underlying t = some (.slice e)) (hinfo : (P.info? e).map (fun i => (i.zero, i.size, i.bytes)) = some (some z, size, bytes)) (hz : z.cells.size = size) (hs0 : 0 < size) (hb0 : 0 < bytes)
    (v : Value) (n : Nat) (xs ys : List Value) (hs : a.eval s = v) (hx : a.eval x = .slice (some ⟨W.heap.size, 0, none⟩) 1 1) (hys : ys.length = size) (h1 : ∀ u ∈ ys, u.oneCell' = true)
    (HO : W.ownsRow base e size v n xs) (hbase : base ≤ W.heap.size) (hl : (n + 1) * bytes ≤ 140737488355328)
    (h : ∀ v1 w1, w1.ownsRow base e size v1 (n + 1) (xs ++ ys) → ((v1.ownBlock = v.ownBlock ∧ W.grownBy w1 v.ownBlock) ∨ ((∃ b, v1.ownBlock = some b ∧ W.heap.size ≤ b) ∧ W.grownBy w1 none)) → wpList P ops Q rest (a.put o.dst v1) w1) :
    wpList P ops Q (o :: rest) a (W.alloc (.cells ys.toArray e)) := by
  obtain ⟨i0, hi, hzz⟩ := Option.map_eq_some_iff.1 hinfo
  simp only [Prod.mk.injEq] at hzz
  obtain ⟨hz0, hz1, hz2⟩ := hzz
  have hlen : n + 1 ≤ 140737488355328 := Nat.le_trans (Nat.le_mul_of_pos_right _ hb0) hl
  refine wpList_plain hgd fun K hK => ?_
  obtain ⟨v', w', hr, h2, h3⟩ := run_append_two (P := P) (W.alloc (.cells ys.toArray e)) base t o.type e i0 z size bytes ht hi hz0 hz1 hz2 hz hs0 v n xs (HO.alloc _) ⟨W.heap.size, 0, none⟩ 1 1 ys (by rw [hys]; simp) (by decide)
    (by simpa using World.news_of_block (cs := ys.toArray) (t := e) (fr := (0, 0)) (heap_alloc_new W (.cells ys.toArray e))) h1 (by simp only [maxLen]; omega) hl (by simp; omega)
  unfold Oper.wp execOp
  simp only [ho, resolve, invoke, builtin, Sem.run_bind, Sem.run_pure, Result.andThen_ok, List.map_toArray, List.map_cons, List.map_nil, hs, hx, hr]
  refine hK _ _ (h v' w' h2 ?_)
  rcases h3 with ⟨h3, h4⟩ | ⟨h3, h4⟩
  · exact .inl ⟨h3, World.grownBy.trans (World.grownBy_alloc W _ _) h4⟩
  · exact .inr ⟨⟨_, h3, by simp⟩, World.grownBy.trans (World.grownBy_alloc W _ _) h4⟩
end
section
variable {W W1 : World} {g c base size n : Nat} {e : TypeId} {v : Value} {xs : List Value} {α : Type} {enc : α → List Value}
theorem flat_len (hs : ∀ x, (enc x).length = size) : ∀ l : List α, (l.flatMap enc).length = l.length * size
  | [] => by simp
  | x :: l => by rw [List.flatMap_cons, List.length_append, hs, flat_len hs l, List.length_cons, Nat.add_mul, Nat.one_mul]; omega
theorem flat_set (hs : ∀ x, (enc x).length = size) (y : α) : ∀ (l : List α) (k : Nat), k < l.length → (l.flatMap enc).take (k * size) ++ enc y ++ (l.flatMap enc).drop (k * size + size) = (l.set k y).flatMap enc
  | [], k, h => by simp at h
  | x :: l, 0, h => by
    rw [Nat.zero_mul, Nat.zero_add, List.take_zero, List.nil_append, List.set_cons_zero, List.flatMap_cons, List.flatMap_cons, List.drop_append_of_le_length (by rw [hs]; exact Nat.le_refl _), List.drop_of_length_le (by rw [hs]; exact Nat.le_refl _), List.nil_append]
  | x :: l, k + 1, h => by
    have ih := flat_set hs y l k (by simpa using h)
    rw [List.set_cons_succ, List.flatMap_cons, List.flatMap_cons, ← ih]
    have e1 : (k + 1) * size = (enc x).length + k * size := by rw [hs, Nat.add_mul, Nat.one_mul]; omega
    rw [e1, List.take_length_add_append, show (enc x).length + k * size + size = (enc x).length + (k * size + size) by omega, List.drop_length_add_append]
    simp only [List.append_assoc]
/-- The row behind an own slice. -/
theorem own_row (h : W.ownsRow base e size (.slice (some ⟨g, 0, none⟩) n c) n xs) : ∃ cs, RowAt W g e cs ∧ n * size ≤ cs.length ∧ cs.take (n * size) = xs := by
  rcases h.2 with ⟨hv, _⟩ | ⟨g', cap, cur, hv, h1, h2, h3, h4, h5, h6⟩
  · cases hv
  · cases hv
    refine ⟨cur.toList, ⟨cur, h2, rfl⟩, ?_, h6⟩
    rw [Array.length_toList, h5]
    exact Nat.mul_le_mul_right _ h3
theorem own_set (hs : ∀ x, (enc x).length = size) {l : List α} (h : W.ownsRow base e size (.slice (some ⟨g, 0, none⟩) n c) n (l.flatMap enc)) (hn : l.length = n) {k : Nat} (hk : k < n) (y : α) {cs : List Value} (hr : RowAt W g e cs)
    (h1 : RowAt W1 g e (cs.take (k * size) ++ enc y ++ cs.drop (k * size + (enc y).length))) : W1.ownsRow base e size (.slice (some ⟨g, 0, none⟩) n c) n ((l.set k y).flatMap enc) := by
  have hks : k * size + size ≤ n * size := by rw [show k * size + size = (k + 1) * size by rw [Nat.add_mul, Nat.one_mul]]; exact Nat.mul_le_mul_right _ hk
  rcases h.2 with ⟨hv, _⟩ | ⟨g', cap, cur, hv, h2, h3, h4, h5, h6, h7⟩
  · cases hv
  · cases hv
    obtain ⟨cur2, h8, rfl⟩ := hr
    rw [h3] at h8
    cases h8
    obtain ⟨cur3, h9, h10⟩ := h1
    have hlen : n * size ≤ cur.toList.length := by rw [Array.length_toList, h6]; exact Nat.mul_le_mul_right _ h4
    refine ⟨by rw [flat_len hs, List.length_set, hn], .inr ⟨g, c, cur3, rfl, h2, h9, h4, h5, ?_, ?_⟩⟩
    · rw [← Array.length_toList, h10, hs]
      simp only [List.length_append, List.length_take, List.length_drop, hs]
      rw [Array.length_toList, h6] at hlen ⊢
      omega
    · have e1 : (List.take (n * size) cur.toList).take (k * size) = cur.toList.take (k * size) := by rw [List.take_take, Nat.min_eq_left (by omega)]
      have e2 : (List.take (n * size) cur.toList).drop (k * size + size) = (cur.toList.drop (k * size + size)).take (n * size - (k * size + size)) := by rw [List.drop_take]
      rw [h10, ← flat_set hs y l k (by omega), ← h7, hs, e1, e2, List.append_assoc, List.append_assoc]
      have e3 : (cur.toList.take (k * size)).length = k * size := by rw [List.length_take]; omega
      have e4 : n * size = (cur.toList.take (k * size)).length + ((enc y).length + (n * size - (k * size + size))) := by rw [e3, hs]; omega
      rw [show List.take (n * size) (List.take (k * size) cur.toList ++ (enc y ++ List.drop (k * size + size) cur.toList)) = List.take ((cur.toList.take (k * size)).length + ((enc y).length + (n * size - (k * size + size)))) (List.take (k * size) cur.toList ++ (enc y ++ List.drop (k * size + size) cur.toList)) from by rw [← e4]]
      rw [List.take_length_add_append, List.take_length_add_append]
end
end Go.Proofs.YtebiogaacikphaaW.PrintWords
end
section
namespace Go.Proofs.Ytebiogaacikphaa.Pack
open Go.RowKit Go.Proofs.YtebiogaacikphaaW.PrintWords Go.Proofs.Ytebiogaacikphaa.PAll
set_option linter.unusedVariables false
set_option linter.unusedSimpArgs false
set_option linter.unnecessarySimpa false
def markI (i : Nat) : Ins := { zIns with f1 := -1 - (i : Int) }
def moreI (i : Nat) : Ins := { zIns with f1 := -100000 - (i : Int) }
section
variable {base gl : Nat} {w W W' W1 : World} {f f' : Nat → Nat} {As : Nat → Option Addr} {ns Cs : Nat → Nat} {cs : Nat → List Ins} {lo i : Nat} {vg : Value} {us : Nat → Value}
def full (ns : Nat → Nat) (j : Nat) : List Ins := List.replicate (ns j) (markI j)
end
end Go.Proofs.Ytebiogaacikphaa.Pack
end
