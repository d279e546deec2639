/- Parts of the proof of packBack and packOne and packCuts and packSpoilt and packSmall: Encode. No condition beyond each lemma's own. -/
import Derived.Test.YtebiogaacikphaaTQ18
section
namespace Go.Proofs.Ytebiogaacikphaa.Pack
open Go.RowKit Go.Proofs.YtebiogaacikphaaW.PrintWords Go.Proofs.Ytebiogaacikphaa.PAll Go.Proofs.Ytebiogaacikphaa.Names
set_option linter.unusedVariables false
set_option linter.unusedSimpArgs false
set_option linter.unnecessarySimpa false
/-- What Encode answers. -/
def EncOut (w w' : World) (l : List Ins) (x : Ending) : Prop :=
  ((checkL l).2 ≠ 0 ∧ x = .returned (.tuple #[.slice none 0 0, .int .i64 (checkL l).2])) ∨
  (checkL l = (0, 0) ∧ 4194304 < (encodeE l).length ∧ x = .returned (.tuple #[.slice none 0 0, .int .i64 2])) ∨
  (checkL l = (0, 0) ∧ (encodeE l).length ≤ 4194304 ∧ ∃ v, x = .returned (.tuple #[v, .int .i64 0]) ∧ w'.ownsRow w.heap.size 5 1 v (encodeE l).length (nums .u8 (encodeE l)))
theorem check_zero {l : List Ins} (h : (checkL l).2 = 0) : checkL l = (0, 0) := by
  unfold checkL at h ⊢
  split at h
  · cases h
  · rename_i c0
    rw [if_neg c0]
    split at h
    · cases h
    · rename_i c1
      rw [if_neg c1]
      split at h
      · cases h
      · rfl
theorem rebase {w W W' : World} {gt gc gn : Nat} {cs : List Value} {vs vt : Value} {lc : List (Four × Value)} {ln : List (ByteArray × Value)} {S : List Four} {T : List ByteArray} (hb : Below w.heap.size w W) (h : GT W W' gt gc gn cs vs vt lc ln S T) : GT w W' gt gc gn cs vs vt lc ln S T :=
  ⟨below_step hb h.bel, h.row, h.mc, h.mn, own_less h.s hb.size, own_less h.t hb.size, ⟨Nat.le_trans hb.size h.ge.1, h.ge.2⟩, h.offs, h.offt⟩
theorem below_of_nil {W W' : World} (h : W.grownBy W' (Value.slice none 0 0).ownBlock) : Below W.heap.size W W' := ⟨h.os, h.tape, h.output, h.size, fun k hk => h.block k hk (by simp [Value.ownBlock])⟩
section
variable (A : Option Addr) (c : Nat) (l : List Ins) (w : World)
set_option maxHeartbeats 4000000 in
set_option maxRecDepth 100000 in
theorem encode_bad (hr : Kd.C k78 w A l.length l) (hc : l.length ≤ c) (hl : l.length ≤ 140737488351232) (hs : ∀ x ∈ l, x.f3.size ≤ 140737488351232) (hbad : (checkL l).2 ≠ 0) :
    Calls Try.prog 35 #[.slice A l.length c] w fun e w' => EncOut w w' l e ∧ Below w.heap.size w w' := by
  have HR := Aside0.mk hr
  have HC := Aside0.mk hc
  have HSS := Aside0.mk hs
  obtain ⟨f0, f1, hf⟩ : ∃ f0 f1, checkL l = (f0, f1) := ⟨_, _, rfl⟩
  rw [hf] at hbad
  have HF := Aside0.mk hf
  have b0 : (f1 != 0) = true := by simpa using hbad
  have HBAD := Aside0.mk hbad
  clear hr hc hs hf hbad
  go_enter Try.func35, Try.ntmps35
  go_wp2_with (first
    | (go_at_call 41; have hcall := check_calls A c l w HR.out HC.out hl HSS.out _ HF.out; (with_reducible refine hcall.mono ?_); clear hcall; rintro xx w2 ⟨rfl, hb⟩; have HB := Aside0.mk hb; clear hb)
    | ((with_reducible refine gate_dst (N := 4) rfl ?_); refine box_event (N := 4) rfl rfl (cs := #[.int .i64 0, .int .i64 0]) (t := 42) ?hr2 ?_; (case hr2 => first | (go_simp; done) | (go_simp; rfl)); intro g4 hg4 w3 hbox hb1; have H4 := Aside0.mk (show RowAt w3 g4 42 [.int .i64 0, .int .i64 0] from ⟨_, hbox, rfl⟩); have n1_ := Aside0.mk (below_step HB.out hb1); have HG4 := Aside0.mk (show w.heap.size ≤ g4 by have := HB.out.size; omega); clear HB hbox hb1 hg4; have HB := n1_; clear n1_)
    | ((with_reducible refine gate_store (t := 42) (p := 4) rfl ?_); refine put_event rfl rfl 42 (.tmp 4) (.tmp 16) rfl (off := 0) (u := .agg #[.int .i64 f0, .int .i64 f1]) (seg := [.int .i64 f0, .int .i64 f1]) rfl rfl H4.out rfl (by kernel_rfl) (by simp) (by simp [Value.oneCell']) ?_; intro w5 hrow hgr; have n1_ := Aside0.mk (pw_below_grown HB.out (some g4) HB.out.size hgr (fun k hk => by injection hk with hk; have := HG4.out; omega)); have n2_ := Aside0.mk (show RowAt w5 g4 42 [.int .i64 f0, .int .i64 f1] from hrow); clear HB H4 hrow hgr; have HB := n1_; have H4 := n2_; clear n1_ n2_; have z1 := H4.out.cell 1; simp only [List.getElem?_cons_succ, List.getElem?_cons_zero] at z1))
  go_quiet (fail)
  go_wp2
  go_ret2
  exact ⟨.inl ⟨by rw [HF.out]; exact HBAD.out, by rw [HF.out]; rfl⟩, pw_below_drewN HB.out nq⟩
set_option maxHeartbeats 8000000 in
set_option maxRecDepth 100000 in
theorem encode_good (hr : Kd.C k78 w A l.length l) (hc : l.length ≤ c) (hl : l.length ≤ 140737488351232) (hs : ∀ x ∈ l, x.f3.size ≤ 140737488351232) (hok : checkL l = (0, 0)) :
    Calls Try.prog 35 #[.slice A l.length c] w fun e w' => EncOut w w' l e ∧ Below w.heap.size w w' := by
  have HR := Aside0.mk hr
  have HC := Aside0.mk hc
  have HSS := Aside0.mk hs
  have HF := Aside0.mk hok
  obtain ⟨l0, l1, l2⟩ := (checkL_ok l).1 hok
  have HOK := Aside0.mk (fun x hx => rightB_ok (l2 x hx))


  have HCl : Aside0 ((l.foldl addC []).length ≤ 65536) := ⟨by have := foldC_length l []; rw [List.length_nil, Nat.zero_add] at this; omega⟩
  have HNl : Aside0 ((l.foldl addN []).length ≤ 65536) := ⟨by have := foldN_length l []; rw [List.length_nil, Nat.zero_add] at this; omega⟩
  have HNm : Aside0 (∀ s ∈ l.foldl addN [], okName s = true) := ⟨fun s h => by
    rcases foldN_mem l [] s h with h | ⟨x, hx, hk, rfl⟩
    · cases h
    · exact (HOK.out x hx).2 hk⟩
  have HNB : Aside0 (∀ i, (e3 (l.foldl addC []) (l.foldl addN []) l i).length ≤ 6619150) := ⟨fun i => e3_len l1 (fun x hx => (HOK.out x hx).1) (fun x hx => (HOK.out x hx).2)⟩
  have HEND := Aside0.mk (e3_end l)
  have HHC := Aside0.mk (fun x h => foldC_has l [] x h)
  have HHN := Aside0.mk (fun x h => foldN_has l [] x h)
  obtain ⟨S, hS⟩ : ∃ S, l.foldl addC [] = S := ⟨_, rfl⟩
  obtain ⟨T, hT⟩ : ∃ T, l.foldl addN [] = T := ⟨_, rfl⟩
  rw [hS] at HCl HEND HHC HNB
  rw [hT] at HNl HNm HEND HHN HNB
  have HS := Aside0.mk hS
  have HT := Aside0.mk hT
  clear hr hc hs hok l2 hS hT
  have hwS : IntKind.u64.wrap (S.length : Int) = (S.length : Int) := Bits.wrap_u64 _ (by omega) (by have := HCl.out; omega)
  have hwT : IntKind.u64.wrap (T.length : Int) = (T.length : Int) := Bits.wrap_u64 _ (by omega) (by have := HNl.out; omega)
  have hwL : IntKind.u64.wrap (l.length : Int) = (l.length : Int) := Bits.wrap_u64 _ (by omega) (by omega)
  go_enter Try.func35, Try.ntmps35
  go_wp2_with (first
    | (go_at_call 41; have hcall := check_calls A c l w HR.out HC.out hl HSS.out _ HF.out; (with_reducible refine hcall.mono ?_); clear hcall; rintro xx w2 ⟨rfl, hb⟩; have HB := Aside0.mk hb; clear hb)
    | ((with_reducible refine gate_dst (N := 4) rfl ?_); refine box_event (N := 4) rfl rfl (cs := #[.int .i64 0, .int .i64 0]) (t := 42) ?hr2 ?_; (case hr2 => first | (go_simp; done) | (go_simp; rfl)); intro g4 hg4 w3 hbox hb1; have H4 := Aside0.mk (show RowAt w3 g4 42 [.int .i64 0, .int .i64 0] from ⟨_, hbox, rfl⟩); have n1_ := Aside0.mk (below_step HB.out hb1); have HG4 := Aside0.mk (show w.heap.size ≤ g4 by have := HB.out.size; omega); clear HB hbox hb1 hg4; have HB := n1_; clear n1_)
    | ((with_reducible refine gate_store (t := 42) (p := 4) rfl ?_); refine put_event rfl rfl 42 (.tmp 4) (.tmp 16) rfl (off := 0) (u := .agg #[.int .i64 0, .int .i64 0]) (seg := [.int .i64 0, .int .i64 0]) rfl rfl H4.out rfl (by kernel_rfl) (by simp) (by simp [Value.oneCell']) ?_; intro w5 hrow hgr; have n1_ := Aside0.mk (pw_below_grown HB.out (some g4) HB.out.size hgr (fun k hk => by injection hk with hk; have := HG4.out; omega)); have n2_ := Aside0.mk (show RowAt w5 g4 42 [.int .i64 0, .int .i64 0] from hrow); clear HB H4 hrow hgr; have HB := n1_; have H4 := n2_; clear n1_ n2_; have z1 := H4.out.cell 1; simp only [List.getElem?_cons_succ, List.getElem?_cons_zero] at z1)
    | (go_at_call 71; have hcall := gathered_calls A c l w5 (Kd.C_below HR.out HB.out) l1; (with_reducible refine hcall.mono ?_); clear hcall; rintro xx w6 ⟨gt, gc, gn, vs, vt, rfl, hg⟩; rw [HS.out, HT.out] at hg; have hbw := below_step HB.out hg.bel; have HW := Aside0.mk hbw.size; obtain ⟨As, cs, rfl⟩ := own_len hg.s; obtain ⟨At, ct, rfl⟩ := own_len hg.t; have HG := Aside0.mk (rebase HB.out hg); clear hg hbw; (try clear r0 r1 r2 r3); obtain ⟨r0, r1, r2, r3⟩ := cells4 HG.out.row)
    | (go_at_call 72; refine (pack_magic.calls 100 111 119 108 1 _ rfl).mono ?_; rintro xx w7 ⟨rfl, hb3⟩; have n1_ := Aside0.mk (HG.out.below hb3); clear HG hb3; have HG := n1_; clear n1_; (try clear r0 r1 r2 r3); obtain ⟨r0, r1, r2, r3⟩ := cells4 HG.out.row)
    | ((with_reducible refine gate_dst (N := 6) rfl ?_); refine box_event (N := 6) rfl rfl (cs := #[.int .u8 0, .int .u8 0, .int .u8 0, .int .u8 0, .int .u8 0]) (t := 137) ?hr2 ?_; (case hr2 => first | (go_simp; done) | (go_simp; rfl)); intro g6 hg6 w8 hbox hb1; have H6 := Aside0.mk (show RowAt w8 g6 137 [.int .u8 0, .int .u8 0, .int .u8 0, .int .u8 0, .int .u8 0] from ⟨_, hbox, rfl⟩); have HG6 := Aside0.mk (new_off HG.out hg6); have n1_ := Aside0.mk (HG.out.below hb1); clear HG hbox hb1 hg6; have HG := n1_; clear n1_; (try clear r0 r1 r2 r3); obtain ⟨r0, r1, r2, r3⟩ := cells4 HG.out.row)
    | ((with_reducible refine gate_store (t := 137) (p := 6) rfl ?_); refine put_event rfl rfl 137 (.tmp 6) (.tmp 24) rfl (off := 0) (u := .agg #[.int .u8 100, .int .u8 111, .int .u8 119, .int .u8 108, .int .u8 1]) (seg := [.int .u8 100, .int .u8 111, .int .u8 119, .int .u8 108, .int .u8 1]) rfl rfl H6.out rfl (by kernel_rfl) (by simp) (by simp [Value.oneCell']) ?_; intro w9 hrow hgr; have n1_ := Aside0.mk (HG.out.other hgr HG6.out.1 HG6.out.2.1 HG6.out.2.2); clear HG H6 hgr; have HG := n1_; clear n1_; have H6 := Aside0.mk (show RowAt w9 g6 137 (magicL.map (Value.int .u8)) from hrow); clear hrow; (try clear r0 r1 r2 r3); obtain ⟨r0, r1, r2, r3⟩ := cells4 HG.out.row)
    | ((with_reducible refine gate_builtin (b := .append) (xs := #[.const (.slice none 0 0), .tmp 25]) rfl ?_); at_builtin; refine print_append_row_of (Value.int .u8) 0 w.heap.size rfl (.const (.slice none 0 0)) (.tmp 25) 37 5 (.int .u8 0) 1 rfl Try.underlying37 (by kernel_rfl) rfl (by decide) (fun _ => rfl) (.slice none 0 0) [] magicL (some ⟨g6, 0, none⟩) 5 5 rfl rfl (World.ownsRow_nil _ _ _ _) (Kd.reads_of_C (h1 := fun _ => rfl) (C_row' H6.out (by decide))) (Below.refl _ _) HG.out.bel.size (by decide) ?_; intro v w10 hown hbel hgr _; have HE : Aside0 (EI w w10 gt gc gn (.slice As S.length cs) (.slice At T.length ct) S T v magicL) := ⟨HG.out.below (below_of_nil hgr), hown⟩; clear HG H6 hown hbel hgr; (try clear r0 r1 r2 r3); obtain ⟨r0, r1, r2, r3⟩ := cells4 HE.out.tab.row)
    | (go_at_call 73; have hcall := counts_lit HE.out S.length (by have := HCl.out; simp [magicL]; omega); (with_reducible refine hcall.mono ?_); clear hcall; rintro xx wc ⟨vc, rfl, he⟩; clear HE; have HE := Aside0.mk he; clear he; (try clear r0 r1 r2 r3); obtain ⟨r0, r1, r2, r3⟩ := cells4 HE.out.tab.row))
  go_loopw [7, 41] (fun v7 v41 wr => ∃ (i : Nat), v41 = .int .i64 (i : Int) ∧ Aside0 (i ≤ S.length) ∧ Aside0 (EI w wr gt gc gn (.slice As S.length cs) (.slice At T.length ct) S T v7 (e1 S i))) (fun v7 v41 _ => S.length - (intOf v41).toNat)
  case atStart => exact ⟨0, rfl, ⟨Nat.zero_le _⟩, ⟨by rw [← e1_start]; exact HE.out⟩⟩
  case round =>
    clear HE r0 r1 r2 r3
    obtain ⟨i, rfl, HI, HE⟩ := hrel
    obtain ⟨r0, r1, r2, r3⟩ := cells4 HE.out.tab.row
    by_cases c2 : i < S.length
    · have k2 : decide ((i : Int) < (S.length : Int)) = true := decide_eq_true (by omega)
      have k2n : decide (i < S.length) = true := decide_eq_true c2
      obtain ⟨y, hy⟩ : ∃ y, S[i]? = some y := ⟨S[i], List.getElem?_eq_getElem c2⟩
      have HY := Aside0.mk hy
      obtain ⟨g, cp, he, hcl⟩ := cls_at HE.out.tab.s hy
      cases he
      have hixS : ∀ W : World, (Instr.indexAt 85 (.slice (some ⟨g, 0, none⟩) S.length cs) (.int .i64 (i : Int))).run Try.prog W = .ok (.pointer (some ⟨g, i * 4, none⟩)) W :=
        fun W => run_indexAt_own (P := Try.prog) (t := 85) (size := 4) Try.underlying85 (fun W => by kernel_rfl) g S.length cs i c2 W
      have y0 := hcl 0 _ rfl
      rw [Nat.add_zero] at y0
      have y1 := hcl 1 _ rfl
      have y2 := hcl 2 _ rfl
      have y3 := hcl 3 _ rfl
      have hw1 : IntKind.i64.wrap ((i : Int) + 1) = ((i + 1 : Nat) : Int) := by rw [IntWalk.i64_in _ (by have := HCl.out; omega)]; omega
      clear hcl hy c2
      go_wp2_with (first
        | ((with_reducible refine gate_dst (N := 9) rfl ?_); refine box_event (N := 9) rfl rfl (cs := #[.int .u64 0, .int .u64 0, .int .u64 0, .int .u64 0]) (t := 76) ?hr2 ?_; (case hr2 => first | (go_simp; done) | (go_simp; rfl)); intro g9 hg9 w8 hbox hb1; have H9 := Aside0.mk (show RowAt w8 g9 76 [.int .u64 0, .int .u64 0, .int .u64 0, .int .u64 0] from ⟨_, hbox, rfl⟩); have HG9 := Aside0.mk (HE.out.new_off hg9); have n1_ := Aside0.mk (HE.out.below hb1); clear HE hbox hb1 hg9 y0 y1 y2 y3; have HE := n1_; clear n1_; (try clear r0 r1 r2 r3); obtain ⟨r0, r1, r2, r3⟩ := cells4 HE.out.tab.row)
        | ((with_reducible refine gate_store (t := 76) (p := 9) rfl ?_); refine put_event rfl rfl 76 (.tmp 9) (.tmp 44) rfl (off := 0) (u := .agg #[.int .u64 y.1, .int .u64 y.2.1, .int .u64 y.2.2.1, .int .u64 y.2.2.2]) (seg := [.int .u64 y.1, .int .u64 y.2.1, .int .u64 y.2.2.1, .int .u64 y.2.2.2]) rfl rfl H9.out rfl (by kernel_rfl) (by simp) (by simp [Value.oneCell']) ?_; intro w9 hrow hgr; have n1_ := Aside0.mk (HE.out.other hgr HG9.out); clear HE H9 hgr; have HE := n1_; clear n1_; have H9 := Aside0.mk (show RowAt w9 g9 76 [.int .u64 y.1, .int .u64 y.2.1, .int .u64 y.2.2.1, .int .u64 y.2.2.2] from hrow); clear hrow; obtain ⟨y0, y1, y2, y3⟩ := cells4 H9.out; (try clear r0 r1 r2 r3); obtain ⟨r0, r1, r2, r3⟩ := cells4 HE.out.tab.row)
        | (go_at_call 74; have hcall := fixed8_lit HE.out y (by have := e1_len (i := i) HCl.out; omega); (with_reducible refine hcall.mono ?_); clear hcall; rintro xx wc ⟨vc, rfl, he⟩; clear HE; have HE := Aside0.mk he; clear he H9 y0 y1 y2 y3; (try clear r0 r1 r2 r3); obtain ⟨r0, r1, r2, r3⟩ := cells4 HE.out.tab.row))
      go_roundw
      case measure => have := HI.out; have h1 := (List.getElem?_eq_some_iff.1 HY.out).1; simp [intOf]; omega
      case rel => exact ⟨i + 1, by go_num, ⟨(List.getElem?_eq_some_iff.1 HY.out).1⟩, ⟨by have h := HE.out; rw [e1_step HY.out] at h; exact h⟩⟩
    · have k2 : decide ((i : Int) < (S.length : Int)) = false := decide_eq_false (by omega)
      have hi : i = S.length := by have := HI.out; omega
      subst hi
      clear HI c2
      go_wp2_with (first
        | (go_at_call 73; have hcall := counts_lit HE.out T.length (by have := e1_len (i := S.length) HCl.out; have := HNl.out; omega); (with_reducible refine hcall.mono ?_); clear hcall; rintro xx wc ⟨vc, rfl, he⟩; clear HE; have HE := Aside0.mk he; clear he; (try clear r0 r1 r2 r3); obtain ⟨r0, r1, r2, r3⟩ := cells4 HE.out.tab.row))
      go_loopw [7, 71] (fun v7 v71 wr => ∃ (i : Nat), v71 = .int .i64 (i : Int) ∧ Aside0 (i ≤ T.length) ∧ Aside0 (EI w wr gt gc gn (.slice As S.length cs) (.slice At T.length ct) S T v7 (e2 S T i))) (fun v7 v71 _ => T.length - (intOf v71).toNat)
      case atStart => exact ⟨0, rfl, ⟨Nat.zero_le _⟩, ⟨by rw [← e2_start]; exact HE.out⟩⟩
      case round =>
        clear HE r0 r1 r2 r3 k2
        obtain ⟨i, rfl, HI, HE⟩ := hrel
        obtain ⟨r0, r1, r2, r3⟩ := cells4 HE.out.tab.row
        by_cases c2 : i < T.length
        · have k2 : decide ((i : Int) < (T.length : Int)) = true := decide_eq_true (by omega)
          have k2n : decide (i < T.length) = true := decide_eq_true c2
          obtain ⟨s, hy⟩ : ∃ s, T[i]? = some s := ⟨T[i], List.getElem?_eq_getElem c2⟩
          have HY := Aside0.mk hy
          have HSZ := Aside0.mk (okName_size (HNm.out s (List.mem_of_getElem? hy))).2
          obtain ⟨g, cp, he, y0⟩ := str_at HE.out.tab.t hy
          cases he
          have hixT : ∀ W : World, (Instr.indexAt 86 (.slice (some ⟨g, 0, none⟩) T.length ct) (.int .i64 (i : Int))).run Try.prog W = .ok (.pointer (some ⟨g, i, none⟩)) W := fun W => by
            have := run_indexAt_own (P := Try.prog) (t := 86) (size := 1) Try.underlying86 (fun W => by kernel_rfl) g T.length ct i c2 W
            rwa [Nat.mul_one] at this
          have hw1 : IntKind.i64.wrap ((i : Int) + 1) = ((i + 1 : Nat) : Int) := by rw [IntWalk.i64_in _ (by have := HNl.out; omega)]; omega
          have hwz : IntKind.u64.wrap (s.size : Int) = (s.size : Int) := Bits.wrap_u64 _ (by omega) (by have := HSZ.out; omega)
          clear hy c2
          go_wp2_with (first
            | (go_at_call 73; have hcall := counts_lit HE.out s.size (by have := e2_len (i := i) HCl.out HNl.out HNm.out; have := HSZ.out; omega); (with_reducible refine hcall.mono ?_); clear hcall; rintro xx wc ⟨vc, rfl, he⟩; clear HE; have HE := Aside0.mk he; clear he; (try clear r0 r1 r2 r3); obtain ⟨r0, r1, r2, r3⟩ := cells4 HE.out.tab.row)
            | ((with_reducible refine gate_builtin (b := .append) (xs := #[.tmp 80, .tmp 81]) rfl ?_); at_builtin; refine print_append_str w.heap.size rfl (.tmp 80) (.tmp 81) 37 9 5 rfl Try.underlying37 Try.underlying9 (by kernel_rfl) vc (e2 S T i ++ cntE s.size) s rfl rfl HE.out.own (Below.refl _ _) HE.out.tab.bel.size (by rw [List.length_append]; have h1 := e2_len (i := i) HCl.out HNl.out HNm.out; have h2 := HSZ.out; have h3 := cntE_three s.size (by omega); omega) ?_; intro v1 w1 hown hbel hgr; have n1_ := Aside0.mk (HE.out.grown hgr hown); clear HE hown hbel hgr; have HE := n1_; clear n1_; (try clear r0 r1 r2 r3); obtain ⟨r0, r1, r2, r3⟩ := cells4 HE.out.tab.row))
          go_roundw
          case measure => have := HI.out; have h1 := (List.getElem?_eq_some_iff.1 HY.out).1; simp [intOf]; omega
          case rel => exact ⟨i + 1, by go_num, ⟨(List.getElem?_eq_some_iff.1 HY.out).1⟩, ⟨by have h := HE.out; rw [bytesOf_nums, e2_step HY.out] at h; exact h⟩⟩
        · have k2 : decide ((i : Int) < (T.length : Int)) = false := decide_eq_false (by omega)
          have hi : i = T.length := by have := HI.out; omega
          subst hi
          clear HI c2
          go_wp2_with (first
            | (go_at_call 73; have hcall := counts_lit HE.out l.length (by have := e2_len (i := T.length) HCl.out HNl.out HNm.out; omega); (with_reducible refine hcall.mono ?_); clear hcall; rintro xx wc ⟨vc, rfl, he⟩; clear HE; have HE := Aside0.mk he; clear he; (try clear r0 r1 r2 r3); obtain ⟨r0, r1, r2, r3⟩ := cells4 HE.out.tab.row))
          go_loopw [7, 92] (fun v7 v92 wr => ∃ (i : Nat), v92 = .int .i64 (i : Int) ∧ Aside0 (i ≤ l.length) ∧ Aside0 (EI w wr gt gc gn (.slice As S.length cs) (.slice At T.length ct) S T v7 (e3 S T l i))) (fun v7 v92 _ => l.length - (intOf v92).toNat)
          case atStart => exact ⟨0, rfl, ⟨Nat.zero_le _⟩, ⟨by rw [← e3_start]; exact HE.out⟩⟩
          case round =>
            clear HE r0 r1 r2 r3 k2
            obtain ⟨i, rfl, HI, HE⟩ := hrel
            by_cases c2 : i < l.length
            · have k2 : decide ((i : Int) < (l.length : Int)) = true := decide_eq_true (by omega)
              have k2n : decide (i < l.length) = true := decide_eq_true c2
              have p0 : (0 : Int) ≤ (i : Int) := by omega
              obtain ⟨x, hx⟩ : ∃ x, rd_T78 l (i : Int) = x := ⟨_, rfl⟩
              have hget : l[i]? = some x := by
                rw [List.getElem?_eq_getElem c2, ← hx, rd_T78, List.getD_eq_getElem?_getD, Int.toNat_natCast, List.getElem?_eq_getElem c2]
                rfl
              obtain ⟨ad, e, x0, x1, x2, x3, x4, x5, x6⟩ := at_T78 (Kd.C_below HR.out HE.out.tab.bel) (i : Int) p0 (by omega)
              rw [hx] at x0 x1 x2 x3 x4 x5 x6
              simp only [Int.toNat_natCast] at x0 x1 x2 x3 x4 x5 x6
              cases e
              have q0n : (i < l.length) = True := eq_true c2
              have HY := Aside0.mk hget
              have hmem : x ∈ l := List.mem_of_getElem? hget
              have hio := (HOK.out x hmem).1
              have hop := hio.op
              have HNUM : Aside0 (∀ W, Tabs w W gt gc gn (.slice As S.length cs) (.slice At T.length ct) S T → Calls Try.prog 75 #[.pointer (some ⟨gt, 0, none⟩), .int .i64 i, .agg #[.int .i64 x.f0, .int .i64 x.f1, .int .u64 x.f2.f0, .int .u64 x.f2.f1, .int .u64 x.f2.f2, .int .u64 x.f2.f3, .string x.f3]] W fun e W' => e = .returned (.int .u64 (operN i x S T : Int)) ∧ Below W.heap.size W W') :=
                ⟨fun W hg => number_calls w W gt gc gn _ _ S T i x hg (by omega) (fun k => by have := (hio.k1 k).2; omega) (HHC.out x hmem) (HHN.out x hmem) HCl.out HNl.out⟩
              have hw1 : IntKind.i64.wrap ((i : Int) + 1) = ((i + 1 : Nat) : Int) := by rw [IntWalk.i64_in _ (by omega)]; omega
              have hN : operN i x S T ≤ 131072 := by
                rcases kind4 x.f0 with k | k | k | k
                · rw [operN, if_neg (by omega), if_neg (by omega), if_neg (by omega)]; omega
                · have := (hio.k1 k).2
                  rw [operN, if_pos k]; unfold farN; split <;> omega
                · have := place_lt (HHC.out x hmem k)
                  have := HCl.out
                  rw [operN, if_neg (by omega), if_pos k]; omega
                · have := place_lt (HHN.out x hmem k)
                  have := HNl.out
                  rw [operN, if_neg (by omega), if_neg (by omega), if_pos k]; omega
              have hst := Aside0.mk (e3_step (S := S) (T := T) hget)
              have hc1 : IntKind.u8.wrap x.f0 = x.f0 := by obtain ⟨n, hn⟩ := Int.eq_ofNat_of_zero_le hop.1; rw [hn]; exact Bits.wrap_u .u8 rfl n (by show _ < 2 ^ 8; omega)
              generalize operN i x S T = n at *
              clear hx hget hmem hio c2 p0
              by_cases c3 : n < 15
              · have k3 : decide ((n : Int) < 15) = true := decide_eq_true (by omega)
                have k3n : decide (n < 15) = true := decide_eq_true c3
                have hbit : Go.bits .or .u8 x.f0 ((n : Int) % 256 * 16 % 256) = x.f0 + (n : Int) * 16 := or_low hop c3
                have hins : insE x.f0 n = [x.f0 + (n : Int) * 16] := by rw [insE, if_pos c3]
                have HST := Aside0.mk (show e3 S T l i ++ [x.f0 + (n : Int) * 16] = e3 S T l (i + 1) by rw [← hins]; exact hst.out)
                clear c3 hins
                go_wp2_with (first
                  | ((with_reducible refine gate_dst (N := 13) rfl ?_); refine box_event (N := 13) rfl rfl (cs := #[.int .i64 0, .int .i64 0, .int .u64 0, .int .u64 0, .int .u64 0, .int .u64 0, .string (⟨#[]⟩ : ByteArray)]) (t := 78) ?hr2 ?_; (case hr2 => first | (go_simp; done) | (go_simp; rfl)); intro g13 hg13 w8 hbox hb1; have H13 := Aside0.mk (show RowAt w8 g13 78 (insCells zIns) from ⟨_, hbox, rfl⟩); have HG13 := Aside0.mk (HE.out.new_off hg13); have n1_ := Aside0.mk (HE.out.below hb1); clear HE hbox hb1 hg13 x0 x1 x2 x3 x4 x5 x6; have HE := n1_; clear n1_)
                  | ((with_reducible refine gate_store (t := 78) (p := 13) rfl ?_); refine put_event rfl rfl 78 (.tmp 13) (.tmp 96) rfl (off := 0) (u := .agg #[.int .i64 x.f0, .int .i64 x.f1, .int .u64 x.f2.f0, .int .u64 x.f2.f1, .int .u64 x.f2.f2, .int .u64 x.f2.f3, .string x.f3]) (seg := insCells x) rfl rfl H13.out rfl (by kernel_rfl) (by simp [insCells]) (by simp [insCells, Value.oneCell']) ?_; intro w9 hrow hgr; have n1_ := Aside0.mk (HE.out.other hgr HG13.out); clear HE H13 hgr; have HE := n1_; clear n1_; have H13 := Aside0.mk (show RowAt w9 g13 78 (insCells x) from hrow); clear hrow; obtain ⟨x0, x1, x2, x3, x4, x5, x6⟩ := cells7 H13.out)
                  | (go_at_call 75; have hcall := HNUM.out _ HE.out.tab; (with_reducible refine hcall.mono ?_); clear hcall; rintro xx w10 ⟨rfl, hb⟩; have n1_ := Aside0.mk (HE.out.below hb); have n2_ := Aside0.mk (H13.out.below hb); clear HE H13 hb x0 x1 x2 x3 x4 x5 x6; have HE := n1_; have H13 := n2_; clear n1_ n2_; obtain ⟨x0, x1, x2, x3, x4, x5, x6⟩ := cells7 H13.out)
                  | ((with_reducible refine gate_builtin (b := .append) (xs := #[.tmp 103, .tmp 111]) rfl ?_); at_builtin; refine print_append_cells w.heap.size rfl (.tmp 103) (.tmp 111) 37 5 (.int .u8 0) 1 1 rfl Try.underlying37 (by kernel_rfl) rfl (by decide) (by decide) u7 (e3 S T l i).length (nums .u8 (e3 S T l i)) [.int .u8 (x.f0 + (n : Int) * 16)] rfl rfl rfl (by simp [Value.oneCell']) HE.out.own (Below.refl _ _) HE.out.tab.bel.size (by have := HNB.out i; omega) ?_; intro v1 w11 hown hbel hgr _; have n1_ := Aside0.mk (HE.out.push hown hgr); clear HE H13 hown hbel hgr; have HE := n1_; clear n1_))
                go_roundw
                case measure => have := HI.out; have h1 := (List.getElem?_eq_some_iff.1 HY.out).1; simp [intOf]; omega
                case rel => exact ⟨i + 1, by go_num, ⟨(List.getElem?_eq_some_iff.1 HY.out).1⟩, ⟨by have h := HE.out; rw [HST.out] at h; exact h⟩⟩
              · have k3 : decide ((n : Int) < 15) = false := decide_eq_false (by omega)
                have k3n : decide (n < 15) = false := decide_eq_false c3
                have hbit : Go.bits .or .u8 x.f0 240 = x.f0 + 240 := or_240 hop
                have hsub : IntKind.u64.wrap ((n : Int) - 15) = ((n - 15 : Nat) : Int) := by rw [show ((n : Int) - 15) = ((n - 15 : Nat) : Int) by omega]; exact Bits.wrap_u64 _ (by omega) (by omega)
                have hins : insE x.f0 n = [x.f0 + 240] ++ cntE (n - 15) := by rw [insE, if_neg c3]; rfl
                have HST := Aside0.mk (show (e3 S T l i ++ [x.f0 + 240]) ++ cntE (n - 15) = e3 S T l (i + 1) by rw [List.append_assoc, ← hins]; exact hst.out)
                clear c3 hins
                go_wp2_with (first
                  | ((with_reducible refine gate_dst (N := 13) rfl ?_); refine box_event (N := 13) rfl rfl (cs := #[.int .i64 0, .int .i64 0, .int .u64 0, .int .u64 0, .int .u64 0, .int .u64 0, .string (⟨#[]⟩ : ByteArray)]) (t := 78) ?hr2 ?_; (case hr2 => first | (go_simp; done) | (go_simp; rfl)); intro g13 hg13 w8 hbox hb1; have H13 := Aside0.mk (show RowAt w8 g13 78 (insCells zIns) from ⟨_, hbox, rfl⟩); have HG13 := Aside0.mk (HE.out.new_off hg13); have n1_ := Aside0.mk (HE.out.below hb1); clear HE hbox hb1 hg13 x0 x1 x2 x3 x4 x5 x6; have HE := n1_; clear n1_)
                  | ((with_reducible refine gate_store (t := 78) (p := 13) rfl ?_); refine put_event rfl rfl 78 (.tmp 13) (.tmp 96) rfl (off := 0) (u := .agg #[.int .i64 x.f0, .int .i64 x.f1, .int .u64 x.f2.f0, .int .u64 x.f2.f1, .int .u64 x.f2.f2, .int .u64 x.f2.f3, .string x.f3]) (seg := insCells x) rfl rfl H13.out rfl (by kernel_rfl) (by simp [insCells]) (by simp [insCells, Value.oneCell']) ?_; intro w9 hrow hgr; have n1_ := Aside0.mk (HE.out.other hgr HG13.out); clear HE H13 hgr; have HE := n1_; clear n1_; have H13 := Aside0.mk (show RowAt w9 g13 78 (insCells x) from hrow); clear hrow; obtain ⟨x0, x1, x2, x3, x4, x5, x6⟩ := cells7 H13.out)
                  | (go_at_call 75; have hcall := HNUM.out _ HE.out.tab; (with_reducible refine hcall.mono ?_); clear hcall; rintro xx w10 ⟨rfl, hb⟩; have n1_ := Aside0.mk (HE.out.below hb); have n2_ := Aside0.mk (H13.out.below hb); clear HE H13 hb x0 x1 x2 x3 x4 x5 x6; have HE := n1_; have H13 := n2_; clear n1_ n2_; obtain ⟨x0, x1, x2, x3, x4, x5, x6⟩ := cells7 H13.out)
                  | ((with_reducible refine gate_builtin (b := .append) (xs := #[.tmp 113, .tmp 118]) rfl ?_); at_builtin; refine print_append_cells w.heap.size rfl (.tmp 113) (.tmp 118) 37 5 (.int .u8 0) 1 1 rfl Try.underlying37 (by kernel_rfl) rfl (by decide) (by decide) u7 (e3 S T l i).length (nums .u8 (e3 S T l i)) [.int .u8 (x.f0 + 240)] rfl rfl rfl (by simp [Value.oneCell']) HE.out.own (Below.refl _ _) HE.out.tab.bel.size (by have := HNB.out i; omega) ?_; intro v1 w11 hown hbel hgr _; have n1_ := Aside0.mk (HE.out.push hown hgr); clear HE H13 hown hbel hgr; have HE := n1_; clear n1_)
                  | (go_at_call 73; have hcall := counts_lit HE.out (n - 15) (by rw [List.length_append]; have := HNB.out i; simp; omega); (with_reducible refine hcall.mono ?_); clear hcall; rintro xx wc ⟨vc, rfl, he⟩; clear HE; have HE := Aside0.mk he; clear he; (try clear r0 r1 r2 r3); obtain ⟨r0, r1, r2, r3⟩ := cells4 HE.out.tab.row))
                go_roundw
                case measure => have := HI.out; have h1 := (List.getElem?_eq_some_iff.1 HY.out).1; simp [intOf]; omega
                case rel => exact ⟨i + 1, by go_num, ⟨(List.getElem?_eq_some_iff.1 HY.out).1⟩, ⟨by have h := HE.out; rw [HST.out] at h; exact h⟩⟩
            · have k2 : decide ((i : Int) < (l.length : Int)) = false := decide_eq_false (by omega)
              have hi : i = l.length := by have := HI.out; omega
              subst hi
              obtain ⟨sm, hsm⟩ : ∃ sm, crcL (e3 S T l l.length) = sm := ⟨_, rfl⟩
              have HSM := Aside0.mk hsm
              have HFIN : Aside0 (e3 S T l l.length ++ leN 4 sm = encodeE l) := ⟨by rw [← hsm, HEND.out, encodeE]⟩
              have hcr : IntKind.u64.wrap sm = sm := by rw [← hsm]; have h := bits_u32 .xor 4294967295 (crcRaw 4294967295 (e3 S T l l.length)); exact Bits.wrap_u64 _ h.1 (by unfold crcL; omega)
              clear HI c2 hsm
              by_cases c5 : 4194304 < (encodeE l).length
              · have k5 : decide (((encodeE l).length : Int) > 4194304) = true := decide_eq_true (by omega)
                have HC5 := Aside0.mk c5
                clear c5
                go_wp2_with (first
                  | (go_at_call 76; have hcall := sumE_lit HE.out (by have := HNB.out l.length; omega); rw [HSM.out] at hcall; (with_reducible refine hcall.mono ?_); clear hcall; rintro xx wc ⟨rfl, he⟩; clear HE; have HE := Aside0.mk he; clear he)
                  | (go_at_call 74; have hcall := fixed4_lit HE.out sm (by have := HNB.out l.length; omega); (with_reducible refine hcall.mono ?_); clear hcall; rintro xx wd ⟨vd, rfl, he⟩; rw [HFIN.out] at he; obtain ⟨A5, c5, rfl⟩ := own_len he.own; clear HE; have HE := Aside0.mk he; clear he))
                go_ret2
                exact ⟨.inr (.inl ⟨HF.out, HC5.out, rfl⟩), HE.out.tab.bel⟩
              · have k5 : decide (((encodeE l).length : Int) > 4194304) = false := decide_eq_false (by omega)
                have HC5 := Aside0.mk (show (encodeE l).length ≤ 4194304 by omega)
                clear c5
                go_wp2_with (first
                  | (go_at_call 76; have hcall := sumE_lit HE.out (by have := HNB.out l.length; omega); rw [HSM.out] at hcall; (with_reducible refine hcall.mono ?_); clear hcall; rintro xx wc ⟨rfl, he⟩; clear HE; have HE := Aside0.mk he; clear he)
                  | (go_at_call 74; have hcall := fixed4_lit HE.out sm (by have := HNB.out l.length; omega); (with_reducible refine hcall.mono ?_); clear hcall; rintro xx wd ⟨vd, rfl, he⟩; rw [HFIN.out] at he; obtain ⟨A5, c5, rfl⟩ := own_len he.own; clear HE; have HE := Aside0.mk he; clear he))
                go_ret2
                exact ⟨.inr (.inr ⟨HF.out, HC5.out, _, rfl, HE.out.own⟩), HE.out.tab.bel⟩
theorem encode_calls (hr : Kd.C k78 w A l.length l) (hc : l.length ≤ c) (hl : l.length ≤ 140737488351232) (hs : ∀ x ∈ l, x.f3.size ≤ 140737488351232) :
    Calls Try.prog 35 #[.slice A l.length c] w fun e w' => EncOut w w' l e ∧ Below w.heap.size w w' := by
  by_cases h : (checkL l).2 = 0
  · exact encode_good A c l w hr hc hl hs (check_zero h)
  · exact encode_bad A c l w hr hc hl hs h
end
end Go.Proofs.Ytebiogaacikphaa.Pack
end
