/- Parts of the proof of packEncodes: RefEncode. No condition beyond each lemma's own. -/
import Derived.Test.YtebiogaacikphaaTE27
section
namespace Go.Proofs.Ytebiogaacikphaa.Pack
open Go.RowKit Go.Proofs.YtebiogaacikphaaW.PrintWords Go.Proofs.Ytebiogaacikphaa.PAll Go.Proofs.Ytebiogaacikphaa.Names
set_option linter.unusedVariables false
set_option linter.unusedSimpArgs false
set_option linter.unnecessarySimpa false
theorem cells3 {W : World} {g : Nat} {e : TypeId} {a b c : Value} (h : RowAt W g e [a, b, c]) : W.cell? ⟨g, 0, none⟩ = some a ∧ W.cell? ⟨g, 1, none⟩ = some b ∧ W.cell? ⟨g, 2, none⟩ = some c := ⟨h.cell 0, h.cell 1, h.cell 2⟩
section
variable (A : Option Addr) (c : Nat) (l : List Ins) (w : World)
set_option maxHeartbeats 4000000 in
set_option maxRecDepth 100000 in
theorem refenc_bad (hr : Kd.C k78 w A l.length l) (hc : l.length ≤ c) (hs : ∀ x ∈ l, x.f3.size ≤ 140737488351232) (hbad : (checkL l).2 ≠ 0) :
    Calls Try.prog 36 #[.slice A l.length c] w fun e w' => EncOut w w' l e ∧ Below w.heap.size w w' := by
  have HR := Aside0.mk hr
  have HC := Aside0.mk hc
  have HSS := Aside0.mk hs
  obtain ⟨f0, f1, hf⟩ : ∃ f0 f1, checkL l = (f0, f1) := ⟨_, _, rfl⟩
  rw [hf] at hbad
  have HF := Aside0.mk hf
  have b0 : (f1 != 0) = true := by simpa using hbad
  have HBAD := Aside0.mk hbad
  clear hr hc hs hf hbad
  go_enter Try.func36, Try.ntmps36
  go_wp2_with (first
    | (go_at_call 77; have hcall := check19_lit A c l w HR.out HC.out HSS.out; rw [HF.out] at hcall; (with_reducible refine hcall.mono ?_); clear hcall; rintro xx w2 ⟨rfl, hb⟩; have HB := Aside0.mk hb; clear hb)
    | ((with_reducible refine gate_dst (N := 4) rfl ?_); refine box_event (N := 4) rfl rfl (cs := #[.int .i64 0, .int .i64 0]) (t := 46) ?hr2 ?_; (case hr2 => first | (go_simp; done) | (go_simp; rfl)); intro g4 hg4 w3 hbox hb1; have H4 := Aside0.mk (show RowAt w3 g4 46 [.int .i64 0, .int .i64 0] from ⟨_, hbox, rfl⟩); have HG4 := Aside0.mk (show w.heap.size ≤ g4 by have := HB.out.size; omega); have n1_ := Aside0.mk (below_step HB.out hb1); clear HB hbox hb1 hg4; have HB := n1_; clear n1_)
    | ((with_reducible refine gate_store (t := 46) (p := 4) rfl ?_); refine put_event rfl rfl 46 (.tmp 4) (.tmp 14) rfl (off := 0) (u := .agg #[.int .i64 (f0), .int .i64 (f1)]) (seg := [.int .i64 (f0), .int .i64 (f1)]) rfl rfl H4.out rfl (by kernel_rfl) (by simp) (by simp [Value.oneCell']) ?_; intro w5 hrow hgr; have n1_ := Aside0.mk (pw_below_grown HB.out (some g4) HB.out.size hgr (fun k hk => by injection hk with hk; have := HG4.out; omega)); have z1 := RowAt.cell hrow 1; simp only [List.take_zero, List.nil_append, List.getElem?_append, List.getElem?_cons_zero, List.getElem?_cons_succ] at z1; clear HB H4 hrow hgr; have HB := n1_; clear n1_))
  go_quiet (fail)
  go_wp2
  go_ret2
  exact ⟨.inl ⟨by rw [HF.out]; exact HBAD.out, by rw [HF.out]; rfl⟩, pw_below_drewN HB.out nq⟩
set_option maxHeartbeats 8000000 in
set_option maxRecDepth 100000 in
theorem refenc_good (hr : Kd.C k78 w A l.length l) (hc : l.length ≤ c) (hs : ∀ x ∈ l, x.f3.size ≤ 140737488351232) (hok : checkL l = (0, 0)) :
    Calls Try.prog 36 #[.slice A l.length c] w fun e w' => EncOut w w' l e ∧ Below w.heap.size w w' := by
  have HR := Aside0.mk hr
  have HC := Aside0.mk hc
  have HSS := Aside0.mk hs
  have HF := Aside0.mk hok
  obtain ⟨l0, l1, l2⟩ := (checkL_ok l).1 hok
  have HOK := Aside0.mk (fun x hx => rightB_ok (l2 x hx))
  have HCl : Aside0 ((l.foldl addC []).length ≤ 65536) := ⟨by have := foldC_length l []; rw [List.length_nil, Nat.zero_add] at this; omega⟩
  have HNl : Aside0 ((l.foldl addN []).length ≤ 65536) := ⟨by have := foldN_length l []; rw [List.length_nil, Nat.zero_add] at this; omega⟩
  have HNm : Aside0 (∀ s ∈ l.foldl addN [], okName s = true) := ⟨fun s h => by
    rcases foldN_mem l [] s h with h | ⟨x, hx, hk, rfl⟩
    · cases h
    · exact (HOK.out x hx).2 hk⟩
  have HNB : Aside0 (∀ i, (e3 (l.foldl addC []) (l.foldl addN []) l i).length ≤ 6619150) := ⟨fun i => e3_len l1 (fun x hx => (HOK.out x hx).1) (fun x hx => (HOK.out x hx).2)⟩
  have HEND := Aside0.mk (e3_end l)
  have HHC := Aside0.mk (fun x h => foldC_has l [] x h)
  have HHN := Aside0.mk (fun x h => foldN_has l [] x h)
  obtain ⟨S, hS⟩ : ∃ S, l.foldl addC [] = S := ⟨_, rfl⟩
  obtain ⟨T, hT⟩ : ∃ T, l.foldl addN [] = T := ⟨_, rfl⟩
  rw [hS] at HCl HEND HHC HNB
  rw [hT] at HNl HNm HEND HHN HNB
  have HS := Aside0.mk hS
  have HT := Aside0.mk hT
  clear hr hc hs hok l2 hS hT
  go_enter Try.func36, Try.ntmps36
  go_wp2_with (first
    | (go_at_call 77; have hcall := check19_lit A c l w HR.out HC.out HSS.out; rw [HF.out] at hcall; (with_reducible refine hcall.mono ?_); clear hcall; rintro xx w2 ⟨rfl, hb⟩; have HB := Aside0.mk hb; clear hb)
    | ((with_reducible refine gate_dst (N := 4) rfl ?_); refine box_event (N := 4) rfl rfl (cs := #[.int .i64 0, .int .i64 0]) (t := 46) ?hr2 ?_; (case hr2 => first | (go_simp; done) | (go_simp; rfl)); intro g4 hg4 w3 hbox hb1; have H4 := Aside0.mk (show RowAt w3 g4 46 [.int .i64 0, .int .i64 0] from ⟨_, hbox, rfl⟩); have HG4 := Aside0.mk (show w.heap.size ≤ g4 by have := HB.out.size; omega); have n1_ := Aside0.mk (below_step HB.out hb1); clear HB hbox hb1 hg4; have HB := n1_; clear n1_)
    | ((with_reducible refine gate_store (t := 46) (p := 4) rfl ?_); refine put_event rfl rfl 46 (.tmp 4) (.tmp 14) rfl (off := 0) (u := .agg #[.int .i64 (0), .int .i64 (0)]) (seg := [.int .i64 (0), .int .i64 (0)]) rfl rfl H4.out rfl (by kernel_rfl) (by simp) (by simp [Value.oneCell']) ?_; intro w5 hrow hgr; have n1_ := Aside0.mk (pw_below_grown HB.out (some g4) HB.out.size hgr (fun k hk => by injection hk with hk; have := HG4.out; omega)); have z1 := RowAt.cell hrow 1; simp only [List.take_zero, List.nil_append, List.getElem?_append, List.getElem?_cons_zero, List.getElem?_cons_succ] at z1; clear HB H4 hrow hgr; have HB := n1_; clear n1_)
    | (go_at_call 78; have hcall := tables_lit A c l w5 (Kd.C_below HR.out HB.out) HC.out l1; (with_reducible refine hcall.mono ?_); clear hcall; rintro xx w6 ⟨v0, v1, v2, rfl, hs, ht, hn, hb⟩; rw [HS.out] at hs; rw [HT.out] at ht; rw [HS.out, HT.out] at hn; have HTS := Aside0.mk hs; have HTT := Aside0.mk ht; have HTN := Aside0.mk hn; obtain ⟨As, cs, rfl⟩ := own_len hs; obtain ⟨At, ct, rfl⟩ := own_len ht; obtain ⟨An, cn, rfl⟩ := own_len hn; have n1_ := Aside0.mk (below_step HB.out hb); clear HB hs ht hn hb z1; have HB := n1_; clear n1_)
    | ((with_reducible refine gate_dst (N := 5) rfl ?_); refine box_event (N := 5) rfl rfl (cs := #[.slice none 0 0, .slice none 0 0, .slice none 0 0]) (t := 112) ?hr2 ?_; (case hr2 => first | (go_simp; done) | (go_simp; rfl)); intro g5 hg5 w7 hbox hb1; have H5 := Aside0.mk (show RowAt w7 g5 112 [.slice none 0 0, .slice none 0 0, .slice none 0 0] from ⟨_, hbox, rfl⟩); have HG5 := Aside0.mk (show w6.heap.size ≤ g5 ∧ w.heap.size ≤ g5 by have := HB.out.size; omega); have HX := Aside0.mk hb1; have n1_ := Aside0.mk (below_step HB.out hb1); clear HB hbox hb1 hg5; have HB := n1_; clear n1_)
    | ((with_reducible refine gate_store (t := 112) (p := 5) rfl ?_); refine put_event rfl rfl 112 (.tmp 5) (.tmp 21) rfl (off := 0) (u := .agg #[.slice As S.length cs, .slice At T.length ct, .slice An l.length cn]) (seg := [.slice As S.length cs, .slice At T.length ct, .slice An l.length cn]) rfl rfl H5.out rfl (by kernel_rfl) (by simp) (by simp [Value.oneCell']) ?_; intro w8 hrow hgr; have n1_ := Aside0.mk (pw_below_grown HB.out (some g5) HB.out.size hgr (fun k hk => by injection hk with hk; have := HG5.out; omega)); have hx := pw_below_grown HX.out (some g5) HX.out.size hgr (fun k hk => by injection hk with hk; have := HG5.out; omega); have n2_ := Aside0.mk (show RowAt w8 g5 112 [.slice As S.length cs, .slice At T.length ct, .slice An l.length cn] from hrow); have n3_ := Aside0.mk (own_kept HTS.out (fun k hk => hx.block k (own_lt HTS.out k hk))); have n4_ := Aside0.mk (own_kept HTT.out (fun k hk => hx.block k (own_lt HTT.out k hk))); have n5_ := Aside0.mk (own_kept HTN.out (fun k hk => hx.block k (own_lt HTN.out k hk))); clear HB HX H5 HTS HTT HTN hrow hgr hx HG5; have HB := n1_; have H5 := n2_; have HTS := n3_; have HTT := n4_; have HTN := n5_; clear n1_ n2_ n3_ n4_ n5_; have he : BI w8 (w8.alloc (.cells #[.int .u8 100, .int .u8 111, .int .u8 119, .int .u8 108, .int .u8 1] 5 (0, 0))) (.slice (some ⟨w8.heap.size, 0, none⟩) 5 5) magicL := ⟨below_alloc (Below.refl _ _) _, World.ownsRow_lit (base := w8.heap.size) (e := 5) (size := 1) w8 #[.int .u8 100, .int .u8 111, .int .u8 119, .int .u8 108, .int .u8 1] 5 (Nat.le_refl _) (by decide) rfl⟩; have HE := Aside0.mk he; clear he; (try clear r0 r1 r2); obtain ⟨r0, r1, r2⟩ := cells3 (H5.out.below HE.out.bel))
    | (go_at_call 79; have hcall := countR_lit HE.out S.length (by have := HCl.out; simp [magicL]; omega); (with_reducible refine hcall.mono ?_); clear hcall; rintro xx wc ⟨vc, rfl, he⟩; clear HE; have HE := Aside0.mk he; clear he; (try clear r0 r1 r2); obtain ⟨r0, r1, r2⟩ := cells3 (H5.out.below HE.out.bel)))
  go_loopw [6, 7] (fun v6 v7 wr => ∃ (i : Nat), v7 = .int .i64 (i : Int) ∧ Aside0 (i ≤ S.length) ∧ Aside0 (BI w8 wr v6 (e1 S i))) (fun v6 v7 _ => S.length - (intOf v7).toNat)
  case atStart => exact ⟨0, rfl, ⟨Nat.zero_le _⟩, ⟨by rw [← e1_start]; exact HE.out⟩⟩
  case round =>
    clear HE r0 r1 r2
    obtain ⟨i, rfl, HI, HE⟩ := hrel
    obtain ⟨r0, r1, r2⟩ := cells3 (H5.out.below HE.out.bel)
    by_cases c2 : i < S.length
    · have k2 : decide ((i : Int) < (S.length : Int)) = true := decide_eq_true (by omega)
      have k2n : decide (i < S.length) = true := decide_eq_true c2
      obtain ⟨y, hy⟩ : ∃ y, S[i]? = some y := ⟨S[i], List.getElem?_eq_getElem c2⟩
      have HY := Aside0.mk hy
      have hw1 : IntKind.i64.wrap ((i : Int) + 1) = ((i + 1 : Nat) : Int) := by rw [IntWalk.i64_in _ (by have := HCl.out; omega)]; omega
      have HC2 := Aside0.mk c2
      clear hy c2
      go_wp2
      go_loopw [6, 8] (fun v6 v8 wr => ∃ (k : Nat), v8 = .int .i64 (k : Int) ∧ Aside0 (k ≤ 32) ∧ Aside0 (BI w8 wr v6 (e1 S i ++ (clsE y).take k))) (fun v6 v8 _ => 32 - (intOf v8).toNat)
      case atStart => exact ⟨0, rfl, ⟨Nat.zero_le _⟩, ⟨by rw [List.take_zero, List.append_nil]; exact HE.out⟩⟩
      case round =>
        clear HE r0 r1 r2
        obtain ⟨k, rfl, HK, HE⟩ := hrel
        obtain ⟨r0, r1, r2⟩ := cells3 (H5.out.below HE.out.bel)
        by_cases c3 : k < 32
        · have k3 : decide ((k : Int) < 32) = true := decide_eq_true (by omega)
          have k3n : decide (k < 32) = true := decide_eq_true c3
          have hw2 : IntKind.i64.wrap ((k : Int) + 1) = ((k + 1 : Nat) : Int) := by rw [IntWalk.i64_in _ (by omega)]; omega
          obtain ⟨g, cp, he, hcl⟩ := cls_at (own_kept HTS.out (fun q hq => HE.out.bel.block q (own_lt HTS.out q hq))) HY.out
          cases he
          obtain ⟨j, hj⟩ : ∃ j, k / 8 = j := ⟨_, rfl⟩
          obtain ⟨r, hr⟩ : ∃ r, k % 8 = r := ⟨_, rfl⟩
          have hjr : j < 4 ∧ r < 8 := by omega
          have hsn := cls_snoc y k c3
          rw [hj, hr] at hsn
          obtain ⟨x, hx⟩ : ∃ x, wordJ y j = x := ⟨_, rfl⟩
          rw [hx] at hsn
          have hcell : wr.cell? ⟨g, i * 4 + j, none⟩ = some (.int .u64 x) := by
            refine hcl j _ ?_
            rw [← hx]
            exact word_cell y j hjr.1
          obtain ⟨z, hz⟩ : ∃ z, x / 256 ^ r % 256 = z := ⟨_, rfl⟩
          rw [hz] at hsn
          have HSN := Aside0.mk hsn
          have hz2 : x / 2 ^ (8 * r) % 256 = z := by rw [← hz, Int.pow_mul]; rfl
          have hixS : ∀ W : World, (Instr.indexAt 85 (.slice (some ⟨g, 0, none⟩) S.length cs) (.int .i64 (i : Int))).run Try.prog W = .ok (.pointer (some ⟨g, i * 4, none⟩)) W :=
            fun W => run_indexAt_own (P := Try.prog) (t := 85) (size := 4) Try.underlying85 (fun W => by kernel_rfl) g S.length cs i HC2.out W
          have hix : ∀ W : World, (Instr.indexAt 76 (.pointer (some ⟨g, i * 4, none⟩)) (.int .i64 (j : Int))).run Try.prog W = .ok (.pointer (some ⟨g, i * 4 + j, none⟩)) W := by
            intro W
            have hb0 : (0 : Int) ≤ (j : Int) ∧ (j : Int) < 4 := by omega
            simp [Instr.indexAt, go_sem, hb0, Try.underlying76]
            omega
          have hquo : (k : Int).tdiv 8 = (j : Int) := by rw [Int.tdiv_eq_ediv_of_nonneg (by omega)]; omega
          have hrem : (k : Int).tmod 8 = (r : Int) := by rw [Int.tmod_eq_emod_of_nonneg (by omega)]; omega
          have hwj : IntKind.i64.wrap (j : Int) = (j : Int) := IntWalk.i64_in _ (by omega)
          have hw8 : IntKind.i64.wrap (8 * (r : Int)) = 8 * (r : Int) := IntWalk.i64_in _ (by omega)
          have HK3 := Aside0.mk c3
          clear hj hr hsn hcl hx c3 hz
          go_wp2_with (first
            | ((with_reducible refine gate_builtin (b := .append) (xs := #[.tmp 39, .tmp 53]) rfl ?_); at_builtin; refine print_append_cells w8.heap.size rfl (.tmp 39) (.tmp 53) 37 5 (.int .u8 0) 1 1 rfl Try.underlying37 (by kernel_rfl) rfl (by decide) (by decide) u6 (e1 S i ++ (clsE y).take k).length (nums .u8 (e1 S i ++ (clsE y).take k)) [.int .u8 z] rfl rfl rfl (by simp [Value.oneCell']) HE.out.own (Below.refl _ _) HE.out.bel.size (by have h1 := e1_len (i := i) HCl.out; have h2 := HK3.out; rw [List.length_append, List.length_take]; omega) ?_; intro v1 w11 hown hbel hgr _; have n1_ := Aside0.mk (HE.out.push hown hgr); clear HE hown hbel hgr; have HE := n1_; clear n1_))
          go_roundw
          case measure => have := HK3.out; simp [intOf]; omega
          case rel => exact ⟨k + 1, by go_num, ⟨HK3.out⟩, ⟨by have h := HE.out; rw [List.append_assoc, HSN.out] at h; exact h⟩⟩
        · have k3 : decide ((k : Int) < 32) = false := decide_eq_false (by omega)
          obtain rfl : k = 32 := by have := HK.out; omega
          clear HK c3
          go_wp2
          go_roundw
          case measure => have := HC2.out; simp [intOf]; omega
          case rel => exact ⟨i + 1, by go_num, ⟨HC2.out⟩, ⟨by have h := HE.out; rw [cls_all, e1_step HY.out] at h; exact h⟩⟩
    · have k2 : decide ((i : Int) < (S.length : Int)) = false := decide_eq_false (by omega)
      obtain rfl : i = S.length := by have := HI.out; omega
      clear HI c2
      go_wp2_with (first
        | (go_at_call 79; have hcall := countR_lit HE.out T.length (by have := e1_len (i := S.length) HCl.out; have := HNl.out; omega); (with_reducible refine hcall.mono ?_); clear hcall; rintro xx wc ⟨vc, rfl, he⟩; clear HE; have HE := Aside0.mk he; clear he; (try clear r0 r1 r2); obtain ⟨r0, r1, r2⟩ := cells3 (H5.out.below HE.out.bel)))
      go_loopw [6, 9] (fun v6 v9 wr => ∃ (i : Nat), v9 = .int .i64 (i : Int) ∧ Aside0 (i ≤ T.length) ∧ Aside0 (BI w8 wr v6 (e2 S T i))) (fun v6 v9 _ => T.length - (intOf v9).toNat)
      case atStart => exact ⟨0, rfl, ⟨Nat.zero_le _⟩, ⟨by rw [← e2_start]; exact HE.out⟩⟩
      case round =>
        clear HE r0 r1 r2 k2
        obtain ⟨i, rfl, HI, HE⟩ := hrel
        obtain ⟨r0, r1, r2⟩ := cells3 (H5.out.below HE.out.bel)
        by_cases c2 : i < T.length
        · have k2 : decide ((i : Int) < (T.length : Int)) = true := decide_eq_true (by omega)
          have k2n : decide (i < T.length) = true := decide_eq_true c2
          obtain ⟨s, hy⟩ : ∃ s, T[i]? = some s := ⟨T[i], List.getElem?_eq_getElem c2⟩
          have HY := Aside0.mk hy
          have HSZ := Aside0.mk (okName_size (HNm.out s (List.mem_of_getElem? hy))).2
          obtain ⟨g, cp, he, y0⟩ := str_at HTT.out hy
          cases he
          have HY0 := Aside0.mk y0
          have HBLK := Aside0.mk (own_lt HTT.out g rfl)
          have hixT : ∀ W : World, (Instr.indexAt 86 (.slice (some ⟨g, 0, none⟩) T.length ct) (.int .i64 (i : Int))).run Try.prog W = .ok (.pointer (some ⟨g, i, none⟩)) W := fun W => by
            have := run_indexAt_own (P := Try.prog) (t := 86) (size := 1) Try.underlying86 (fun W => by kernel_rfl) g T.length ct i c2 W
            rwa [Nat.mul_one] at this
          have hw1 : IntKind.i64.wrap ((i : Int) + 1) = ((i + 1 : Nat) : Int) := by rw [IntWalk.i64_in _ (by have := HNl.out; omega)]; omega
          have HC2 := Aside0.mk c2
          clear hy c2 y0
          go_wp2
          have n1_ := Aside0.mk (HE.out.below (below_drew (Below.refl _ _)))
          refine wp_region_held_drew (S := fun W => Below w8.heap.size w8 W) (by kernel_rfl) n1_.out.bel (fun hH => ?_)
          clear HE r0 r1 r2
          have HE := n1_
          clear n1_
          generalize wr.drew = w9 at *
          obtain ⟨A6, c6, rfl⟩ := own_len HE.out.own
          refine wpAnyH_take (i := 0) (oi := _) (v := .slice A6 (e2 S T i).length c6) rfl (by kernel_rfl) (by kernel_rfl) (by kernel_rfl) (fun _ _ _ h => h) (Or.inl ⟨by rfl, fun w hw => by go_simp⟩) hH ?_; simp only [List.getElem_toArray, List.getElem_cons_zero, List.getElem_cons_succ, Act.put, List.setIfInBounds_toArray, List.set_cons_zero, List.set_cons_succ]
          refine wpAnyH_take (i := 1) (oi := _) (v := .pointer (some ⟨g5, 1, none⟩)) rfl (by kernel_rfl) (by kernel_rfl) (by kernel_rfl) (fun _ _ _ h => h) (Or.inl ⟨by rfl, fun w hw => by go_simp⟩) hH ?_; simp only [List.getElem_toArray, List.getElem_cons_zero, List.getElem_cons_succ, Act.put, List.setIfInBounds_toArray, List.set_cons_zero, List.set_cons_succ]
          refine wpAnyH_take (i := 2) (oi := _) (v := .slice (some ⟨g, 0, none⟩) T.length ct) rfl (by kernel_rfl) (by kernel_rfl) (by kernel_rfl) (fun _ _ _ h => h) (Or.inl ⟨by rfl, fun w hw => by (obtain ⟨r0, r1, r2⟩ := cells3 (H5.out.below hw); go_simp)⟩) hH ?_; simp only [List.getElem_toArray, List.getElem_cons_zero, List.getElem_cons_succ, Act.put, List.setIfInBounds_toArray, List.set_cons_zero, List.set_cons_succ]
          refine wpAnyH_take (i := 3) (oi := _) (v := .int .i64 (i : Int)) rfl (by kernel_rfl) (by kernel_rfl) (by kernel_rfl) (fun _ _ _ h => h) (Or.inl ⟨by rfl, fun w hw => by go_simp⟩) hH ?_; simp only [List.getElem_toArray, List.getElem_cons_zero, List.getElem_cons_succ, Act.put, List.setIfInBounds_toArray, List.set_cons_zero, List.set_cons_succ]
          refine wpAnyH_take (i := 4) (oi := _) (v := .pointer (some ⟨g, i, none⟩)) rfl (by kernel_rfl) (by kernel_rfl) (by kernel_rfl) (fun _ _ _ h => h) (Or.inl ⟨by rfl, fun w hw => by go_simp⟩) hH ?_; simp only [List.getElem_toArray, List.getElem_cons_zero, List.getElem_cons_succ, Act.put, List.setIfInBounds_toArray, List.set_cons_zero, List.set_cons_succ]
          refine wpAnyH_take (i := 5) (oi := _) (v := .string s) rfl (by kernel_rfl) (by kernel_rfl) (by kernel_rfl) (fun _ _ _ h => h) (Or.inl ⟨by rfl, fun w hw => by (have y0 := cell_below HY0.out HBLK.out hw; go_simp)⟩) hH ?_; simp only [List.getElem_toArray, List.getElem_cons_zero, List.getElem_cons_succ, Act.put, List.setIfInBounds_toArray, List.set_cons_zero, List.set_cons_succ]
          refine wpAnyH_take (i := 6) (oi := _) (v := .int .i64 (s.size : Int)) rfl (by kernel_rfl) (by kernel_rfl) (by kernel_rfl) (fun _ _ _ h => h) (Or.inl ⟨by rfl, fun w hw => by go_simp⟩) hH ?_; simp only [List.getElem_toArray, List.getElem_cons_zero, List.getElem_cons_succ, Act.put, List.setIfInBounds_toArray, List.set_cons_zero, List.set_cons_succ]
          refine wpAnyH_take (i := 8) (oi := _) (v := .pointer (some ⟨g5, 1, none⟩)) rfl (by kernel_rfl) (by kernel_rfl) (by kernel_rfl) (fun _ _ _ h => h) (Or.inl ⟨by rfl, fun w hw => by go_simp⟩) hH ?_; simp only [List.getElem_toArray, List.getElem_cons_zero, List.getElem_cons_succ, Act.put, List.setIfInBounds_toArray, List.set_cons_zero, List.set_cons_succ]
          refine wpAnyH_take (i := 9) (oi := _) (v := .slice (some ⟨g, 0, none⟩) T.length ct) rfl (by kernel_rfl) (by kernel_rfl) (by kernel_rfl) (fun _ _ _ h => h) (Or.inl ⟨by rfl, fun w hw => by (obtain ⟨r0, r1, r2⟩ := cells3 (H5.out.below hw); go_simp)⟩) hH ?_; simp only [List.getElem_toArray, List.getElem_cons_zero, List.getElem_cons_succ, Act.put, List.setIfInBounds_toArray, List.set_cons_zero, List.set_cons_succ]
          refine wpAnyH_take (i := 10) (oi := _) (v := .int .i64 (i : Int)) rfl (by kernel_rfl) (by kernel_rfl) (by kernel_rfl) (fun _ _ _ h => h) (Or.inl ⟨by rfl, fun w hw => by go_simp⟩) hH ?_; simp only [List.getElem_toArray, List.getElem_cons_zero, List.getElem_cons_succ, Act.put, List.setIfInBounds_toArray, List.set_cons_zero, List.set_cons_succ]
          refine wpAnyH_take (i := 11) (oi := _) (v := .pointer (some ⟨g, i, none⟩)) rfl (by kernel_rfl) (by kernel_rfl) (by kernel_rfl) (fun _ _ _ h => h) (Or.inl ⟨by rfl, fun w hw => by go_simp⟩) hH ?_; simp only [List.getElem_toArray, List.getElem_cons_zero, List.getElem_cons_succ, Act.put, List.setIfInBounds_toArray, List.set_cons_zero, List.set_cons_succ]
          refine wpAnyH_take (i := 12) (oi := _) (v := .string s) rfl (by kernel_rfl) (by kernel_rfl) (by kernel_rfl) (fun _ _ _ h => h) (Or.inl ⟨by rfl, fun w hw => by (have y0 := cell_below HY0.out HBLK.out hw; go_simp)⟩) hH ?_; simp only [List.getElem_toArray, List.getElem_cons_zero, List.getElem_cons_succ, Act.put, List.setIfInBounds_toArray, List.set_cons_zero, List.set_cons_succ]
          refine wpAnyH_ready (rs := [7]) (by kernel_rfl) (by simp) ?_; refine AllReadyH.cons (o := _) rfl (fun K hK => ?_) AllReadyH.nil
          refine rstep_call (w1 := w9) (by rfl) (by go_simp) (countR_lit HE.out s.size (by have := e2_len (i := i) HCl.out HNl.out HNm.out; have := HSZ.out; omega)) ?_
          rintro _ w10 ⟨vc, rfl, he⟩
          refine ⟨_, rfl, ?_⟩
          refine hK.out _ _ he.bel (fun _ => ?_)
          clear hK K hH HE
          have hH := he.bel
          have HE := Aside0.mk he
          clear he
          simp only [List.getElem_toArray, List.getElem_cons_zero, List.getElem_cons_succ, Act.put, List.setIfInBounds_toArray, List.set_cons_zero, List.set_cons_succ]
          refine wpAnyH_ready (rs := [13]) (by kernel_rfl) (by simp) ?_; refine AllReadyH.cons (o := _) rfl (fun K hK => ?_) AllReadyH.nil
          refine rstep_append_str w8.heap.size (by rfl) (.tmp 74) (.tmp 79) 37 9 5 rfl Try.underlying37 Try.underlying9 (by kernel_rfl) vc (e2 S T i ++ cntE s.size) s rfl rfl HE.out.own HE.out.bel.size (by rw [List.length_append]; have h1 := e2_len (i := i) HCl.out HNl.out HNm.out; have h2 := HSZ.out; have h3 := cntE_three s.size (by omega); omega) ?_
          intro v1 w11 hown hgr
          have n1_ := Aside0.mk (HE.out.grown hgr hown)
          clear HE hown hgr hH
          have HE := n1_
          clear n1_
          have hH := HE.out.bel
          refine hK.out _ _ hH (fun _ => ?_); clear hK K; simp only [List.getElem_toArray, List.getElem_cons_zero, List.getElem_cons_succ, Act.put, List.setIfInBounds_toArray, List.set_cons_zero, List.set_cons_succ]
          refine wpAnyH_take (i := 14) (oi := _) (v := v1) rfl (by kernel_rfl) (by kernel_rfl) (by kernel_rfl) (fun _ _ _ h => h) (Or.inl ⟨by rfl, fun w hw => by go_simp⟩) hH ?_; simp only [List.getElem_toArray, List.getElem_cons_zero, List.getElem_cons_succ, Act.put, List.setIfInBounds_toArray, List.set_cons_zero, List.set_cons_succ]
          refine wpAnyH_done (by kernel_rfl) ?_ _
          clear hH
          go_wp2
          go_roundw
          case measure => have := HC2.out; simp [intOf]; omega
          case rel => exact ⟨i + 1, by go_num, ⟨HC2.out⟩, ⟨by have h := HE.out; rw [bytesOf_nums, e2_step HY.out] at h; exact h⟩⟩
        · have k2 : decide ((i : Int) < (T.length : Int)) = false := decide_eq_false (by omega)
          obtain rfl : i = T.length := by have := HI.out; omega
          clear HI c2
          go_wp2_with (first
            | (go_at_call 79; have hcall := countR_lit HE.out l.length (by have := e2_len (i := T.length) HCl.out HNl.out HNm.out; omega); (with_reducible refine hcall.mono ?_); clear hcall; rintro xx wc ⟨vc, rfl, he⟩; clear HE; have HE := Aside0.mk he; clear he; (try clear r0 r1 r2); obtain ⟨r0, r1, r2⟩ := cells3 (H5.out.below HE.out.bel)))
          go_loopw [6, 10] (fun v6 v10 wr => ∃ (i : Nat), v10 = .int .i64 (i : Int) ∧ Aside0 (i ≤ l.length) ∧ Aside0 (BI w8 wr v6 (e3 S T l i))) (fun v6 v10 _ => l.length - (intOf v10).toNat)
          case atStart => exact ⟨0, rfl, ⟨Nat.zero_le _⟩, ⟨by rw [← e3_start]; exact HE.out⟩⟩
          case round =>
            clear HE r0 r1 r2 k2
            obtain ⟨i, rfl, HI, HE⟩ := hrel
            obtain ⟨r0, r1, r2⟩ := cells3 (H5.out.below HE.out.bel)
            by_cases c2 : i < l.length
            · have k2 : decide ((i : Int) < (l.length : Int)) = true := decide_eq_true (by omega)
              have k2n : decide (i < l.length) = true := decide_eq_true c2
              have q0n : (i < l.length) = True := eq_true c2
              have HIL := Aside0.mk c2
              obtain ⟨x, hx⟩ : ∃ x, rd_T78 l (i : Int) = x := ⟨_, rfl⟩
              have hget : l[i]? = some x := by
                rw [List.getElem?_eq_getElem c2, ← hx, rd_T78, List.getD_eq_getElem?_getD, Int.toNat_natCast, List.getElem?_eq_getElem c2]
                rfl
              have HX := Aside0.mk hx
              have HY := Aside0.mk hget
              have hmem : x ∈ l := List.mem_of_getElem? hget
              have hio := (HOK.out x hmem).1
              have hop := hio.op
              have hw1 : IntKind.i64.wrap ((i : Int) + 1) = ((i + 1 : Nat) : Int) := by rw [IntWalk.i64_in _ (by omega)]; omega
              have hN : operN i x S T ≤ 131072 := by
                rcases kind4 x.f0 with k | k | k | k
                · rw [operN, if_neg (by omega), if_neg (by omega), if_neg (by omega)]; omega
                · have := (hio.k1 k).2
                  rw [operN, if_pos k]; unfold farN; split <;> omega
                · have := place_lt (HHC.out x hmem k)
                  have := HCl.out
                  rw [operN, if_neg (by omega), if_pos k]; omega
                · have := place_lt (HHN.out x hmem k)
                  have := HNl.out
                  rw [operN, if_neg (by omega), if_neg (by omega), if_pos k]; omega
              have hst := Aside0.mk (e3_step (S := S) (T := T) hget)
              have HB8 := Aside0.mk HB.out
              obtain ⟨ad', he, x0, x1, x2, x3, x4, x5, x6⟩ := at_T78 (Kd.C_below HR.out (below_step HB8.out HE.out.bel)) (i : Int) (by omega) (by have := HIL.out; omega); rw [HX.out] at x0 x1 x2 x3 x4 x5 x6; simp only [Int.toNat_natCast] at x0 x1 x2 x3 x4 x5 x6; cases he
              rcases kind4 x.f0 with k | k | k | k
              · have HK := Aside0.mk k
                have hn : operN i x S T = 0 := by rw [operN, if_neg (by omega), if_neg (by omega), if_neg (by omega)]
                rw [hn] at hst
                have HST := Aside0.mk (show e3 S T l i ++ [x.f0 + 16 * min 0 15] = e3 S T l (i + 1) by have h := hst.out; rw [ins_split, if_pos (by decide), List.append_nil] at h; simpa using h)
                clear hx hget hmem hio c2 hn k hst hN
                go_wp2_with (first
                  | (go_at_call 80; refine (kindR_lit _ 0 HK.out _).mono ?_; rintro rr wk ⟨rfl, hb⟩; have n1_ := Aside0.mk (HE.out.below hb); clear HE hb r0 r1 r2 x0 x1 x2 x3 x4 x5 x6 ; have HE := n1_; clear n1_; (try clear r0 r1 r2); obtain ⟨r0, r1, r2⟩ := cells3 (H5.out.below HE.out.bel); obtain ⟨ad', he, x0, x1, x2, x3, x4, x5, x6⟩ := at_T78 (Kd.C_below HR.out (below_step HB8.out HE.out.bel)) (i : Int) (by omega) (by have := HIL.out; omega); rw [HX.out] at x0 x1 x2 x3 x4 x5 x6; simp only [Int.toNat_natCast] at x0 x1 x2 x3 x4 x5 x6; cases he; skip)
                  | ((with_reducible refine gate_builtin (b := .append) (xs := #[.tmp 120, .tmp 131]) rfl ?_); at_builtin; refine print_append_cells w8.heap.size rfl (.tmp 120) (.tmp 131) 37 5 (.int .u8 0) 1 1 rfl Try.underlying37 (by kernel_rfl) rfl (by decide) (by decide) u6 (e3 S T l i).length (nums .u8 (e3 S T l i)) [.int .u8 (x.f0 + 16 * min 0 15)] rfl rfl rfl (by simp [Value.oneCell']) HE.out.own (Below.refl _ _) HE.out.bel.size (by have := HNB.out i; omega) ?_; intro v1 w11 hown hbel hgr _; have n1_ := Aside0.mk (HE.out.push hown hgr); clear HE hown hbel hgr r0 r1 r2 x0 x1 x2 x3 x4 x5 x6 ; have HE := n1_; clear n1_; (try clear r0 r1 r2); obtain ⟨r0, r1, r2⟩ := cells3 (H5.out.below HE.out.bel)))
                go_roundw
                (case measure => (have := HIL.out; simp [intOf]; omega))
                (case rel => exact ⟨i + 1, by go_num, ⟨HIL.out⟩, ⟨by have h := HE.out; rw [HST.out] at h; exact h⟩⟩)
              · have HK := Aside0.mk k
                have hr1 := (hio.k1 k).2
                obtain ⟨n, hn⟩ : ∃ n, operN i x S T = n := ⟨_, rfl⟩
                rw [hn] at hN hst
                rw [operN, if_pos k, farN] at hn
                have hd : IntKind.i64.wrap (x.f1 - (i : Int)) = x.f1 - (i : Int) := IntWalk.i64_in _ (by omega)
                by_cases c4 : x.f1 - (i : Int) < 0
                · rw [if_pos c4] at hn
                  have hd2 : IntKind.i64.wrap (2 * (x.f1 - (i : Int))) = 2 * (x.f1 - (i : Int)) := IntWalk.i64_in _ (by omega)
                  have hd3 : IntKind.i64.wrap (-(2 * (x.f1 - (i : Int)))) = -(2 * (x.f1 - (i : Int))) := IntWalk.i64_in _ (by omega)
                  have hval : IntKind.i64.wrap (-(2 * (x.f1 - (i : Int))) - 1) = (n : Int) := by rw [IntWalk.i64_in _ (by omega)]; omega
                  have k4 : decide (2 * (x.f1 - (i : Int)) < 0) = true := decide_eq_true (by omega)
                  clear hx hget hmem hio c2 hn k c4 hr1
                  by_cases c3 : n < 15
                  · have k15 : decide ((n : Int) ≥ 15) = false := decide_eq_false (by omega)
                    have k15n : decide (15 ≤ n) = false := decide_eq_false (by omega)
                    have HST := Aside0.mk (show e3 S T l i ++ [x.f0 + 16 * min (n : Int) 15] = e3 S T l (i + 1) by have h := hst.out; rw [ins_split, if_pos c3, List.append_nil] at h; exact h)
                    clear c3 hst
                    go_wp2_with (first | (go_at_call 80; refine (kindR_lit _ 1 HK.out _).mono ?_; rintro rr wk ⟨rfl, hb⟩; have n1_ := Aside0.mk (HE.out.below hb); clear HE hb r0 r1 r2 x0 x1 x2 x3 x4 x5 x6 ; have HE := n1_; clear n1_; (try clear r0 r1 r2); obtain ⟨r0, r1, r2⟩ := cells3 (H5.out.below HE.out.bel); obtain ⟨ad', he, x0, x1, x2, x3, x4, x5, x6⟩ := at_T78 (Kd.C_below HR.out (below_step HB8.out HE.out.bel)) (i : Int) (by omega) (by have := HIL.out; omega); rw [HX.out] at x0 x1 x2 x3 x4 x5 x6; simp only [Int.toNat_natCast] at x0 x1 x2 x3 x4 x5 x6; cases he; skip) | ((with_reducible refine gate_builtin (b := .append) (xs := #[.tmp 120, .tmp 131]) rfl ?_); at_builtin; refine print_append_cells w8.heap.size rfl (.tmp 120) (.tmp 131) 37 5 (.int .u8 0) 1 1 rfl Try.underlying37 (by kernel_rfl) rfl (by decide) (by decide) u6 (e3 S T l i).length (nums .u8 (e3 S T l i)) [.int .u8 (x.f0 + 16 * min (n : Int) 15)] rfl rfl rfl (by simp [Value.oneCell']) HE.out.own (Below.refl _ _) HE.out.bel.size (by have := HNB.out i; omega) ?_; intro v1 w11 hown hbel hgr _; have n1_ := Aside0.mk (HE.out.push hown hgr); clear HE hown hbel hgr r0 r1 r2 x0 x1 x2 x3 x4 x5 x6 ; have HE := n1_; clear n1_; (try clear r0 r1 r2); obtain ⟨r0, r1, r2⟩ := cells3 (H5.out.below HE.out.bel))); go_roundw; (case measure => (have := HIL.out; simp [intOf]; omega)); (case rel => exact ⟨i + 1, by go_num, ⟨HIL.out⟩, ⟨by have h := HE.out; rw [HST.out] at h; exact h⟩⟩)
                  · have k15 : decide ((n : Int) ≥ 15) = true := decide_eq_true (by omega)
                    have k15n : decide (15 ≤ n) = true := decide_eq_true (by omega)
                    have hsub : IntKind.i64.wrap ((n : Int) - 15) = ((n - 15 : Nat) : Int) := by rw [IntWalk.i64_in _ (by omega)]; omega
                    have HST := Aside0.mk (show (e3 S T l i ++ [x.f0 + 16 * min (n : Int) 15]) ++ cntE (n - 15) = e3 S T l (i + 1) by have h := hst.out; rw [ins_split, if_neg c3] at h; rw [List.append_assoc]; exact h)
                    clear c3 hst
                    go_wp2_with (first | (go_at_call 80; refine (kindR_lit _ 1 HK.out _).mono ?_; rintro rr wk ⟨rfl, hb⟩; have n1_ := Aside0.mk (HE.out.below hb); clear HE hb r0 r1 r2 x0 x1 x2 x3 x4 x5 x6 ; have HE := n1_; clear n1_; (try clear r0 r1 r2); obtain ⟨r0, r1, r2⟩ := cells3 (H5.out.below HE.out.bel); obtain ⟨ad', he, x0, x1, x2, x3, x4, x5, x6⟩ := at_T78 (Kd.C_below HR.out (below_step HB8.out HE.out.bel)) (i : Int) (by omega) (by have := HIL.out; omega); rw [HX.out] at x0 x1 x2 x3 x4 x5 x6; simp only [Int.toNat_natCast] at x0 x1 x2 x3 x4 x5 x6; cases he; skip) | ((with_reducible refine gate_builtin (b := .append) (xs := #[.tmp 120, .tmp 131]) rfl ?_); at_builtin; refine print_append_cells w8.heap.size rfl (.tmp 120) (.tmp 131) 37 5 (.int .u8 0) 1 1 rfl Try.underlying37 (by kernel_rfl) rfl (by decide) (by decide) u6 (e3 S T l i).length (nums .u8 (e3 S T l i)) [.int .u8 (x.f0 + 16 * min (n : Int) 15)] rfl rfl rfl (by simp [Value.oneCell']) HE.out.own (Below.refl _ _) HE.out.bel.size (by have := HNB.out i; omega) ?_; intro v1 w11 hown hbel hgr _; have n1_ := Aside0.mk (HE.out.push hown hgr); clear HE hown hbel hgr r0 r1 r2 x0 x1 x2 x3 x4 x5 x6 ; have HE := n1_; clear n1_; (try clear r0 r1 r2); obtain ⟨r0, r1, r2⟩ := cells3 (H5.out.below HE.out.bel)) | (go_at_call 79; have hcall := countR_lit HE.out (n - 15) (by rw [List.length_append]; have := HNB.out i; simp; omega); (with_reducible refine hcall.mono ?_); clear hcall; rintro xx wc ⟨vc, rfl, he⟩; clear HE; have HE := Aside0.mk he; clear he; (try clear r0 r1 r2); obtain ⟨r0, r1, r2⟩ := cells3 (H5.out.below HE.out.bel))); go_roundw; (case measure => (have := HIL.out; simp [intOf]; omega)); (case rel => exact ⟨i + 1, by go_num, ⟨HIL.out⟩, ⟨by have h := HE.out; rw [HST.out] at h; exact h⟩⟩)
                · rw [if_neg c4] at hn
                  have hd2 : IntKind.i64.wrap (2 * (x.f1 - (i : Int))) = (n : Int) := by rw [IntWalk.i64_in _ (by omega)]; omega
                  clear hx hget hmem hio c2 hn k c4 hr1
                  by_cases c3 : n < 15
                  · have k15 : decide ((n : Int) ≥ 15) = false := decide_eq_false (by omega)
                    have k15n : decide (15 ≤ n) = false := decide_eq_false (by omega)
                    have HST := Aside0.mk (show e3 S T l i ++ [x.f0 + 16 * min (n : Int) 15] = e3 S T l (i + 1) by have h := hst.out; rw [ins_split, if_pos c3, List.append_nil] at h; exact h)
                    clear c3 hst
                    go_wp2_with (first | (go_at_call 80; refine (kindR_lit _ 1 HK.out _).mono ?_; rintro rr wk ⟨rfl, hb⟩; have n1_ := Aside0.mk (HE.out.below hb); clear HE hb r0 r1 r2 x0 x1 x2 x3 x4 x5 x6 ; have HE := n1_; clear n1_; (try clear r0 r1 r2); obtain ⟨r0, r1, r2⟩ := cells3 (H5.out.below HE.out.bel); obtain ⟨ad', he, x0, x1, x2, x3, x4, x5, x6⟩ := at_T78 (Kd.C_below HR.out (below_step HB8.out HE.out.bel)) (i : Int) (by omega) (by have := HIL.out; omega); rw [HX.out] at x0 x1 x2 x3 x4 x5 x6; simp only [Int.toNat_natCast] at x0 x1 x2 x3 x4 x5 x6; cases he; skip) | ((with_reducible refine gate_builtin (b := .append) (xs := #[.tmp 120, .tmp 131]) rfl ?_); at_builtin; refine print_append_cells w8.heap.size rfl (.tmp 120) (.tmp 131) 37 5 (.int .u8 0) 1 1 rfl Try.underlying37 (by kernel_rfl) rfl (by decide) (by decide) u6 (e3 S T l i).length (nums .u8 (e3 S T l i)) [.int .u8 (x.f0 + 16 * min (n : Int) 15)] rfl rfl rfl (by simp [Value.oneCell']) HE.out.own (Below.refl _ _) HE.out.bel.size (by have := HNB.out i; omega) ?_; intro v1 w11 hown hbel hgr _; have n1_ := Aside0.mk (HE.out.push hown hgr); clear HE hown hbel hgr r0 r1 r2 x0 x1 x2 x3 x4 x5 x6 ; have HE := n1_; clear n1_; (try clear r0 r1 r2); obtain ⟨r0, r1, r2⟩ := cells3 (H5.out.below HE.out.bel))); go_roundw; (case measure => (have := HIL.out; simp [intOf]; omega)); (case rel => exact ⟨i + 1, by go_num, ⟨HIL.out⟩, ⟨by have h := HE.out; rw [HST.out] at h; exact h⟩⟩)
                  · have k15 : decide ((n : Int) ≥ 15) = true := decide_eq_true (by omega)
                    have k15n : decide (15 ≤ n) = true := decide_eq_true (by omega)
                    have hsub : IntKind.i64.wrap ((n : Int) - 15) = ((n - 15 : Nat) : Int) := by rw [IntWalk.i64_in _ (by omega)]; omega
                    have HST := Aside0.mk (show (e3 S T l i ++ [x.f0 + 16 * min (n : Int) 15]) ++ cntE (n - 15) = e3 S T l (i + 1) by have h := hst.out; rw [ins_split, if_neg c3] at h; rw [List.append_assoc]; exact h)
                    clear c3 hst
                    go_wp2_with (first | (go_at_call 80; refine (kindR_lit _ 1 HK.out _).mono ?_; rintro rr wk ⟨rfl, hb⟩; have n1_ := Aside0.mk (HE.out.below hb); clear HE hb r0 r1 r2 x0 x1 x2 x3 x4 x5 x6 ; have HE := n1_; clear n1_; (try clear r0 r1 r2); obtain ⟨r0, r1, r2⟩ := cells3 (H5.out.below HE.out.bel); obtain ⟨ad', he, x0, x1, x2, x3, x4, x5, x6⟩ := at_T78 (Kd.C_below HR.out (below_step HB8.out HE.out.bel)) (i : Int) (by omega) (by have := HIL.out; omega); rw [HX.out] at x0 x1 x2 x3 x4 x5 x6; simp only [Int.toNat_natCast] at x0 x1 x2 x3 x4 x5 x6; cases he; skip) | ((with_reducible refine gate_builtin (b := .append) (xs := #[.tmp 120, .tmp 131]) rfl ?_); at_builtin; refine print_append_cells w8.heap.size rfl (.tmp 120) (.tmp 131) 37 5 (.int .u8 0) 1 1 rfl Try.underlying37 (by kernel_rfl) rfl (by decide) (by decide) u6 (e3 S T l i).length (nums .u8 (e3 S T l i)) [.int .u8 (x.f0 + 16 * min (n : Int) 15)] rfl rfl rfl (by simp [Value.oneCell']) HE.out.own (Below.refl _ _) HE.out.bel.size (by have := HNB.out i; omega) ?_; intro v1 w11 hown hbel hgr _; have n1_ := Aside0.mk (HE.out.push hown hgr); clear HE hown hbel hgr r0 r1 r2 x0 x1 x2 x3 x4 x5 x6 ; have HE := n1_; clear n1_; (try clear r0 r1 r2); obtain ⟨r0, r1, r2⟩ := cells3 (H5.out.below HE.out.bel)) | (go_at_call 79; have hcall := countR_lit HE.out (n - 15) (by rw [List.length_append]; have := HNB.out i; simp; omega); (with_reducible refine hcall.mono ?_); clear hcall; rintro xx wc ⟨vc, rfl, he⟩; clear HE; have HE := Aside0.mk he; clear he; (try clear r0 r1 r2); obtain ⟨r0, r1, r2⟩ := cells3 (H5.out.below HE.out.bel))); go_roundw; (case measure => (have := HIL.out; simp [intOf]; omega)); (case rel => exact ⟨i + 1, by go_num, ⟨HIL.out⟩, ⟨by have h := HE.out; rw [HST.out] at h; exact h⟩⟩)
              · have HK := Aside0.mk k
                have htab : (l.map (tabN S T))[i]? = some ((operN i x S T : Nat) : Int) := by rw [List.getElem?_map, hget, operN, if_neg (by omega), if_pos k]; show some (tabN S T x) = _; rw [tabN, if_pos k]
                obtain ⟨n, hn⟩ : ∃ n, operN i x S T = n := ⟨_, rfl⟩
                rw [hn] at htab hN hst
                obtain ⟨g, cp, he, y0⟩ := int_at HTN.out htab c2
                cases he
                have HY0 := Aside0.mk y0
                have HBLK := Aside0.mk (own_lt HTN.out g rfl)
                have hixN : ∀ W : World, (Instr.indexAt 101 (.slice (some ⟨g, 0, none⟩) l.length cn) (.int .i64 (i : Int))).run Try.prog W = .ok (.pointer (some ⟨g, i, none⟩)) W := fun W => by
                  have := run_indexAt_own (P := Try.prog) (t := 101) (size := 1) Try.underlying101 (fun W => by kernel_rfl) g l.length cn i c2 W
                  rwa [Nat.mul_one] at this
                have y1 := cell_below HY0.out HBLK.out HE.out.bel
                clear hx hget hmem hio c2 htab hn k y0
                by_cases c3 : n < 15
                · have k15 : decide ((n : Int) ≥ 15) = false := decide_eq_false (by omega)
                  have k15n : decide (15 ≤ n) = false := decide_eq_false (by omega)
                  have HST := Aside0.mk (show e3 S T l i ++ [x.f0 + 16 * min (n : Int) 15] = e3 S T l (i + 1) by have h := hst.out; rw [ins_split, if_pos c3, List.append_nil] at h; exact h)
                  clear c3 hst
                  go_wp2_with (first | (go_at_call 80; refine (kindR_lit _ 2 HK.out _).mono ?_; rintro rr wk ⟨rfl, hb⟩; have n1_ := Aside0.mk (HE.out.below hb); clear HE hb r0 r1 r2 x0 x1 x2 x3 x4 x5 x6 y1; have HE := n1_; clear n1_; (try clear r0 r1 r2); obtain ⟨r0, r1, r2⟩ := cells3 (H5.out.below HE.out.bel); obtain ⟨ad', he, x0, x1, x2, x3, x4, x5, x6⟩ := at_T78 (Kd.C_below HR.out (below_step HB8.out HE.out.bel)) (i : Int) (by omega) (by have := HIL.out; omega); rw [HX.out] at x0 x1 x2 x3 x4 x5 x6; simp only [Int.toNat_natCast] at x0 x1 x2 x3 x4 x5 x6; cases he; have y1 := cell_below HY0.out HBLK.out HE.out.bel) | ((with_reducible refine gate_builtin (b := .append) (xs := #[.tmp 120, .tmp 131]) rfl ?_); at_builtin; refine print_append_cells w8.heap.size rfl (.tmp 120) (.tmp 131) 37 5 (.int .u8 0) 1 1 rfl Try.underlying37 (by kernel_rfl) rfl (by decide) (by decide) u6 (e3 S T l i).length (nums .u8 (e3 S T l i)) [.int .u8 (x.f0 + 16 * min (n : Int) 15)] rfl rfl rfl (by simp [Value.oneCell']) HE.out.own (Below.refl _ _) HE.out.bel.size (by have := HNB.out i; omega) ?_; intro v1 w11 hown hbel hgr _; have n1_ := Aside0.mk (HE.out.push hown hgr); clear HE hown hbel hgr r0 r1 r2 x0 x1 x2 x3 x4 x5 x6 y1; have HE := n1_; clear n1_; (try clear r0 r1 r2); obtain ⟨r0, r1, r2⟩ := cells3 (H5.out.below HE.out.bel))); go_roundw; (case measure => (have := HIL.out; simp [intOf]; omega)); (case rel => exact ⟨i + 1, by go_num, ⟨HIL.out⟩, ⟨by have h := HE.out; rw [HST.out] at h; exact h⟩⟩)
                · have k15 : decide ((n : Int) ≥ 15) = true := decide_eq_true (by omega)
                  have k15n : decide (15 ≤ n) = true := decide_eq_true (by omega)
                  have hsub : IntKind.i64.wrap ((n : Int) - 15) = ((n - 15 : Nat) : Int) := by rw [IntWalk.i64_in _ (by omega)]; omega
                  have HST := Aside0.mk (show (e3 S T l i ++ [x.f0 + 16 * min (n : Int) 15]) ++ cntE (n - 15) = e3 S T l (i + 1) by have h := hst.out; rw [ins_split, if_neg c3] at h; rw [List.append_assoc]; exact h)
                  clear c3 hst
                  go_wp2_with (first | (go_at_call 80; refine (kindR_lit _ 2 HK.out _).mono ?_; rintro rr wk ⟨rfl, hb⟩; have n1_ := Aside0.mk (HE.out.below hb); clear HE hb r0 r1 r2 x0 x1 x2 x3 x4 x5 x6 y1; have HE := n1_; clear n1_; (try clear r0 r1 r2); obtain ⟨r0, r1, r2⟩ := cells3 (H5.out.below HE.out.bel); obtain ⟨ad', he, x0, x1, x2, x3, x4, x5, x6⟩ := at_T78 (Kd.C_below HR.out (below_step HB8.out HE.out.bel)) (i : Int) (by omega) (by have := HIL.out; omega); rw [HX.out] at x0 x1 x2 x3 x4 x5 x6; simp only [Int.toNat_natCast] at x0 x1 x2 x3 x4 x5 x6; cases he; have y1 := cell_below HY0.out HBLK.out HE.out.bel) | ((with_reducible refine gate_builtin (b := .append) (xs := #[.tmp 120, .tmp 131]) rfl ?_); at_builtin; refine print_append_cells w8.heap.size rfl (.tmp 120) (.tmp 131) 37 5 (.int .u8 0) 1 1 rfl Try.underlying37 (by kernel_rfl) rfl (by decide) (by decide) u6 (e3 S T l i).length (nums .u8 (e3 S T l i)) [.int .u8 (x.f0 + 16 * min (n : Int) 15)] rfl rfl rfl (by simp [Value.oneCell']) HE.out.own (Below.refl _ _) HE.out.bel.size (by have := HNB.out i; omega) ?_; intro v1 w11 hown hbel hgr _; have n1_ := Aside0.mk (HE.out.push hown hgr); clear HE hown hbel hgr r0 r1 r2 x0 x1 x2 x3 x4 x5 x6 y1; have HE := n1_; clear n1_; (try clear r0 r1 r2); obtain ⟨r0, r1, r2⟩ := cells3 (H5.out.below HE.out.bel)) | (go_at_call 79; have hcall := countR_lit HE.out (n - 15) (by rw [List.length_append]; have := HNB.out i; simp; omega); (with_reducible refine hcall.mono ?_); clear hcall; rintro xx wc ⟨vc, rfl, he⟩; clear HE; have HE := Aside0.mk he; clear he; (try clear r0 r1 r2); obtain ⟨r0, r1, r2⟩ := cells3 (H5.out.below HE.out.bel))); go_roundw; (case measure => (have := HIL.out; simp [intOf]; omega)); (case rel => exact ⟨i + 1, by go_num, ⟨HIL.out⟩, ⟨by have h := HE.out; rw [HST.out] at h; exact h⟩⟩)
              · have HK := Aside0.mk k
                have htab : (l.map (tabN S T))[i]? = some ((operN i x S T : Nat) : Int) := by rw [List.getElem?_map, hget, operN, if_neg (by omega), if_neg (by omega), if_pos k]; show some (tabN S T x) = _; rw [tabN, if_neg (by omega), if_pos k]
                obtain ⟨n, hn⟩ : ∃ n, operN i x S T = n := ⟨_, rfl⟩
                rw [hn] at htab hN hst
                obtain ⟨g, cp, he, y0⟩ := int_at HTN.out htab c2
                cases he
                have HY0 := Aside0.mk y0
                have HBLK := Aside0.mk (own_lt HTN.out g rfl)
                have hixN : ∀ W : World, (Instr.indexAt 101 (.slice (some ⟨g, 0, none⟩) l.length cn) (.int .i64 (i : Int))).run Try.prog W = .ok (.pointer (some ⟨g, i, none⟩)) W := fun W => by
                  have := run_indexAt_own (P := Try.prog) (t := 101) (size := 1) Try.underlying101 (fun W => by kernel_rfl) g l.length cn i c2 W
                  rwa [Nat.mul_one] at this
                have y1 := cell_below HY0.out HBLK.out HE.out.bel
                clear hx hget hmem hio c2 htab hn k y0
                by_cases c3 : n < 15
                · have k15 : decide ((n : Int) ≥ 15) = false := decide_eq_false (by omega)
                  have k15n : decide (15 ≤ n) = false := decide_eq_false (by omega)
                  have HST := Aside0.mk (show e3 S T l i ++ [x.f0 + 16 * min (n : Int) 15] = e3 S T l (i + 1) by have h := hst.out; rw [ins_split, if_pos c3, List.append_nil] at h; exact h)
                  clear c3 hst
                  go_wp2_with (first | (go_at_call 80; refine (kindR_lit _ 3 HK.out _).mono ?_; rintro rr wk ⟨rfl, hb⟩; have n1_ := Aside0.mk (HE.out.below hb); clear HE hb r0 r1 r2 x0 x1 x2 x3 x4 x5 x6 y1; have HE := n1_; clear n1_; (try clear r0 r1 r2); obtain ⟨r0, r1, r2⟩ := cells3 (H5.out.below HE.out.bel); obtain ⟨ad', he, x0, x1, x2, x3, x4, x5, x6⟩ := at_T78 (Kd.C_below HR.out (below_step HB8.out HE.out.bel)) (i : Int) (by omega) (by have := HIL.out; omega); rw [HX.out] at x0 x1 x2 x3 x4 x5 x6; simp only [Int.toNat_natCast] at x0 x1 x2 x3 x4 x5 x6; cases he; have y1 := cell_below HY0.out HBLK.out HE.out.bel) | ((with_reducible refine gate_builtin (b := .append) (xs := #[.tmp 120, .tmp 131]) rfl ?_); at_builtin; refine print_append_cells w8.heap.size rfl (.tmp 120) (.tmp 131) 37 5 (.int .u8 0) 1 1 rfl Try.underlying37 (by kernel_rfl) rfl (by decide) (by decide) u6 (e3 S T l i).length (nums .u8 (e3 S T l i)) [.int .u8 (x.f0 + 16 * min (n : Int) 15)] rfl rfl rfl (by simp [Value.oneCell']) HE.out.own (Below.refl _ _) HE.out.bel.size (by have := HNB.out i; omega) ?_; intro v1 w11 hown hbel hgr _; have n1_ := Aside0.mk (HE.out.push hown hgr); clear HE hown hbel hgr r0 r1 r2 x0 x1 x2 x3 x4 x5 x6 y1; have HE := n1_; clear n1_; (try clear r0 r1 r2); obtain ⟨r0, r1, r2⟩ := cells3 (H5.out.below HE.out.bel))); go_roundw; (case measure => (have := HIL.out; simp [intOf]; omega)); (case rel => exact ⟨i + 1, by go_num, ⟨HIL.out⟩, ⟨by have h := HE.out; rw [HST.out] at h; exact h⟩⟩)
                · have k15 : decide ((n : Int) ≥ 15) = true := decide_eq_true (by omega)
                  have k15n : decide (15 ≤ n) = true := decide_eq_true (by omega)
                  have hsub : IntKind.i64.wrap ((n : Int) - 15) = ((n - 15 : Nat) : Int) := by rw [IntWalk.i64_in _ (by omega)]; omega
                  have HST := Aside0.mk (show (e3 S T l i ++ [x.f0 + 16 * min (n : Int) 15]) ++ cntE (n - 15) = e3 S T l (i + 1) by have h := hst.out; rw [ins_split, if_neg c3] at h; rw [List.append_assoc]; exact h)
                  clear c3 hst
                  go_wp2_with (first | (go_at_call 80; refine (kindR_lit _ 3 HK.out _).mono ?_; rintro rr wk ⟨rfl, hb⟩; have n1_ := Aside0.mk (HE.out.below hb); clear HE hb r0 r1 r2 x0 x1 x2 x3 x4 x5 x6 y1; have HE := n1_; clear n1_; (try clear r0 r1 r2); obtain ⟨r0, r1, r2⟩ := cells3 (H5.out.below HE.out.bel); obtain ⟨ad', he, x0, x1, x2, x3, x4, x5, x6⟩ := at_T78 (Kd.C_below HR.out (below_step HB8.out HE.out.bel)) (i : Int) (by omega) (by have := HIL.out; omega); rw [HX.out] at x0 x1 x2 x3 x4 x5 x6; simp only [Int.toNat_natCast] at x0 x1 x2 x3 x4 x5 x6; cases he; have y1 := cell_below HY0.out HBLK.out HE.out.bel) | ((with_reducible refine gate_builtin (b := .append) (xs := #[.tmp 120, .tmp 131]) rfl ?_); at_builtin; refine print_append_cells w8.heap.size rfl (.tmp 120) (.tmp 131) 37 5 (.int .u8 0) 1 1 rfl Try.underlying37 (by kernel_rfl) rfl (by decide) (by decide) u6 (e3 S T l i).length (nums .u8 (e3 S T l i)) [.int .u8 (x.f0 + 16 * min (n : Int) 15)] rfl rfl rfl (by simp [Value.oneCell']) HE.out.own (Below.refl _ _) HE.out.bel.size (by have := HNB.out i; omega) ?_; intro v1 w11 hown hbel hgr _; have n1_ := Aside0.mk (HE.out.push hown hgr); clear HE hown hbel hgr r0 r1 r2 x0 x1 x2 x3 x4 x5 x6 y1; have HE := n1_; clear n1_; (try clear r0 r1 r2); obtain ⟨r0, r1, r2⟩ := cells3 (H5.out.below HE.out.bel)) | (go_at_call 79; have hcall := countR_lit HE.out (n - 15) (by rw [List.length_append]; have := HNB.out i; simp; omega); (with_reducible refine hcall.mono ?_); clear hcall; rintro xx wc ⟨vc, rfl, he⟩; clear HE; have HE := Aside0.mk he; clear he; (try clear r0 r1 r2); obtain ⟨r0, r1, r2⟩ := cells3 (H5.out.below HE.out.bel))); go_roundw; (case measure => (have := HIL.out; simp [intOf]; omega)); (case rel => exact ⟨i + 1, by go_num, ⟨HIL.out⟩, ⟨by have h := HE.out; rw [HST.out] at h; exact h⟩⟩)
            · have k2 : decide ((i : Int) < (l.length : Int)) = false := decide_eq_false (by omega)
              obtain rfl : i = l.length := by have := HI.out; omega
              obtain ⟨sm, hsm⟩ : ∃ sm, crcL (e3 S T l l.length) = sm := ⟨_, rfl⟩
              have HSM := Aside0.mk hsm
              have hsr : 0 ≤ sm ∧ sm < 4294967296 := by rw [← hsm]; exact crc_range _
              have HFIN : Aside0 (e3 S T l l.length ++ [sm % 256, sm / 256 % 256, sm / 65536 % 256, sm / 16777216 % 256] = encodeE l) := ⟨by rw [nums_leN sm hsr, ← hsm, HEND.out, encodeE]⟩
              clear HI c2 hsm hsr
              by_cases c5 : 4194304 < (encodeE l).length
              · have k5 : decide (((encodeE l).length : Int) > 4194304) = true := decide_eq_true (by omega)
                have HC5 := Aside0.mk c5
                clear c5
                go_wp2_with (first
                  | (go_at_call 29; have hcall := sumR_lit HE.out (by have := HNB.out l.length; omega); rw [HSM.out] at hcall; (with_reducible refine hcall.mono ?_); clear hcall; rintro xx ws ⟨rfl, he⟩; clear HE; have HE := Aside0.mk he; clear he)
                  | ((with_reducible refine gate_builtin (b := .append) (xs := #[.tmp 141, .tmp 153]) rfl ?_); at_builtin; refine print_append_row w8.heap.size rfl (.tmp 141) (.tmp 153) 37 5 .u8 1 rfl Try.underlying37 (by kernel_rfl) (by decide) _ (e3 S T l l.length) [sm % 256, sm / 256 % 256, sm / 65536 % 256, sm / 16777216 % 256] (some ⟨ws.heap.size, 0, none⟩) 4 4 rfl rfl (HE.out.own.alloc _) (lit4_reads ws _ _ _ _) (below_alloc HE.out.bel _) (by have := HE.out.bel.size; simp; omega) (by have := HNB.out l.length; omega) ?_; intro vd wd hown hbel hgr _; rw [HFIN.out] at hown; have he : BI w8 wd vd (encodeE l) := ⟨hbel, hown⟩; obtain ⟨A5, c5, rfl⟩ := own_len he.own; clear HE hown hbel hgr; have HE := Aside0.mk he; clear he))
                go_ret2
                exact ⟨.inr (.inl ⟨HF.out, HC5.out, rfl⟩), below_step HB.out HE.out.bel⟩
              · have k5 : decide (((encodeE l).length : Int) > 4194304) = false := decide_eq_false (by omega)
                have HC5 := Aside0.mk (show (encodeE l).length ≤ 4194304 by omega)
                clear c5
                go_wp2_with (first
                  | (go_at_call 29; have hcall := sumR_lit HE.out (by have := HNB.out l.length; omega); rw [HSM.out] at hcall; (with_reducible refine hcall.mono ?_); clear hcall; rintro xx ws ⟨rfl, he⟩; clear HE; have HE := Aside0.mk he; clear he)
                  | ((with_reducible refine gate_builtin (b := .append) (xs := #[.tmp 141, .tmp 153]) rfl ?_); at_builtin; refine print_append_row w8.heap.size rfl (.tmp 141) (.tmp 153) 37 5 .u8 1 rfl Try.underlying37 (by kernel_rfl) (by decide) _ (e3 S T l l.length) [sm % 256, sm / 256 % 256, sm / 65536 % 256, sm / 16777216 % 256] (some ⟨ws.heap.size, 0, none⟩) 4 4 rfl rfl (HE.out.own.alloc _) (lit4_reads ws _ _ _ _) (below_alloc HE.out.bel _) (by have := HE.out.bel.size; simp; omega) (by have := HNB.out l.length; omega) ?_; intro vd wd hown hbel hgr _; rw [HFIN.out] at hown; have he : BI w8 wd vd (encodeE l) := ⟨hbel, hown⟩; obtain ⟨A5, c5, rfl⟩ := own_len he.own; clear HE hown hbel hgr; have HE := Aside0.mk he; clear he))
                go_ret2
                exact ⟨.inr (.inr ⟨HF.out, HC5.out, _, rfl, own_less HE.out.own HB.out.size⟩), below_step HB.out HE.out.bel⟩
theorem refenc_calls (hr : Kd.C k78 w A l.length l) (hc : l.length ≤ c) (hs : ∀ x ∈ l, x.f3.size ≤ 140737488351232) :
    Calls Try.prog 36 #[.slice A l.length c] w fun e w' => EncOut w w' l e ∧ Below w.heap.size w w' := by
  by_cases h : (checkL l).2 = 0
  · exact refenc_good A c l w hr hc hs (check_zero h)
  · exact refenc_bad A c l w hr hc hs h
end
end Go.Proofs.Ytebiogaacikphaa.Pack
end
