/- Parts of the proof of coreGrammars: GrammarsWalk, Open, CoreOpen. No condition beyond each lemma's own. -/
import Derived.ChangeSlices
import Derived.KernelRfl
import Derived.SizedLaws
import Derived.Test.YtebiogaacikphaaTG0
import Derived.Test.YtebiogaacikphaaTG5
import Derived.Test.YtebiogaacikphaaTG6
import Derived.Test.YtebiogaacikphaaTG8
import Derived.Test.YtebiogaacikphaaTG9
import Derived.Test.YtebiogaacikphaaTG12
import Derived.Test.YtebiogaacikphaaTG13
import Derived.Test.YtebiogaacikphaaTG21
import Derived.Test.YtebiogaacikphaaTG23
import Derived.Test.YtebiogaacikphaaTG35
section
namespace Go.Proofs.Ytebiogaacikphaa.Core
open Go.RowKit Go.Proofs.YtebiogaacikphaaW.PrintWords Go.Proofs.Ytebiogaacikphaa.PAll Go.Proofs.Ytebiogaacikphaa.Pack
set_option linter.unusedVariables false
set_option linter.unusedSimpArgs false
theorem box2_0 {W : World} {g t : Nat} {a b : Value} (h : W.heap[g]? = some (.cells #[a, b] t (0, 0))) : W.cell? ⟨g, 0, none⟩ = some a := (blk_cell h 0).trans rfl
theorem box2_1 {W : World} {g t : Nat} {a b : Value} (h : W.heap[g]? = some (.cells #[a, b] t (0, 0))) : W.cell? ⟨g, 1, none⟩ = some b := (blk_cell h 1).trans rfl
theorem GAt.lt {base : Nat} {W : World} {vr : Value} {bv : Nat → Value} {s : Nat → Nat} {l : List Rule} {n : Nat} (h : GAt base W vr bv s l n) : ∀ b, (vr.ownBlock = some b ∨ ∃ k, k < n ∧ (bv k).ownBlock = some b) → b < W.heap.size := fun b hb => by
  rcases hb with hb | ⟨k, hk, hb⟩
  · exact own_lt h.row b hb
  · exact own_lt (h.bod k hk) b hb
theorem GAt.size {base : Nat} {W : World} {vr : Value} {bv : Nat → Value} {s : Nat → Nat} {l : List Rule} {n : Nat} (h : GAt base W vr bv s l n) : base ≤ W.heap.size :=
  Nat.le_trans h.lo (Nat.le_trans (h.mono_le 0 n (Nat.zero_le _) (Nat.le_refl _)) h.top)
theorem want_form {w' : World} {b n : Nat} {v0 v1 : Value} {l : List Rule} (h0 : Kd.R k129 129 w' b (fun _ => True) v0 []) (h1 : Kd.S k125 125 w' b (fun _ => True) v1 (rulesOut l n)) :
    ∃ A0 c0 A1 c1, v0 = .slice A0 0 c0 ∧ v1 = .slice A1 n c1 ∧ Kd.C k129 w' A0 0 [] ∧ n ≤ c1 ∧ Kd.C k125 w' A1 n (rulesOut l n) := by
  obtain ⟨A0, c0, e0, _, r0⟩ := Kd.R_reads h0
  obtain ⟨A1, c1, e1, l1, r1⟩ := Kd.R_reads (Kd.S_R h1)
  rw [rulesOut_len] at e1 l1 r1
  exact ⟨A0, c0, A1, c1, e0, e1, r0, l1, r1⟩
theorem CoreGrammars_big (A : Option Addr) (c : Nat) (l : List (S30)) (st : Int) (w : World) (c1 : (l.length : Int) > 65536) :
    Calls Try.prog 7 #[.agg #[.slice A l.length c, .int .i64 st]] w fun e w' => e = .returned (.bool true) ∧ Below w.heap.size w w' := by
  have b1 : decide ((l.length : Int) > 65536) = true := decide_eq_true c1
  clear c1
  go_enter Try.func7, Try.ntmps7
  go_wp2
  go_ret
  exact ⟨rfl, (Below.refl _ _).alloc (Nat.le_refl _) _⟩
theorem CoreGrammars_wide (k : Nat) (s : Int) (A : Option Addr) (c : Nat) (l : List (S30)) (st : Int) (w : World) (hr : Kd.C k30 w A l.length l) (hc : l.length ≤ c) (c1 : (l.length : Int) ≤ 65536) (hs : dowelref09_Size.f k l st = some s) (c2 : s > 1048576) :
    Calls Try.prog 7 #[.agg #[.slice A l.length c, .int .i64 st]] w fun e w' => e = .returned (.bool true) ∧ Below w.heap.size w w' := by
  have b1 : decide ((l.length : Int) > 65536) = false := decide_eq_false (by omega)
  have b2 : decide (s > 1048576) = true := decide_eq_true c2
  have HR := Aside0.mk hr
  have HC := Aside0.mk hc
  have HS := Aside0.mk hs
  clear c1 c2 hr hc hs
  go_enter Try.func7, Try.ntmps7
  go_wp2_with (first
    | ((with_reducible refine gate_dst (N := 1) rfl ?_); refine box_event (N := 1) rfl rfl (cs := #[.slice A l.length c, .int .i64 st]) (t := 24) ?hr1 ?_; (case hr1 => first | (go_simp; done) | (go_simp; rfl)); intro gc hgc w1 hbox hb1; have HX := Aside0.mk hbox; have HB := Aside0.mk hb1; have h0 := blk_cell hbox 0; have h1 := blk_cell hbox 1; simp only [List.getElem?_toArray, List.getElem?_cons_zero, List.getElem?_cons_succ] at h0 h1; clear hbox hb1 hgc)
    | (go_at_call 17; refine (dowelref09_Size.calls k A c l st s _ (Kd.C_below HR.out HB.out) HC.out HS.out).mono ?_; rintro e w2 ⟨rfl, hb2⟩; have n1_ := Aside0.mk (below_step HB.out hb2); clear HB HX h0 h1 hb2; have HB := n1_; clear n1_))
  go_ret
  exact ⟨rfl, HB.out⟩
theorem GAt.reads' {base : Nat} {W : World} {A : Option Addr} {c : Nat} {bv : Nat → Value} {s : Nat → Nat} {l : List Rule} {n : Nat} (h : GAt base W (.slice A n c) bv s l n) (hn : n ≤ 256) (hb : ∀ k, k < n → (nods l k).length ≤ 4096) : Kd.C k125 W A n (rulesOut l n) := by
  obtain ⟨A', c', e, _, r⟩ := h.reads hn hb
  cases e
  exact r
theorem grams_lit (k : Nat) (A1 : Option Addr) (c1 : Nat) (A3 : Option Addr) (c3 : Nat) (A4 : Option Addr) (c4 n : Nat) (l : List Rule) (w : World) (h1 : Kd.C k125 w A1 n (rulesOut l n)) (hc1 : n ≤ c1) (h3 : Kd.C k129 w A3 0 []) (h4 : Kd.C k125 w A4 n (rulesOut l n)) (hc4 : n ≤ c4) (h : dowelbook_Grammars.f k [] (rulesOut l n) [] (rulesOut l n) = some true) :
    Calls Try.prog 32 #[.agg #[.slice none 0 0, .slice A1 n c1], .agg #[.slice A3 0 c3, .slice A4 n c4]] w fun e w' => e = .returned (.bool true) ∧ Below w.heap.size w w' := by
  have hl := rulesOut_len l n
  have := dowelbook_Grammars.calls k none 0 [] A1 c1 (rulesOut l n) A3 c3 [] A4 c4 (rulesOut l n) true w (Kd.C_nil _ _) (Nat.le_refl 0) (by rw [hl]; exact h1) (by rw [hl]; exact hc1) h3 (Nat.zero_le _) (by rw [hl]; exact h4) (by rw [hl]; exact hc4) h
  rw [hl] at this
  exact this
set_option maxHeartbeats 4000000 in
set_option maxRecDepth 100000 in
theorem CoreGrammars_calls (k n : Nat) (s cd : Int) (A : Option Addr) (c : Nat) (l : List (S30)) (st : Int) (w : World) (hr : Kd.C k30 w A l.length l) (hc : l.length ≤ c) (c1 : (l.length : Int) ≤ 65536) (hs : dowelref09_Size.f k l st = some s) (c2 : s ≤ 1048576)
    (hm : ∀ r ∈ l, r.f1.length ≤ 1048576) (hf : Fit l) (hn : cntG l st = n) (hcd : cdG l st = cd) (hn2 : n ≤ 256) (hnb : ∀ k, k < n → (nods l k).length ≤ 4096) (href : dowelref09_Grammar.f k l st = some ([], rulesOut l n, cd)) (hgr : dowelbook_Grammars.f k [] (rulesOut l n) [] (rulesOut l n) = some true) (hsame : dowelbook_Cores.f k l st l st = some true) :
    Calls Try.prog 7 #[.agg #[.slice A l.length c, .int .i64 st]] w fun e w' => e = .returned (.bool true) ∧ Below w.heap.size w w' := by
  have b1 : decide ((l.length : Int) > 65536) = false := decide_eq_false (by omega)
  have b2 : decide (s > 1048576) = false := decide_eq_false (by omega)
  have HN := Aside0.mk (show l.length ≤ 65536 by omega)
  have HR := Aside0.mk hr
  have HC := Aside0.mk hc
  have HS := Aside0.mk hs
  have HM := Aside0.mk hm
  have HF := Aside0.mk hf
  have HCN := Aside0.mk hn
  have HCD := Aside0.mk hcd
  have HN2 := Aside0.mk hn2
  have HNB := Aside0.mk hnb
  have HREF := Aside0.mk href
  have HGR := Aside0.mk hgr
  have HSAME := Aside0.mk hsame
  clear c1 c2 hr hc hs hm hf hn hcd hn2 hnb href hgr hsame
  go_enter Try.func7, Try.ntmps7
  go_wp2_with (first
    | ((with_reducible refine gate_dst (N := 1) rfl ?_); refine box_event (N := 1) rfl rfl (cs := #[.slice A l.length c, .int .i64 st]) (t := 24) ?hr1 ?_; (case hr1 => first | (go_simp; done) | (go_simp; rfl)); intro gc hgc w1 hbox hb1; have HX := Aside0.mk hbox; have HB := Aside0.mk hb1; have h0 := blk_cell hbox 0; have h1 := blk_cell hbox 1; simp only [List.getElem?_toArray, List.getElem?_cons_zero, List.getElem?_cons_succ] at h0 h1; clear hbox hb1 hgc)
    | (go_at_call 17; refine (dowelref09_Size.calls k A c l st s _ (Kd.C_below HR.out HB.out) HC.out HS.out).mono ?_; rintro e w2 ⟨rfl, hb2⟩; have n1_ := Aside0.mk (below_step HB.out hb2); have n2_ := Aside0.mk (blk_below HX.out hb2); clear HB HX h0 h1 hb2; have HB := n1_; have HX := n2_; clear n1_ n2_; have h0 := blk_cell HX.out 0; have h1 := blk_cell HX.out 1; simp only [List.getElem?_toArray, List.getElem?_cons_zero, List.getElem?_cons_succ] at h0 h1)
    | (go_at_call 18; refine (LendCore_calls A c l st _ (Kd.C_below HR.out HB.out) HC.out HN.out HM.out).mono ?_; rintro e w3 ⟨gR, G, rfl, hlent, hb3, hgR, _⟩; have HL := Aside0.mk hlent; have n1_ := Aside0.mk (below_step HB.out hb3); have n2_ := Aside0.mk (blk_below HX.out hb3); clear HB HX h0 h1 hb3 hlent hgR; have HB := n1_; have HX := n2_; clear n1_ n2_; have h0 := blk_cell HX.out 0; have h1 := blk_cell HX.out 1; simp only [List.getElem?_toArray, List.getElem?_cons_zero, List.getElem?_cons_succ] at h0 h1)
    | ((with_reducible refine gate_dst (N := 3) rfl ?_); refine box_event (N := 3) rfl rfl (cs := #[.slice none 0 0, .int .i64 0]) (t := 24) ?hr2 ?_; (case hr2 => first | (go_simp; done) | (go_simp; rfl)); intro gb hgb w4 hbox hb4; have HO := Aside0.mk hbox; have HG := Aside0.mk (show w.heap.size ≤ gb ∧ gc < gb ∧ gR < gb ∧ ∀ g ∈ G, g < gb by rw [hgb]; exact ⟨HB.out.size, blk_lt HX.out, HL.out.rules.lt, HL.out.bodies.lt⟩); have n1_ := Aside0.mk (below_step HB.out hb4); have n2_ := Aside0.mk (blk_below HX.out hb4); have n3_ := Aside0.mk (HL.out.below hb4); clear HB HX HL h0 h1 hbox hb4 hgb; have HB := n1_; have HX := n2_; have HL := n3_; clear n1_ n2_ n3_)
    | ((with_reducible refine gate_store (t := 24) (p := 3) rfl ?_); refine store_whole rfl rfl 24 (.tmp 3) (.tmp 20) rfl (cs := #[.slice (some ⟨gR, 0, none⟩) l.length (l.length + 1), .int .i64 st]) rfl rfl HO.out rfl (by kernel_rfl) (by simp [Value.oneCell']) ?_; intro w5 hbox5 hgr _; have hk := HG.out; have hold := pw_below_grown HB.out (some gb) HB.out.size hgr (fun k hk2 => by cases hk2; omega); have HI := Aside0.mk (show KI w gb gc gR G A c st l w5 from ⟨hbox5, (hgr.block _ (blk_lt HX.out) (by simp; omega)).trans HX.out, ⟨HL.out.rules.grown hgr (by simp; omega), HL.out.bodies.grown hgr (fun hm => by have := hk.2.2.2 _ hm; omega)⟩, Kd.C_below HR.out hold, hold⟩); clear HB HX HL HO HG hk hold hgr hbox5; (try clear x10 x11 x20 x21); (try clear x40 x41); (try clear x60 x61); (try clear x80 x81); have x10 := HI.out.c10; have x11 := HI.out.c11; have x20 := HI.out.c20; have x21 := HI.out.c21; (try (have x40 := box2_0 H4.out; have x41 := box2_1 H4.out)); (try (have x60 := box2_0 H6.out; have x61 := box2_1 H6.out)); (try (have x80 := box2_0 H8.out; have x81 := box2_1 H8.out)))
    | (go_at_call 30; have HG0 := Aside0.mk HG1.out.lt; have HB12 := Aside0.mk HG1.out.size; refine (grammar_calls (some ⟨gR, 0, none⟩) (l.length + 1) l st _ (HI.out.lent.reads (by have := HN.out; omega) (fun r hr => by have := HM.out r hr; omega)) (by omega) HF.out).mono ?_; rintro e w7 ⟨hga, hb7⟩; obtain ⟨v2, bw2, s2, rfl, hg2⟩ := hga.form hb7; rw [HCN.out] at hg2; rw [HCD.out]; obtain ⟨A2, c2, rfl, hc2, _⟩ := hg2.reads HN2.out HNB.out; have HC2 := Aside0.mk hc2; have n1_ := Aside0.mk (KI.below HI.out hb7); clear HI; have HI := n1_; clear n1_; (try (have n1_ := Aside0.mk (GAt.below HG1.out hb7); clear HG1; have HG1 := n1_; clear n1_)); (try (have n1_ := Aside0.mk (GAt.below HG2.out hb7); clear HG2; have HG2 := n1_; clear n1_)); (try (have n1_ := Aside0.mk (blk_below H4.out hb7); clear H4; have H4 := n1_; clear n1_)); (try (have n1_ := Aside0.mk (blk_below H6.out hb7); clear H6; have H6 := n1_; clear n1_)); (try (have n1_ := Aside0.mk (blk_below H8.out hb7); clear H8; have H8 := n1_; clear n1_)); (try (have n1_ := Aside0.mk (Kd.C_below HU0.out hb7); clear HU0; have HU0 := n1_; clear n1_)); (try (have n1_ := Aside0.mk (Kd.C_below HU1.out hb7); clear HU1; have HU1 := n1_; clear n1_)); (try clear x10 x11 x20 x21); (try clear x40 x41); (try clear x60 x61); (try clear x80 x81); have x10 := HI.out.c10; have x11 := HI.out.c11; have x20 := HI.out.c20; have x21 := HI.out.c21; (try (have x40 := box2_0 H4.out; have x41 := box2_1 H4.out)); (try (have x60 := box2_0 H6.out; have x61 := box2_1 H6.out)); (try (have x80 := box2_0 H8.out; have x81 := box2_1 H8.out)); have HG2 := Aside0.mk hg2; clear hga hb7 hg2 hc2)
    | (go_at_call 30; have HLO := Aside0.mk HI.out.old.size; refine (grammar_calls (some ⟨gR, 0, none⟩) (l.length + 1) l st _ (HI.out.lent.reads (by have := HN.out; omega) (fun r hr => by have := HM.out r hr; omega)) (by omega) HF.out).mono ?_; rintro e w6 ⟨hga, hb6⟩; obtain ⟨v1, bw1, s1, rfl, hg1⟩ := hga.form hb6; rw [HCN.out] at hg1; rw [HCD.out]; obtain ⟨A1, c1, rfl, hc1, _⟩ := hg1.reads HN2.out HNB.out; have HC1 := Aside0.mk hc1; have n1_ := Aside0.mk (KI.below HI.out hb6); clear HI; have HI := n1_; clear n1_; (try (have n1_ := Aside0.mk (GAt.below HG1.out hb6); clear HG1; have HG1 := n1_; clear n1_)); (try (have n1_ := Aside0.mk (GAt.below HG2.out hb6); clear HG2; have HG2 := n1_; clear n1_)); (try (have n1_ := Aside0.mk (blk_below H4.out hb6); clear H4; have H4 := n1_; clear n1_)); (try (have n1_ := Aside0.mk (blk_below H6.out hb6); clear H6; have H6 := n1_; clear n1_)); (try (have n1_ := Aside0.mk (blk_below H8.out hb6); clear H8; have H8 := n1_; clear n1_)); (try (have n1_ := Aside0.mk (Kd.C_below HU0.out hb6); clear HU0; have HU0 := n1_; clear n1_)); (try (have n1_ := Aside0.mk (Kd.C_below HU1.out hb6); clear HU1; have HU1 := n1_; clear n1_)); (try clear x10 x11 x20 x21); (try clear x40 x41); (try clear x60 x61); (try clear x80 x81); have x10 := HI.out.c10; have x11 := HI.out.c11; have x20 := HI.out.c20; have x21 := HI.out.c21; (try (have x40 := box2_0 H4.out; have x41 := box2_1 H4.out)); (try (have x60 := box2_0 H6.out; have x61 := box2_1 H6.out)); (try (have x80 := box2_0 H8.out; have x81 := box2_1 H8.out)); have HG1 := Aside0.mk hg1; clear hga hb6 hg1 hc1)
    | ((with_reducible refine gate_dst (N := 4) rfl ?_); refine box_event (N := 4) rfl rfl (cs := #[.slice none 0 0, .slice none 0 0]) (t := 61) ?hr4 ?_; (case hr4 => first | (go_simp; done) | (go_simp; rfl)); intro g4 hg4 w4 hbox hb4; have HO := Aside0.mk hbox; have HBX := Aside0.mk hb4; have HGE := Aside0.mk (Nat.le_of_eq hg4.symm); clear hbox hb4 hg4)
    | ((with_reducible refine gate_dst (N := 6) rfl ?_); refine box_event (N := 6) rfl rfl (cs := #[.slice none 0 0, .slice none 0 0]) (t := 61) ?hr6 ?_; (case hr6 => first | (go_simp; done) | (go_simp; rfl)); intro g6 hg6 w6 hbox hb4; have HO := Aside0.mk hbox; have HBX := Aside0.mk hb4; have HGE := Aside0.mk (Nat.le_of_eq hg6.symm); clear hbox hb4 hg6)
    | ((with_reducible refine gate_dst (N := 8) rfl ?_); refine box_event (N := 8) rfl rfl (cs := #[.slice none 0 0, .slice none 0 0]) (t := 61) ?hr8 ?_; (case hr8 => first | (go_simp; done) | (go_simp; rfl)); intro g8 hg8 w8 hbox hb4; have HO := Aside0.mk hbox; have HBX := Aside0.mk hb4; have HGE := Aside0.mk (Nat.le_of_eq hg8.symm); clear hbox hb4 hg8)
    | ((with_reducible refine gate_store (t := 61) (p := 4) rfl ?_); refine store_whole rfl rfl 61 (.tmp 4) (.tmp 24) rfl (cs := #[.slice none 0 0, .slice A1 n c1]) rfl rfl HO.out rfl (by kernel_rfl) (by simp [Value.oneCell']) ?_; intro w14 hbox5 hgr _; have hbn := pw_below_grown HBX.out (some g4) HBX.out.size hgr (fun k hk => by have := HGE.out; cases hk; omega); clear HO HBX HGE hgr; have n1_ := Aside0.mk (KI.below HI.out hbn); clear HI; have HI := n1_; clear n1_; (try (have n1_ := Aside0.mk (GAt.below HG1.out hbn); clear HG1; have HG1 := n1_; clear n1_)); (try (have n1_ := Aside0.mk (GAt.below HG2.out hbn); clear HG2; have HG2 := n1_; clear n1_)); (try (have n1_ := Aside0.mk (blk_below H4.out hbn); clear H4; have H4 := n1_; clear n1_)); (try (have n1_ := Aside0.mk (blk_below H6.out hbn); clear H6; have H6 := n1_; clear n1_)); (try (have n1_ := Aside0.mk (blk_below H8.out hbn); clear H8; have H8 := n1_; clear n1_)); (try (have n1_ := Aside0.mk (Kd.C_below HU0.out hbn); clear HU0; have HU0 := n1_; clear n1_)); (try (have n1_ := Aside0.mk (Kd.C_below HU1.out hbn); clear HU1; have HU1 := n1_; clear n1_)); (try clear x10 x11 x20 x21); (try clear x40 x41); (try clear x60 x61); (try clear x80 x81); have x10 := HI.out.c10; have x11 := HI.out.c11; have x20 := HI.out.c20; have x21 := HI.out.c21; (try (have x40 := box2_0 H4.out; have x41 := box2_1 H4.out)); (try (have x60 := box2_0 H6.out; have x61 := box2_1 H6.out)); (try (have x80 := box2_0 H8.out; have x81 := box2_1 H8.out)); have H4 := Aside0.mk hbox5; clear hbn hbox5; have x40 := box2_0 H4.out; have x41 := box2_1 H4.out)
    | ((with_reducible refine gate_store (t := 61) (p := 6) rfl ?_); refine store_whole rfl rfl 61 (.tmp 6) (.tmp 29) rfl (cs := #[.slice none 0 0, .slice A2 n c2]) rfl rfl HO.out rfl (by kernel_rfl) (by simp [Value.oneCell']) ?_; intro w16 hbox5 hgr _; have hbn := pw_below_grown HBX.out (some g6) HBX.out.size hgr (fun k hk => by have := HGE.out; cases hk; omega); clear HO HBX HGE hgr; have n1_ := Aside0.mk (KI.below HI.out hbn); clear HI; have HI := n1_; clear n1_; (try (have n1_ := Aside0.mk (GAt.below HG1.out hbn); clear HG1; have HG1 := n1_; clear n1_)); (try (have n1_ := Aside0.mk (GAt.below HG2.out hbn); clear HG2; have HG2 := n1_; clear n1_)); (try (have n1_ := Aside0.mk (blk_below H4.out hbn); clear H4; have H4 := n1_; clear n1_)); (try (have n1_ := Aside0.mk (blk_below H6.out hbn); clear H6; have H6 := n1_; clear n1_)); (try (have n1_ := Aside0.mk (blk_below H8.out hbn); clear H8; have H8 := n1_; clear n1_)); (try (have n1_ := Aside0.mk (Kd.C_below HU0.out hbn); clear HU0; have HU0 := n1_; clear n1_)); (try (have n1_ := Aside0.mk (Kd.C_below HU1.out hbn); clear HU1; have HU1 := n1_; clear n1_)); (try clear x10 x11 x20 x21); (try clear x40 x41); (try clear x60 x61); (try clear x80 x81); have x10 := HI.out.c10; have x11 := HI.out.c11; have x20 := HI.out.c20; have x21 := HI.out.c21; (try (have x40 := box2_0 H4.out; have x41 := box2_1 H4.out)); (try (have x60 := box2_0 H6.out; have x61 := box2_1 H6.out)); (try (have x80 := box2_0 H8.out; have x81 := box2_1 H8.out)); have H6 := Aside0.mk hbox5; clear hbn hbox5; have x60 := box2_0 H6.out; have x61 := box2_1 H6.out)
    | (go_at_call 31; refine (dowelref09_Grammar.calls k A c l st _ _ _ _ HI.out.rd HC.out HREF.out).mono ?_; rintro e w17 ⟨v0_, v1_, rfl, hu0, hu1, hb17⟩; obtain ⟨A3, c3, A4, c4, rfl, rfl, hu2, hc4, hu3⟩ := want_form hu0 hu1; have HC4 := Aside0.mk hc4; have n1_ := Aside0.mk (KI.below HI.out hb17); clear HI; have HI := n1_; clear n1_; (try (have n1_ := Aside0.mk (GAt.below HG1.out hb17); clear HG1; have HG1 := n1_; clear n1_)); (try (have n1_ := Aside0.mk (GAt.below HG2.out hb17); clear HG2; have HG2 := n1_; clear n1_)); (try (have n1_ := Aside0.mk (blk_below H4.out hb17); clear H4; have H4 := n1_; clear n1_)); (try (have n1_ := Aside0.mk (blk_below H6.out hb17); clear H6; have H6 := n1_; clear n1_)); (try (have n1_ := Aside0.mk (blk_below H8.out hb17); clear H8; have H8 := n1_; clear n1_)); (try (have n1_ := Aside0.mk (Kd.C_below HU0.out hb17); clear HU0; have HU0 := n1_; clear n1_)); (try (have n1_ := Aside0.mk (Kd.C_below HU1.out hb17); clear HU1; have HU1 := n1_; clear n1_)); (try clear x10 x11 x20 x21); (try clear x40 x41); (try clear x60 x61); (try clear x80 x81); have x10 := HI.out.c10; have x11 := HI.out.c11; have x20 := HI.out.c20; have x21 := HI.out.c21; (try (have x40 := box2_0 H4.out; have x41 := box2_1 H4.out)); (try (have x60 := box2_0 H6.out; have x61 := box2_1 H6.out)); (try (have x80 := box2_0 H8.out; have x81 := box2_1 H8.out)); have HU0 := Aside0.mk hu2; have HU1 := Aside0.mk hu3; clear hu0 hu1 hb17 hu2 hc4 hu3)
    | ((with_reducible refine gate_store (t := 61) (p := 8) rfl ?_); refine store_whole rfl rfl 61 (.tmp 8) (.tmp 34) rfl (cs := #[.slice A3 0 c3, .slice A4 n c4]) rfl rfl HO.out rfl (by kernel_rfl) (by simp [Value.oneCell']) ?_; intro w18 hbox5 hgr _; have hbn := pw_below_grown HBX.out (some g8) HBX.out.size hgr (fun k hk => by have := HGE.out; cases hk; omega); clear HO HBX HGE hgr; have n1_ := Aside0.mk (KI.below HI.out hbn); clear HI; have HI := n1_; clear n1_; (try (have n1_ := Aside0.mk (GAt.below HG1.out hbn); clear HG1; have HG1 := n1_; clear n1_)); (try (have n1_ := Aside0.mk (GAt.below HG2.out hbn); clear HG2; have HG2 := n1_; clear n1_)); (try (have n1_ := Aside0.mk (blk_below H4.out hbn); clear H4; have H4 := n1_; clear n1_)); (try (have n1_ := Aside0.mk (blk_below H6.out hbn); clear H6; have H6 := n1_; clear n1_)); (try (have n1_ := Aside0.mk (blk_below H8.out hbn); clear H8; have H8 := n1_; clear n1_)); (try (have n1_ := Aside0.mk (Kd.C_below HU0.out hbn); clear HU0; have HU0 := n1_; clear n1_)); (try (have n1_ := Aside0.mk (Kd.C_below HU1.out hbn); clear HU1; have HU1 := n1_; clear n1_)); (try clear x10 x11 x20 x21); (try clear x40 x41); (try clear x60 x61); (try clear x80 x81); have x10 := HI.out.c10; have x11 := HI.out.c11; have x20 := HI.out.c20; have x21 := HI.out.c21; (try (have x40 := box2_0 H4.out; have x41 := box2_1 H4.out)); (try (have x60 := box2_0 H6.out; have x61 := box2_1 H6.out)); (try (have x80 := box2_0 H8.out; have x81 := box2_1 H8.out)); have H8 := Aside0.mk hbox5; clear hbn hbox5; have x80 := box2_0 H8.out; have x81 := box2_1 H8.out)
    | (go_at_call 32; have hcall := grams_lit k A1 c1 A3 c3 A4 c4 n l w18 (GAt.reads' HG1.out HN2.out HNB.out) HC1.out HU0.out HU1.out HC4.out HGR.out; (with_reducible refine hcall.mono ?_); clear hcall; rintro e w19 ⟨rfl, hb19⟩; have n1_ := Aside0.mk (KI.below HI.out hb19); clear HI; have HI := n1_; clear n1_; (try (have n1_ := Aside0.mk (GAt.below HG1.out hb19); clear HG1; have HG1 := n1_; clear n1_)); (try (have n1_ := Aside0.mk (GAt.below HG2.out hb19); clear HG2; have HG2 := n1_; clear n1_)); (try (have n1_ := Aside0.mk (blk_below H4.out hb19); clear H4; have H4 := n1_; clear n1_)); (try (have n1_ := Aside0.mk (blk_below H6.out hb19); clear H6; have H6 := n1_; clear n1_)); (try (have n1_ := Aside0.mk (blk_below H8.out hb19); clear H8; have H8 := n1_; clear n1_)); (try (have n1_ := Aside0.mk (Kd.C_below HU0.out hb19); clear HU0; have HU0 := n1_; clear n1_)); (try (have n1_ := Aside0.mk (Kd.C_below HU1.out hb19); clear HU1; have HU1 := n1_; clear n1_)); (try clear x10 x11 x20 x21); (try clear x40 x41); (try clear x60 x61); (try clear x80 x81); have x10 := HI.out.c10; have x11 := HI.out.c11; have x20 := HI.out.c20; have x21 := HI.out.c21; (try (have x40 := box2_0 H4.out; have x41 := box2_1 H4.out)); (try (have x60 := box2_0 H6.out; have x61 := box2_1 H6.out)); (try (have x80 := box2_0 H8.out; have x81 := box2_1 H8.out)); clear hb19)
    | (go_at_call 32; have hcall := grams_lit k A2 c2 A3 c3 A4 c4 n l w19 (GAt.reads' HG2.out HN2.out HNB.out) HC2.out HU0.out HU1.out HC4.out HGR.out; (with_reducible refine hcall.mono ?_); clear hcall; rintro e w20 ⟨rfl, hb20⟩; have n1_ := Aside0.mk (KI.below HI.out hb20); clear HI; have HI := n1_; clear n1_; (try (have n1_ := Aside0.mk (GAt.below HG1.out hb20); clear HG1; have HG1 := n1_; clear n1_)); (try (have n1_ := Aside0.mk (GAt.below HG2.out hb20); clear HG2; have HG2 := n1_; clear n1_)); (try (have n1_ := Aside0.mk (blk_below H4.out hb20); clear H4; have H4 := n1_; clear n1_)); (try (have n1_ := Aside0.mk (blk_below H6.out hb20); clear H6; have H6 := n1_; clear n1_)); (try (have n1_ := Aside0.mk (blk_below H8.out hb20); clear H8; have H8 := n1_; clear n1_)); (try (have n1_ := Aside0.mk (Kd.C_below HU0.out hb20); clear HU0; have HU0 := n1_; clear n1_)); (try (have n1_ := Aside0.mk (Kd.C_below HU1.out hb20); clear HU1; have HU1 := n1_; clear n1_)); (try clear x10 x11 x20 x21); (try clear x40 x41); (try clear x60 x61); (try clear x80 x81); have x10 := HI.out.c10; have x11 := HI.out.c11; have x20 := HI.out.c20; have x21 := HI.out.c21; (try (have x40 := box2_0 H4.out; have x41 := box2_1 H4.out)); (try (have x60 := box2_0 H6.out; have x61 := box2_1 H6.out)); (try (have x80 := box2_0 H8.out; have x81 := box2_1 H8.out)); clear hb20)
    | (go_at_call 21; refine (KeptCore_calls k gR G A c l st _ HI.out.lent HI.out.rd HC.out HN.out HM.out HSAME.out).mono ?_; rintro e w21 ⟨rfl, hb21⟩; have n1_ := Aside0.mk (KI.below HI.out hb21); clear HI; have HI := n1_; clear n1_; (try (have n1_ := Aside0.mk (GAt.below HG1.out hb21); clear HG1; have HG1 := n1_; clear n1_)); (try (have n1_ := Aside0.mk (GAt.below HG2.out hb21); clear HG2; have HG2 := n1_; clear n1_)); (try (have n1_ := Aside0.mk (blk_below H4.out hb21); clear H4; have H4 := n1_; clear n1_)); (try (have n1_ := Aside0.mk (blk_below H6.out hb21); clear H6; have H6 := n1_; clear n1_)); (try (have n1_ := Aside0.mk (blk_below H8.out hb21); clear H8; have H8 := n1_; clear n1_)); (try (have n1_ := Aside0.mk (Kd.C_below HU0.out hb21); clear HU0; have HU0 := n1_; clear n1_)); (try (have n1_ := Aside0.mk (Kd.C_below HU1.out hb21); clear HU1; have HU1 := n1_; clear n1_)); (try clear x10 x11 x20 x21); (try clear x40 x41); (try clear x60 x61); (try clear x80 x81); have x10 := HI.out.c10; have x11 := HI.out.c11; have x20 := HI.out.c20; have x21 := HI.out.c21; (try (have x40 := box2_0 H4.out; have x41 := box2_1 H4.out)); (try (have x60 := box2_0 H6.out; have x61 := box2_1 H6.out)); (try (have x80 := box2_0 H8.out; have x81 := box2_1 H8.out)); clear hb21)
    | (go_at_call 33; have hal := below_alloc (Below.refl w21.heap.size w21) (.cells #[.slice none 0 0, .slice A1 n c1, .slice none 0 0, .slice A2 n c2] 61); obtain ⟨f, hx, ho, ht⟩ := XG.of (g := w21.heap.size) (HG1.out.below hal) (HG2.out.below hal) HB12.out HG0.out ⟨_, heap_alloc_new _ _, rfl⟩; have hcall := freeGrams_calls _ _ n _ f _ _ _ _ (fun m => (nods l (if m < n then m else m - n)).length) (fun m => nods l (if m < n then m else m - n)) (Nat.le_trans HG1.out.size hal.size) HN2.out (fun m hm => HNB.out _ (by split <;> omega)) hx ho (fun _ _ => rfl) ht; (with_reducible refine hcall.mono ?_); clear hcall hx ho ht; rintro e w22 ⟨rfl, hb22⟩; have HE := Aside0.mk (HI.out.old.trans (below_step (Below.refl _ _) hal |>.mono HI.out.old.size |>.trans (hb22.mono HLO.out))); clear hb22 hal))
  go_ret
  exact ⟨rfl, HE.out⟩
end Go.Proofs.Ytebiogaacikphaa.Core
end
section
namespace Go.Proofs.YtebiogaacikphaaW.PrintWords
open Go.RowKit Go.ChangeShapes Go.WideShapes
/-- What is read at type t is told by the kind d, and meets ok. -/
structure Opens (P : Program) (t : TypeId) {α : Type} (d : Kd α) (ok : α → Prop) : Prop where
  out : ∀ {H : Type} {enc : TypeId × Value → H} {w : World} {base : Nat} {sp : Nat → Bool} {held : Bool} {fuel : Nat} {cs : List Value} {x : DataW H × List MemPlace},
    DataW.trod enc P w base sp held fuel t cs = some x → (∀ n ∈ x.1.weights P t, n ≤ reachBytes) → ∃ a, d.K w a cs ∧ ok a
theorem Opens.int {P : Program} {t : TypeId} {k : IntKind} (hu : P.underlying t = some (.int k)) : Opens P t (Kd.int k) (fun n => (Lit.int k n).wf = true) :=
  ⟨fun hx _ => by
    obtain ⟨n, rfl, _, hw⟩ := DataW.trod_int hu hx
    exact ⟨n, rfl, hw⟩⟩
theorem Opens.string {P : Program} {t : TypeId} (hu : P.underlying t = some .string) : Opens P t Kd.string (fun s => s.size ≤ 140737488351232) :=
  ⟨fun hx hw => by
    obtain ⟨s, rfl, rfl, _⟩ := DataW.trod_string hu hx
    refine ⟨s, rfl, ?_⟩
    have := hw s.data.toList.length (by simp [DataW.weights])
    rwa [Array.length_toList] at this⟩
theorem weights_all_mem {H : Type} {P : Program} {e : TypeId} : ∀ {l : List (DataW H)} {d : DataW H}, d ∈ l → ∀ n ∈ d.weights P e, n ∈ DataW.weightsAll P e l
  | [], _, h, _, _ => by cases h
  | a :: l, d, h, n, hn => by
    simp only [DataW.weightsAll, List.mem_append]
    rcases List.mem_cons.1 h with rfl | h
    · exact .inl hn
    · exact .inr (weights_all_mem h n hn)
theorem cells?_get {w : World} {base : Nat} {a : Addr} {n : Nat} {cs : List Value} (h : w.cells? base a n = some cs) : cs.length = n ∧ ∀ i u, cs[i]? = some u → w.cell? (a.add i) = some u := by
  obtain ⟨_, hl, hc⟩ := World.cells?_some h
  refine ⟨hl, fun i u hu => ?_⟩
  have hi : i < cs.length := (List.getElem?_eq_some_iff.1 hu).1
  rw [hc i (by omega), hu]
/-- A slice of what is told by d. -/
theorem Opens.slice {P : Program} {t e : TypeId} {α : Type} {d : Kd α} {ok : α → Prop} (hu : P.underlying t = some (.slice e)) (h : Opens P e d ok) (hsz : P.cellsOf e = d.sz) {B : Nat} (hB : P.bytesOf e = B) :
    Opens P t (Kd.slice e d) (fun xs => xs.length * B ≤ 140737488351232 ∧ xs.length ≤ 9223372036854775807 ∧ ∀ x ∈ xs, ok x) :=
  ⟨fun {H enc w base sp held fuel cs x} hx hw => by
    rcases DataW.trod_slice hu hx with ⟨rfl, rfl⟩ | ⟨a, len, cap, elems, rest, n, rfl, rfl, rfl, hb, hlc, hcm, hel, hels, hsp, hns⟩
    · exact ⟨[], ⟨none, 0, rfl, Nat.le_refl _, rfl, by simp, fun h => absurd h (Nat.lt_irrefl 0)⟩, by simp⟩
    · have hwt : (elems.length + rest.length) * B ≤ reachBytes := by
        have := hw ((elems.length + rest.length) * B) (by simp [DataW.weights, hu, hB])
        exact this
      have hwe : ∀ y ∈ elems, ∀ n ∈ y.1.weights P e, n ≤ reachBytes := fun y hy n hn => hw n (by
        simp only [DataW.weights, hu, List.mem_cons, List.mem_append]
        exact .inr (.inl (weights_all_mem (List.mem_map_of_mem hy) n hn)))
      have each : ∀ i (hi : i < len), ∃ c z, w.cells? base (a.add (i * P.cellsOf e)) (P.cellsOf e) = some c ∧ d.K w z c ∧ ok z := by
        intro i hi
        have h1 := hels i hi
        rw [List.getElem?_eq_getElem (show i < elems.length by omega)] at h1
        obtain ⟨c, hc, ht⟩ := Option.bind_eq_some_iff.1 h1
        obtain ⟨z, hz, ho⟩ := h.out ht (hwe _ (List.getElem_mem _))
        exact ⟨c, z, hc, hz, ho⟩
      have pick : ∀ m, m ≤ len → ∃ zs : List α, zs.length = m ∧ ∀ i z, zs[i]? = some z → ok z ∧ ∃ c, w.cells? base (a.add (i * P.cellsOf e)) (P.cellsOf e) = some c ∧ d.K w z c := by
        intro m
        induction m with
        | zero => exact fun _ => ⟨[], rfl, fun i z hz => by simp at hz⟩
        | succ m ih =>
          intro hm
          obtain ⟨zs, hl, hz⟩ := ih (by omega)
          obtain ⟨c, z, hc, hk, ho⟩ := each m (by omega)
          refine ⟨zs ++ [z], by simp [hl], fun i y hy => ?_⟩
          rcases Nat.lt_or_ge i zs.length with hi | hi
          · rw [List.getElem?_append_left hi] at hy
            exact hz i y hy
          · have : i = zs.length := by
              have := (List.getElem?_eq_some_iff.1 hy).1
              simp at this
              omega
            subst this
            have hy' : z = y := by simpa using hy
            subst hy'
            rw [hl]
            exact ⟨ho, c, hc, hk⟩
      obtain ⟨zs, hl, hz⟩ := pick len (Nat.le_refl _)
      subst hl
      have hmax : zs.length ≤ 9223372036854775807 := by
        unfold maxLen at hcm
        omega
      refine ⟨zs, ⟨some a, cap, rfl, hlc, rfl, hmax, fun hn => ⟨a, rfl, fun j z hj => ?_⟩⟩, ?_, hmax, fun z hzm => ?_⟩
      · obtain ⟨_, c, hc, hk⟩ := hz j z hj
        obtain ⟨hcl, hcc⟩ := cells?_get hc
        refine ⟨c, by rw [hcl, hsz], hk, fun i u hu => ?_⟩
        have hadd : (a.add (j * P.cellsOf e)).add i = a.add (j * d.sz + i) := by rw [add_add, hsz]
        rw [← hadd]
        exact hcc i u hu
      · rw [← hel]
        exact Nat.le_trans (Nat.mul_le_mul_right _ (Nat.le_add_right _ _)) hwt
      · obtain ⟨i, hi, rfl⟩ := List.mem_iff_getElem.1 hzm
        exact (hz i _ (List.getElem?_eq_getElem hi)).1⟩
/-- The last fields of a struct, laid from cell o on. -/
structure OpensF (P : Program) (o : Nat) (fs : List Field) {α : Type} (d : Kd α) (ok : α → Prop) : Prop where
  out : ∀ {H : Type} {enc : TypeId × Value → H} {w : World} {base : Nat} {sp : Nat → Bool} {held : Bool} {fuel : Nat} {cs : List Value} {xs : List (DataW H × List MemPlace)},
    cs.length = o + d.sz → xs.length = fs.length →
    (∀ (i : Nat) (f : Field), fs[i]? = some f → DataW.trod enc P w base sp held fuel f.type ((cs.drop f.offset).take (P.cellsOf f.type)) = xs[i]?) →
    (∀ n ∈ DataW.weightsEach P (fs.map (·.type)) (xs.map (·.1)), n ≤ reachBytes) → ∃ a, d.K w a (cs.drop o) ∧ ok a
theorem OpensF.one {P : Program} {o : Nat} {f : Field} {α : Type} {d : Kd α} {ok : α → Prop} (ho : f.offset = o) (hc : P.cellsOf f.type = d.sz) (h : Opens P f.type d ok) : OpensF P o [f] d ok := by
  refine ⟨fun {H enc w base sp held fuel cs xs} hl hx hf hw => ?_⟩
  match xs, hx with
  | [x], _ =>
    have h1 := hf 0 f rfl
    rw [List.getElem?_cons_zero, ho, hc, List.take_of_length_le (by rw [List.length_drop]; omega)] at h1
    exact h.out h1 (fun n hn => hw n (by simp [DataW.weightsEach, hn]))
theorem OpensF.cons {P : Program} {o : Nat} {f : Field} {fs : List Field} {α β : Type} {d : Kd α} {ok : α → Prop} {d' : Kd β} {ok' : β → Prop} (ho : f.offset = o) (hc : P.cellsOf f.type = d.sz) (h : Opens P f.type d ok) (hr : OpensF P (o + d.sz) fs d' ok') :
    OpensF P o (f :: fs) (Kd.pair d d') (fun x => ok x.1 ∧ ok' x.2) := by
  refine ⟨fun {H enc w base sp held fuel cs xs} hl hx hf hw => ?_⟩
  have hl' : cs.length = o + d.sz + d'.sz := by rw [hl]; show o + (d.sz + d'.sz) = _; omega
  match xs, hx with
  | x :: xs, hx =>
    have h1 := hf 0 f rfl
    rw [List.getElem?_cons_zero, ho, hc] at h1
    obtain ⟨a, ha, hao⟩ := h.out h1 (fun n hn => hw n (by simp [DataW.weightsEach, hn]))
    obtain ⟨b, hb, hbo⟩ := hr.out (xs := xs) hl' (by simpa using hx) (fun i g hg => by simpa using hf (i + 1) g (by simpa using hg)) (fun n hn => hw n (by simp only [List.map_cons, DataW.weightsEach, List.mem_append]; exact .inr hn))
    refine ⟨(a, b), ⟨_, _, ?_, ha, hb⟩, hao, hbo⟩
    rw [← List.drop_drop]
    exact (List.take_append_drop _ _).symm
/-- A struct. -/
theorem Opens.struct {P : Program} {t : TypeId} {fs : Array Field} {α β : Type} {d : Kd α} {ok : α → Prop} (hu : P.underlying t = some (.struct fs)) (hc : P.cellsOf t = d.sz) (f : β → α) (g : α → β) (hfg : ∀ a, f (g a) = a) (h : OpensF P 0 fs.toList d ok) : Opens P t (Kd.iso d f) (fun b => ok (f b)) :=
  ⟨fun hx hw => by
    obtain ⟨xs, n, rfl, rfl, hl, hn, hf⟩ := DataW.trod_struct hu hx
    obtain ⟨a, ha, hao⟩ := h.out (by rw [hl, hc]; omega) (by simpa using hn) (fun i f hi => hf i f (by simpa using hi)) (fun n hn => hw n (by simpa [DataW.weights, hu] using hn))
    exact ⟨g a, by show d.K _ (f (g a)) _; rw [hfg]; exact ha, by rw [hfg]; exact hao⟩⟩
theorem mapM_cons_some {α β : Type} {f : α → Option β} {a : α} {l : List α} {r : List β} (h : (a :: l).mapM f = some r) : ∃ b r', f a = some b ∧ l.mapM f = some r' ∧ r = b :: r' := by
  rw [List.mapM_cons] at h
  obtain ⟨b, hb, h⟩ := Option.bind_eq_some_iff.1 h
  obtain ⟨r', hr, h⟩ := Option.bind_eq_some_iff.1 h
  exact ⟨b, r', hb, hr, (Option.some.inj h).symm⟩
/-- An array of four numbers. -/
theorem Opens.four {P : Program} {t e : TypeId} {k : IntKind} {β : Type} (hu : P.underlying t = some (.array 4 e)) (he : P.underlying e = some (.int k)) (hce : P.cellsOf e = 1) (hct : P.cellsOf t = 4) (f : β → Int × Int × Int × Int) (g : Int × Int × Int × Int → β) (hfg : ∀ a, f (g a) = a) :
    Opens P t (Kd.iso (Kd.pair (Kd.int k) (Kd.pair (Kd.int k) (Kd.pair (Kd.int k) (Kd.int k)))) f) (fun b => (Lit.int k (f b).1).wf = true ∧ (Lit.int k (f b).2.1).wf = true ∧ (Lit.int k (f b).2.2.1).wf = true ∧ (Lit.int k (f b).2.2.2).wf = true) :=
  ⟨fun {H enc w base sp held fuel cs x} hx hw => by
    cases fuel with
    | zero => simp [DataW.trod] at hx
    | succ fuel =>
      unfold DataW.trod at hx
      rw [hu] at hx
      simp only [hct] at hx
      split at hx
      case isFalse => cases hx
      rename_i hl
      match cs, hl with
      | [c0, c1, c2, c3], _ =>
        obtain ⟨xs, hxs, rfl⟩ := Option.map_eq_some_iff.1 hx
        rw [show List.range 4 = [0, 1, 2, 3] from rfl] at hxs
        obtain ⟨y0, r0, h0, hxs, _⟩ := mapM_cons_some hxs
        obtain ⟨y1, r1, h1, hxs, _⟩ := mapM_cons_some hxs
        obtain ⟨y2, r2, h2, hxs, _⟩ := mapM_cons_some hxs
        obtain ⟨y3, r3, h3, hxs, _⟩ := mapM_cons_some hxs
        simp only [hce] at h0 h1 h2 h3
        obtain ⟨n0, e0, _, w0⟩ := DataW.trod_int he h0
        obtain ⟨n1, e1, _, w1⟩ := DataW.trod_int he h1
        obtain ⟨n2, e2, _, w2⟩ := DataW.trod_int he h2
        obtain ⟨n3, e3, _, w3⟩ := DataW.trod_int he h3
        simp at e0 e1 e2 e3
        subst e0 e1 e2 e3
        refine ⟨g (n0, n1, n2, n3), ?_, by rw [hfg]; exact ⟨w0, w1, w2, w3⟩⟩
        show (Kd.pair _ _).K w (f (g (n0, n1, n2, n3))) _
        rw [hfg]
        exact ⟨[_], [_, _, _], rfl, rfl, [_], [_, _], rfl, rfl, [_], [_], rfl, rfl, rfl⟩⟩
end Go.Proofs.YtebiogaacikphaaW.PrintWords
end
section
namespace Go.Proofs.Ytebiogaacikphaa.Core
open Go.RowKit Go.ChangeShapes Go.WideShapes Go.Proofs.YtebiogaacikphaaW.PrintWords Go.Proofs.Ytebiogaacikphaa.PAll Go.Proofs.Ytebiogaacikphaa.Names
set_option linter.unusedVariables false
set_option maxRecDepth 100000
theorem oClass : Opens Try.prog 76 k76 (fun b => (Lit.int .u64 b.f0).wf = true ∧ (Lit.int .u64 b.f1).wf = true ∧ (Lit.int .u64 b.f2).wf = true ∧ (Lit.int .u64 b.f3).wf = true) :=
  Opens.four Try.underlying76 Try.underlying74 (by kernel_rfl) (by kernel_rfl) (fun x : Class => (x.f0, x.f1, x.f2, x.f3)) (fun a => ⟨a.1, a.2.1, a.2.2.1, a.2.2.2⟩) (fun a => rfl)
theorem oNode : Opens Try.prog 90 k90 (fun b => (Lit.int .i64 b.f0).wf = true ∧ ((Lit.int .u64 b.f1.f0).wf = true ∧ (Lit.int .u64 b.f1.f1).wf = true ∧ (Lit.int .u64 b.f1.f2).wf = true ∧ (Lit.int .u64 b.f1.f3).wf = true) ∧ (Lit.int .i64 b.f2).wf = true ∧ b.f3.size ≤ 140737488351232) :=
  Opens.struct Try.underlying90 (by kernel_rfl) (fun x : Node => (x.f0, x.f1, x.f2, x.f3)) (fun a => ⟨a.1, a.2.1, a.2.2.1, a.2.2.2⟩) (fun a => rfl)
    (OpensF.cons rfl (by kernel_rfl) (Opens.int Try.underlying3) (OpensF.cons rfl (by kernel_rfl) oClass (OpensF.cons rfl (by kernel_rfl) (Opens.int Try.underlying3) (OpensF.one rfl (by kernel_rfl) (Opens.string Try.underlying9)))))
/-- A node of what came in. -/
def NodeOk (b : Node) : Prop := (Lit.int .i64 b.f0).wf = true ∧ ((Lit.int .u64 b.f1.f0).wf = true ∧ (Lit.int .u64 b.f1.f1).wf = true ∧ (Lit.int .u64 b.f1.f2).wf = true ∧ (Lit.int .u64 b.f1.f3).wf = true) ∧ (Lit.int .i64 b.f2).wf = true ∧ b.f3.size ≤ 140737488351232
theorem oBody : Opens Try.prog 25 (Kd.slice 90 k90) (fun xs => xs.length * 64 ≤ 140737488351232 ∧ xs.length ≤ 9223372036854775807 ∧ ∀ x ∈ xs, NodeOk x) :=
  Opens.slice Try.underlying25 oNode (by kernel_rfl) (by kernel_rfl)
def RuleOk (r : Rule) : Prop := r.f0.size ≤ 140737488351232 ∧ r.f1.length * 64 ≤ 140737488351232 ∧ r.f1.length ≤ 9223372036854775807 ∧ ∀ x ∈ r.f1, NodeOk x
theorem oRule : Opens Try.prog 30 k30 RuleOk :=
  Opens.struct Try.underlying30 (by kernel_rfl) (fun x : Rule => (x.f0, x.f1)) (fun a => ⟨a.1, a.2⟩) (fun a => rfl)
    (OpensF.cons rfl (by kernel_rfl) (Opens.string Try.underlying9) (OpensF.one rfl (by kernel_rfl) oBody))
theorem oRules : Opens Try.prog 22 (Kd.slice 30 k30) (fun xs => xs.length * 40 ≤ 140737488351232 ∧ xs.length ≤ 9223372036854775807 ∧ ∀ x ∈ xs, RuleOk x) :=
  Opens.slice Try.underlying22 oRule (by kernel_rfl) (by kernel_rfl)
theorem oCore : Opens Try.prog 24 (Kd.iso (Kd.pair (Kd.slice 30 k30) (Kd.int .i64)) (fun x : List Rule × Int => (x.1, x.2))) (fun x => (x.1.length * 40 ≤ 140737488351232 ∧ x.1.length ≤ 9223372036854775807 ∧ ∀ r ∈ x.1, RuleOk r) ∧ (Lit.int .i64 x.2).wf = true) :=
  Opens.struct Try.underlying24 (by kernel_rfl) (fun x : List Rule × Int => (x.1, x.2)) (fun a => a) (fun a => rfl)
    (OpensF.cons rfl (by kernel_rfl) oRules (OpensF.one rfl (by kernel_rfl) (Opens.int Try.underlying3)))
theorem fit_of {l : List Rule} (h : l.length * 40 ≤ 140737488351232 ∧ l.length ≤ 9223372036854775807 ∧ ∀ r ∈ l, RuleOk r) : Fit l :=
  ⟨by omega, fun r hr => ⟨(h.2.2 r hr).1, by have := (h.2.2 r hr).2.1; omega, fun n hn => ((h.2.2 r hr).2.2.2 n hn).2.2.2⟩⟩
/-- An argument that is a core grammar. -/
theorem open_core {H : Type} {enc : TypeId × Value → H} {W : World} {base : Nat} {r : Reach} {b0 : Nat} {sp : Nat → Bool} {held : Bool} {v : Value} {d : DataW H} {p : List MemPlace}
    (hval : Value.okWide Try.prog W r b0 24 v) (h : DataW.Trod enc Try.prog W base sp held 24 v d p) (hw : ∀ n ∈ d.weights Try.prog 24, n ≤ reachBytes) :
    ∃ (A : Option Addr) (c : Nat) (l : List Rule) (st : Int), v = .agg #[.slice A l.length c, .int .i64 st] ∧ Kd.C k30 W A l.length l ∧ l.length ≤ c ∧ (Lit.int .i64 st).wf = true ∧ (l.length * 40 ≤ 140737488351232 ∧ l.length ≤ 9223372036854775807 ∧ ∀ r ∈ l, RuleOk r) := by
  simp only [Value.okWide, Try.underlying24] at hval
  obtain ⟨cs, rfl, _, _⟩ := hval
  obtain ⟨fuel, hf⟩ := h
  obtain ⟨x, ⟨c0, c1, he, ⟨A, c, rfl, hl, hC⟩, rfl⟩, ho, hs⟩ := oCore.out hf hw
  refine ⟨A, c, x.1, x.2, ?_, hC, hl, hs, ho⟩
  obtain ⟨cs⟩ := cs
  simp [Value.cells] at he
  rw [he]
end Go.Proofs.Ytebiogaacikphaa.Core
end
