/- Parts of the proof of coreGrammars: GrammarWalk. No condition beyond each lemma's own. -/
import Derived.Test.YtebiogaacikphaaTG5
import Derived.Test.YtebiogaacikphaaTG6
import Derived.Test.YtebiogaacikphaaTG8
import Derived.Test.YtebiogaacikphaaTG14
import Derived.Test.YtebiogaacikphaaTG17
section
namespace Go.Proofs.Ytebiogaacikphaa.Core
open Go.RowKit Go.Proofs.YtebiogaacikphaaW.PrintWords Go.Proofs.Ytebiogaacikphaa.PAll Go.Proofs.Ytebiogaacikphaa.Pack
set_option linter.unusedVariables false
set_option linter.unusedSimpArgs false
theorem qGrammarWalk_2 {p : Prop} (h : p := by rw [HN1.out]; omega) : p := h
theorem qGrammarWalk_1 {p : Prop} (h : p := by have := HB9.out.size; omega) : p := h
theorem qGrammarWalk_0 {p : Prop} (h : p := by simp [Value.oneCell']) : p := h
set_option linter.unnecessarySimpa false
/-- Between two rules. -/
structure OI (w W : World) (g1 g2 g4 : Nat) (A : Option Addr) (c : Nat) (st : Int) (l : List Rule) (vr : Value) (bv : Nat → Value) (s : Nat → Nat) (i : Nat) : Prop where
  old : Below w.heap.size w W
  b1 : RowAt W g1 24 [.slice A l.length c, .int .i64 st]
  b2 : RowAt W g2 61 [.slice none 0 0, .slice none 0 0]
  b4 : RowAt W g4 61 [.slice none 0 0, vr]
  ge : w.heap.size ≤ g1 ∧ w.heap.size ≤ g2 ∧ w.heap.size ≤ g4 ∧ g4 ≠ g1 ∧ g4 ≠ g2
  gat : GAt w.heap.size W vr bv s l i
section
variable {w W W' W1 W2 : World} {g1 g2 g4 : Nat} {A : Option Addr} {c : Nat} {st : Int} {l : List Rule} {vr ve vr' : Value} {bv : Nat → Value} {s : Nat → Nat} {i j : Nat}
theorem OI.below (h : OI w W g1 g2 g4 A c st l vr bv s i) (hb : Below W.heap.size W W') : OI w W' g1 g2 g4 A c st l vr bv s i :=
  ⟨below_step h.old hb, h.b1.below hb, h.b2.below hb, h.b4.below hb, h.ge, h.gat.below hb⟩
theorem OI.add (h : OI w W g1 g2 g4 A c st l vr bv s i) (hw : W.ownsRow (s i) 122 10 ve (nods l i).length ((nods l i).flatMap nodCells))
    (hr : W1.ownsRow w.heap.size 125 3 vr' (i + 1) ((List.range i).flatMap (fun (k : Nat) => [.string (rd_T30 l (k : Int)).f0, .slice none 0 0, bv k]) ++ [.string (rd_T30 l (i : Int)).f0, .slice none 0 0, ve]))
    (hg : W.grownBy W1 vr.ownBlock) (hp : RowAt W2 g4 61 [.slice none 0 0, vr']) (hg2 : W1.grownBy W2 (some g4)) :
    OI w W2 g1 g2 g4 A c st l vr' (fun k => if k = i then ve else bv k) (fun k => if k = i + 1 then W.heap.size else s k) (i + 1) := by
  have hb4 : RowAt W1 g4 61 [.slice none 0 0, vr] := h.b4.grown hg (own_row_ne h.gat.row h.b4 (by decide)).symm
  have hge := h.ge
  refine ⟨pw_below_grown (pw_below_grown h.old vr.ownBlock h.old.size hg (fun k hk => own_base h.gat.row k hk)) (some g4) (by have := h.old.size; have := hg.size; omega) hg2 (fun k hk => by injection hk with hk; omega), ?_, ?_, hp, hge, ?_⟩
  · exact (h.b1.grown hg (own_row_ne h.gat.row h.b1 (by decide)).symm).grown hg2 (by simp; omega)
  · exact (h.b2.grown hg (own_row_ne h.gat.row h.b2 (by decide)).symm).grown hg2 (by simp; omega)
  · exact (h.gat.add hw hr hg).put hb4 (by decide) (by decide) hg2
end
/-- Within a rule. -/
structure II (Wi W : World) (g7 : Nat) (l : List Rule) (i j : Nat) (A1 : Option Addr) (c1 : Nat) (ve : Value) : Prop where
  old : Below Wi.heap.size Wi W
  b7 : RowAt W g7 30 [.string (rd_T30 l (i : Int)).f0, .slice A1 (rd_T30 l (i : Int)).f1.length c1]
  g7 : Wi.heap.size ≤ g7
  own : W.ownsRow Wi.heap.size 122 10 ve j (((nods l i).take j).flatMap nodCells)
section
variable {Wi W W' W1 : World} {g7 : Nat} {l : List Rule} {i j : Nat} {A1 : Option Addr} {c1 : Nat} {ve v' : Value} {y : Nod}
theorem II.below (h : II Wi W g7 l i j A1 c1 ve) (hb : Below W.heap.size W W') : II Wi W' g7 l i j A1 c1 ve :=
  ⟨below_step h.old hb, h.b7.below hb, h.g7, own_kept h.own (fun k e => hb.block k (own_lt h.own k e))⟩
theorem II.put (h : II Wi W g7 l i j A1 c1 ve) {g : Nat} {e : TypeId} {cs : List Value} (hr : RowAt W g e cs) (h1 : 122 ≠ e) (hge : Wi.heap.size ≤ g) (hne : g ≠ g7) (hg : W.grownBy W' (some g)) : II Wi W' g7 l i j A1 c1 ve :=
  ⟨pw_below_grown h.old (some g) h.old.size hg (fun k hk => by injection hk with hk; omega), h.b7.grown hg (by simp; omega), h.g7, own_kept h.own (fun b e => hg.block b (own_lt h.own b e) (fun e2 => own_row_ne h.own hr h1 (by rw [e, e2])))⟩
theorem II.add (h : II Wi W g7 l i j A1 c1 ve) (hy : (nods l i)[j]? = some y) (ho : W'.ownsRow Wi.heap.size 122 10 v' (j + 1) (((nods l i).take j).flatMap nodCells ++ nodCells y)) (hg : W.grownBy W' ve.ownBlock) : II Wi W' g7 l i (j + 1) A1 c1 v' := by
  refine ⟨pw_below_grown h.old ve.ownBlock h.old.size hg (fun k hk => own_base h.own k hk), h.b7.grown hg (own_row_ne h.own h.b7 (by decide)).symm, h.g7, ?_⟩
  rw [List.take_add_one, hy, List.flatMap_append]
  simpa using ho
end
/-- What core.Grammar answers of a right core grammar that is small enough. -/
def GrOut (w w' : World) (l : List Rule) (nst : Nat → Int) (e : Ending) : Prop :=
  ((∃ i, i < l.length ∧ 100 < nst i) ∧ e = .returned (.tuple #[.agg #[.slice none 0 0, .slice none 0 0], .int .i64 3])) ∨ ((¬ ∃ i, i < l.length ∧ 100 < nst i) ∧ ∃ vr bv s, e = .returned (.tuple #[.agg #[.slice none 0 0, vr], .int .i64 0]) ∧ GAt w.heap.size w' vr bv s l l.length)
section
variable (kf : Nat) (A : Option Addr) (c : Nat) (l : List Rule) (st : Int) (w : World)
set_option maxHeartbeats 8000000 in
set_option maxRecDepth 100000 in
theorem grammar_ok (hr : Kd.C k30 w A l.length l) (hc : l.length ≤ c) (hck : core_Check.f kf l st = some 0) (hsz : core_Size.f kf l st = some (sizeL l)) (hs : sizeL l ≤ 4096) (hln : l.length ≤ 256)
    (har : ∀ a : Int, core_arity.f kf a = some (ar a)) (hbl : ∀ i, i < l.length → (body l i).length ≤ 4096) (hop : ∀ i, i < l.length → ∀ x ∈ body l i, 0 ≤ x.f0 ∧ x.f0 ≤ 8 ∧ (x.f0 = 2 → 0 ≤ x.f2 ∧ x.f2 < l.length))
    (nst : Nat → Int) (hN : ∀ i, i < l.length → script_Nest.f kf (nods l i) = some (nst i)) :
    Calls Try.prog 30 #[.agg #[.slice A l.length c, .int .i64 st]] w fun e w' => GrOut w w' l nst e ∧ Below w.heap.size w w' := by
  have HR := Aside0.mk hr
  have HC := Aside0.mk hc
  have HCK := Aside0.mk hck
  have HSZ := Aside0.mk hsz
  have HLN := Aside0.mk hln
  have HAR := Aside0.mk har
  have HBL := Aside0.mk hbl
  have HOP := Aside0.mk hop
  have HN := Aside0.mk hN
  have k1 : decide (sizeL l > 4096) = false := decide_eq_false (by omega)
  clear hr hc hck hsz hs hln har hbl hop hN
  go_enter Try.func30, Try.ntmps30
  go_wp2_with (first
    | ((with_reducible refine gate_dst (N := 1) rfl ?_); refine box_event (N := 1) rfl rfl (cs := #[.slice A l.length c, .int .i64 st]) (t := 24) ?hr1 ?_; (case hr1 => first | (go_simp; done) | (go_simp; rfl)); intro g1 hg1 w1 hbox hb; have H1 := Aside0.mk (show RowAt w1 g1 24 [.slice A l.length c, .int .i64 st] from ⟨_, hbox, rfl⟩); have HB := Aside0.mk hb; have HG1 := Aside0.mk (show w.heap.size ≤ g1 by omega); clear hbox hb hg1; have z0 := H1.out.cell 0; have z1 := H1.out.cell 1; simp only [List.getElem?_cons_succ, List.getElem?_cons_zero] at z0 z1)
    | ((with_reducible refine gate_dst (N := 2) rfl ?_); refine box_event (N := 2) rfl rfl (cs := #[.slice none 0 0, .slice none 0 0]) (t := 61) ?hr1 ?_; (case hr1 => first | (go_simp; done) | (go_simp; rfl)); intro g2 hg2 w2 hbox hb; have HG2 := Aside0.mk (show w.heap.size ≤ g2 ∧ g1 < g2 by have := H1.out.lt; have := HB.out.size; omega); have n1_ := Aside0.mk (below_step HB.out hb); have n2_ := Aside0.mk (H1.out.below hb); clear HB H1 z0 z1; have HB := n1_; have H1 := n2_; clear n1_ n2_; have H2 := Aside0.mk (show RowAt w2 g2 61 [.slice none 0 0, .slice none 0 0] from ⟨_, hbox, rfl⟩); clear hbox hb hg2; have z0 := H1.out.cell 0; have z1 := H1.out.cell 1; simp only [List.getElem?_cons_succ, List.getElem?_cons_zero] at z0 z1)
    | (go_at_call 19; refine (core_Check.calls kf A c l st 0 _ (Kd.C_below HR.out HB.out) HC.out HCK.out).mono ?_; rintro e w3 ⟨rfl, hb⟩; have n1_ := Aside0.mk (below_step HB.out hb); have n2_ := Aside0.mk (H1.out.below hb); have n3_ := Aside0.mk (H2.out.below hb); clear HB H1 H2 z0 z1 hb; have HB := n1_; have H1 := n2_; have H2 := n3_; clear n1_ n2_ n3_; have z0 := H1.out.cell 0; have z1 := H1.out.cell 1; simp only [List.getElem?_cons_succ, List.getElem?_cons_zero] at z0 z1)
    | (go_at_call 20; refine (core_Size.calls kf A c l st (sizeL l) _ (Kd.C_below HR.out HB.out) HC.out HSZ.out).mono ?_; rintro e w4 ⟨rfl, hb⟩; have n1_ := Aside0.mk (below_step HB.out hb); have n2_ := Aside0.mk (H1.out.below hb); have n3_ := Aside0.mk (H2.out.below hb); clear HB H1 H2 z0 z1 hb; have HB := n1_; have H1 := n2_; have H2 := n3_; clear n1_ n2_ n3_; have z0 := H1.out.cell 0; have z1 := H1.out.cell 1; simp only [List.getElem?_cons_succ, List.getElem?_cons_zero] at z0 z1)
    | ((with_reducible refine gate_dst (N := 4) rfl ?_); refine box_event (N := 4) rfl rfl (cs := #[.slice none 0 0, .slice none 0 0]) (t := 61) ?hr1 ?_; (case hr1 => first | (go_simp; done) | (go_simp; rfl)); intro g4 hg4 w5 hbox hb; have HO := Aside0.mk (show OI w w5 g1 g2 g4 A c st l (.slice none 0 0) (fun _ => .slice none 0 0) (fun _ => w.heap.size) 0 from ⟨below_step HB.out hb, H1.out.below hb, H2.out.below hb, ⟨_, hbox, rfl⟩, ⟨HG1.out, HG2.out.1, by have := HB.out.size; omega, by have := H1.out.lt; omega, by have := H2.out.lt; omega⟩, GAt.nil (by have := HB.out.size; have := hb.size; omega)⟩); clear HB H1 H2 z0 z1 hbox hb hg4; have z0 := HO.out.b1.cell 0; have z1 := HO.out.b1.cell 1; simp only [List.getElem?_cons_succ, List.getElem?_cons_zero] at z0 z1))
  clear z0 z1
  go_loopw [5, 25] (fun v5 v25 wr => ∃ (i : Nat) (vr : Value) (bv : Nat → Value) (s : Nat → Nat) (dp : Bool), v25 = .int .i64 (i : Int) ∧ v5 = .bool dp ∧ Aside0 (i ≤ l.length) ∧ Aside0 (dp = true ↔ ∃ k, k < i ∧ 100 < nst k) ∧ Aside0 (OI w wr g1 g2 g4 A c st l vr bv s i)) (fun _ v25 _ => l.length - (intOf v25).toNat)
  case atStart => exact ⟨0, _, _, _, false, rfl, rfl, ⟨Nat.zero_le _⟩, ⟨⟨fun h => (by cases h), fun ⟨k, hk, _⟩ => absurd hk (by omega)⟩⟩, HO⟩
  case round =>
    clear HO
    obtain ⟨i, vr, bv, s, dp, rfl, rfl, HI, HD, HO⟩ := hrel
    obtain ⟨wo, hwo⟩ : ∃ wo, wo = wr := ⟨_, rfl⟩
    subst hwo
    have hil : i ≤ 256 := by have := HI.out; have := HLN.out; omega
    by_cases c1 : i < l.length
    · have k2 : decide ((i : Int) < (l.length : Int)) = true := decide_eq_true (by omega)
      have HIL := Aside0.mk c1
      obtain ⟨ad, A1, d1, he, x0, x1, hd1, hk1⟩ := at_T30 (Kd.C_below HR.out HO.out.old) (i : Int) (by omega) (by omega)
      cases he
      simp only [Int.toNat_natCast] at x0 x1
      have HK1 := Aside0.mk hk1
      have HD1 := Aside0.mk hd1
      clear hd1 hk1
      obtain ⟨n1, hn1⟩ : ∃ n, (rd_T30 l (i : Int)).f1.length = n := ⟨_, rfl⟩
      have HN1 := Aside0.mk hn1
      have HN4 := Aside0.mk (show n1 ≤ 4096 from hn1 ▸ HBL.out i c1)
      clear hn1
      go_wp2_with (first
        | ((with_reducible refine gate_dst (N := 7) rfl ?_); refine box_event (N := 7) rfl rfl (cs := #[.string (⟨#[]⟩ : ByteArray), .slice none 0 0]) (t := 30) ?hr1 ?_; (case hr1 => first | (go_simp; done) | (go_simp; rfl)); intro g7 hg7 w6 hbox hb; have H7 := Aside0.mk (show RowAt w6 g7 30 [.string (⟨#[]⟩ : ByteArray), .slice none 0 0] from ⟨_, hbox, rfl⟩); have HG7 := Aside0.mk (show wo.heap.size ≤ g7 by omega); have HB6 := Aside0.mk hb; clear hbox hb hg7 x0 x1; refine put_event rfl rfl 30 (.tmp 7) (.tmp 28) rfl (off := 0) (u := .agg #[.string (rd_T30 l (i : Int)).f0, .slice A1 (rd_T30 l (i : Int)).f1.length d1]) (seg := [.string (rd_T30 l (i : Int)).f0, .slice A1 (rd_T30 l (i : Int)).f1.length d1]) rfl rfl H7.out rfl (by kernel_rfl) (by simp) qGrammarWalk_0 ?_; intro w7 hrow hgr; have HII := Aside0.mk (show II wo w7 g7 l i 0 A1 d1 (.slice none 0 0) from ⟨pw_below_grown HB6.out (some g7) HB6.out.size hgr (fun k hk => by injection hk with hk; have := HG7.out; omega), hrow, HG7.out, World.ownsRow_nil _ _ _ _⟩); clear H7 HB6 hrow hgr; have y0 := HII.out.b7.cell 0; have y1 := HII.out.b7.cell 1; simp only [List.getElem?_cons_succ, List.getElem?_cons_zero] at y0 y1))
      clear y0 y1
      go_loopw [8, 32] (fun v8 v32 wi => ∃ (j : Nat) (ve : Value), v32 = .int .i64 (j : Int) ∧ v8 = ve ∧ Aside0 (j ≤ n1) ∧ Aside0 (II wo wi g7 l i j A1 d1 ve)) (fun _ v32 _ => n1 - (intOf v32).toNat)
      case atStart => exact ⟨0, _, rfl, rfl, ⟨Nat.zero_le _⟩, HII⟩
      case round =>
        clear HII
        obtain ⟨j, ve, rfl, rfl, HJ, HII⟩ := hrel
        have hjl : j ≤ 4096 := by have := HJ.out; have := HN4.out; omega
        by_cases c2 : j < n1
        · have k3 : decide ((j : Int) < ((rd_T30 l (i : Int)).f1.length : Int)) = true := decide_eq_true qGrammarWalk_2
          have k3n : decide (j < (rd_T30 l (i : Int)).f1.length) = true := decide_eq_true qGrammarWalk_2
          have q3n : (j < (rd_T30 l (i : Int)).f1.length) = True := eq_true qGrammarWalk_2
          have HJL := Aside0.mk c2
          obtain ⟨ad1, he, x0, x1, x2, x3, x4, x5, x6⟩ := at_T90 (Kd.C_below HK1.out HII.out.old) (j : Int) (by omega) qGrammarWalk_2
          cases he
          simp only [Int.toNat_natCast] at x0 x1 x2 x3 x4 x5 x6
          obtain ⟨x, hx⟩ : ∃ x, rd_T90 (rd_T30 l (i : Int)).f1 (j : Int) = x := ⟨_, rfl⟩
          rw [hx] at x0 x1 x2 x3 x4 x5 x6
          have HX := Aside0.mk hx
          clear hx
          go_wp2_with (first
            | ((with_reducible refine gate_dst (N := 10) rfl ?_); refine box_event (N := 10) rfl rfl (cs := #[.int .i64 0, .int .u64 0, .int .u64 0, .int .u64 0, .int .u64 0, .int .i64 0, .string (⟨#[]⟩ : ByteArray)]) (t := 90) ?hr1 ?_; (case hr1 => first | (go_simp; done) | (go_simp; rfl)); intro g10 hg10 w8 hbox hb; have H10 := Aside0.mk (show RowAt w8 g10 90 [.int .i64 0, .int .u64 0, .int .u64 0, .int .u64 0, .int .u64 0, .int .i64 0, .string (⟨#[]⟩ : ByteArray)] from ⟨_, hbox, rfl⟩); have HG10 := Aside0.mk (show wo.heap.size ≤ g10 ∧ g7 < g10 by have := HII.out.old.size; have := HII.out.b7.lt; omega); have n1_ := Aside0.mk (HII.out.below hb); clear HII hbox hb hg10 x0 x1 x2 x3 x4 x5 x6; have HII := n1_; clear n1_; refine put_event rfl rfl 90 (.tmp 10) (.tmp 35) rfl (off := 0) (u := .agg #[.int .i64 x.f0, .int .u64 x.f1.f0, .int .u64 x.f1.f1, .int .u64 x.f1.f2, .int .u64 x.f1.f3, .int .i64 x.f2, .string x.f3]) (seg := nodeCells x) rfl rfl H10.out rfl (by kernel_rfl) (by simp [nodeCells]) (by simp [nodeCells, Value.oneCell']) ?_; intro w9 hrow hgr; have n1_ := Aside0.mk (HII.out.put H10.out (by decide) HG10.out.1 (by have := HG10.out.2; omega) hgr); have n2_ := Aside0.mk (show RowAt w9 g10 90 (nodeCells x) from hrow); clear H10 HII hrow hgr; have H10 := n2_; have HII := n1_; clear n1_ n2_))
          have hgb : (body l i)[j]? = some x := by
            have hj : j < (body l i).length := by have := HN1.out; unfold body; omega
            rw [List.getElem?_eq_getElem hj, ← HX.out]
            exact congrArg some (rdN (body l i) j hj).symm
          have HGB := Aside0.mk hgb
          have HGET := Aside0.mk (show (nods l i)[j]? = some (nodOf l x) by rw [nods, List.getElem?_map, hgb]; rfl)
          clear hgb
          have HC10 := Aside0.mk (fun (W : World) (hW : Below w9.heap.size w9 W) => (H10.out.below hW))
          refine wp_region_held_drew (S := fun W => Below w9.heap.size w9 W) (by kernel_rfl) (below_drew (Below.refl _ _)) (fun hH => ?_)
          generalize w9.drew = w15 at *
          refine wpAnyH_take (i := 0) (oi := _) (v := .pointer (some ⟨g10, 0, none⟩)) rfl (by kernel_rfl) (by kernel_rfl) (by kernel_rfl) (fun _ _ _ h => h) (Or.inl ⟨by rfl, fun w hw => by go_simp⟩) hH ?_; simp only [List.getElem_toArray, List.getElem_cons_zero, List.getElem_cons_succ, Act.put, List.setIfInBounds_toArray, List.set_cons_zero, List.set_cons_succ]
          refine wpAnyH_take (i := 3) (oi := _) (v := .pointer (some ⟨g10, 1, none⟩)) rfl (by kernel_rfl) (by kernel_rfl) (by kernel_rfl) (fun _ _ _ h => h) (Or.inl ⟨by rfl, fun w hw => by go_simp⟩) hH ?_; simp only [List.getElem_toArray, List.getElem_cons_zero, List.getElem_cons_succ, Act.put, List.setIfInBounds_toArray, List.set_cons_zero, List.set_cons_succ]
          refine wpAnyH_take (i := 5) (oi := _) (v := .pointer (some ⟨g10, 6, none⟩)) rfl (by kernel_rfl) (by kernel_rfl) (by kernel_rfl) (fun _ _ _ h => h) (Or.inl ⟨by rfl, fun w hw => by go_simp⟩) hH ?_; simp only [List.getElem_toArray, List.getElem_cons_zero, List.getElem_cons_succ, Act.put, List.setIfInBounds_toArray, List.set_cons_zero, List.set_cons_succ]
          refine wpAnyH_take (i := 1) (oi := _) (v := .int .i64 x.f0) rfl (by kernel_rfl) (by kernel_rfl) (by kernel_rfl) (fun _ _ _ h => h) (Or.inl ⟨by rfl, fun w hw => by (have z0 := (HC10.out w hw).cell 0; simp only [nodeCells, List.getElem?_cons_succ, List.getElem?_cons_zero] at z0; go_simp)⟩) hH ?_; simp only [List.getElem_toArray, List.getElem_cons_zero, List.getElem_cons_succ, Act.put, List.setIfInBounds_toArray, List.set_cons_zero, List.set_cons_succ]
          refine wpAnyH_take (i := 4) (oi := _) (v := .agg #[.int .u64 x.f1.f0, .int .u64 x.f1.f1, .int .u64 x.f1.f2, .int .u64 x.f1.f3]) rfl (by kernel_rfl) (by kernel_rfl) (by kernel_rfl) (fun _ _ _ h => h) (Or.inl ⟨by rfl, fun w hw => by (have z0 := (HC10.out w hw).cell 1; have z1 := (HC10.out w hw).cell 2; have z2 := (HC10.out w hw).cell 3; have z3 := (HC10.out w hw).cell 4; simp only [nodeCells, List.getElem?_cons_succ, List.getElem?_cons_zero] at z0 z1 z2 z3; go_simp)⟩) hH ?_; simp only [List.getElem_toArray, List.getElem_cons_zero, List.getElem_cons_succ, Act.put, List.setIfInBounds_toArray, List.set_cons_zero, List.set_cons_succ]
          refine wpAnyH_take (i := 6) (oi := _) (v := .string x.f3) rfl (by kernel_rfl) (by kernel_rfl) (by kernel_rfl) (fun _ _ _ h => h) (Or.inl ⟨by rfl, fun w hw => by (have z0 := (HC10.out w hw).cell 6; simp only [nodeCells, List.getElem?_cons_succ, List.getElem?_cons_zero] at z0; go_simp)⟩) hH ?_; simp only [List.getElem_toArray, List.getElem_cons_zero, List.getElem_cons_succ, Act.put, List.setIfInBounds_toArray, List.set_cons_zero, List.set_cons_succ]
          refine wpAnyH_ready (rs := [2, 8]) (by kernel_rfl) (by simp) ?_
          refine AllReadyH.cons (o := _) rfl (fun K hK => ?A14) (AllReadyH.cons (o := _) rfl (fun K hK => ?B14) AllReadyH.nil)
          case' A14 =>
            refine rstep_call (w1 := w15) (by rfl) (by go_simp) (core_arity.calls kf x.f0 (ar x.f0) w15 (HAR.out x.f0)) ?_
            rintro _ w16 ⟨rfl, hd⟩
            refine ⟨_, rfl, ?_⟩
            have hH6 := below_step hH hd.below
            refine hK.out _ _ hH6 (fun _ => ?_)
            clear hK K hH hd
            have hH := hH6
            clear hH6
            simp only [List.getElem_toArray, List.getElem_cons_zero, List.getElem_cons_succ, Act.put, List.setIfInBounds_toArray, List.set_cons_zero, List.set_cons_succ]
            refine wpAnyH_take (i := 7) (oi := _) (v := .agg #[.int .i64 0, .int .i64 (ar x.f0), .string x.f3, .bool false, .int .u64 x.f1.f0, .int .u64 x.f1.f1, .int .u64 x.f1.f2, .int .u64 x.f1.f3, .int .i64 0, .int .i64 0]) rfl (by kernel_rfl) (by kernel_rfl) (by kernel_rfl) (fun _ _ _ h => h) (Or.inl ⟨by rfl, fun w hw => by go_simp⟩) hH ?_; simp only [List.getElem_toArray, List.getElem_cons_zero, List.getElem_cons_succ, Act.put, List.setIfInBounds_toArray, List.set_cons_zero, List.set_cons_succ]
            refine wpAnyH_ready (rs := [8]) (by kernel_rfl) (by simp) ?_; refine AllReadyH.cons (o := _) rfl (fun K hK => ?_) AllReadyH.nil
            refine rstep_value (v := .pointer (some ⟨w16.heap.size, 0, none⟩)) (w' := w16.alloc (.cells #[.int .i64 0, .int .i64 0, .string (⟨#[]⟩ : ByteArray), .bool false, .int .u64 0, .int .u64 0, .int .u64 0, .int .u64 0, .int .i64 0, .int .i64 0] 122)) (by rfl) (by go_simp) ?_
            have H11 := Aside0.mk (show RowAt (w16.alloc (.cells #[.int .i64 0, .int .i64 0, .string (⟨#[]⟩ : ByteArray), .bool false, .int .u64 0, .int .u64 0, .int .u64 0, .int .u64 0, .int .i64 0, .int .i64 0] 122)) w16.heap.size 122 [.int .i64 0, .int .i64 0, .string (⟨#[]⟩ : ByteArray), .bool false, .int .u64 0, .int .u64 0, .int .u64 0, .int .u64 0, .int .i64 0, .int .i64 0] from ⟨_, heap_alloc_new _ _, rfl⟩)
            have HG11 := Aside0.mk hH.size
            have hH6 := below_alloc hH (.cells #[.int .i64 0, .int .i64 0, .string (⟨#[]⟩ : ByteArray), .bool false, .int .u64 0, .int .u64 0, .int .u64 0, .int .u64 0, .int .i64 0, .int .i64 0] 122)
            refine hK.out _ _ hH6 (fun _ => ?_)
            clear hK K hH
            have hH := hH6
            clear hH6
            simp only [List.getElem_toArray, List.getElem_cons_zero, List.getElem_cons_succ, Act.put, List.setIfInBounds_toArray, List.set_cons_zero, List.set_cons_succ]
            generalize w16.alloc (.cells #[.int .i64 0, .int .i64 0, .string (⟨#[]⟩ : ByteArray), .bool false, .int .u64 0, .int .u64 0, .int .u64 0, .int .u64 0, .int .i64 0, .int .i64 0] 122) = w18 at *
            generalize w16.heap.size = g11 at *
          case' B14 =>
            refine rstep_value (v := .pointer (some ⟨w15.heap.size, 0, none⟩)) (w' := w15.alloc (.cells #[.int .i64 0, .int .i64 0, .string (⟨#[]⟩ : ByteArray), .bool false, .int .u64 0, .int .u64 0, .int .u64 0, .int .u64 0, .int .i64 0, .int .i64 0] 122)) (by rfl) (by go_simp) ?_
            have H11 := Aside0.mk (show RowAt (w15.alloc (.cells #[.int .i64 0, .int .i64 0, .string (⟨#[]⟩ : ByteArray), .bool false, .int .u64 0, .int .u64 0, .int .u64 0, .int .u64 0, .int .i64 0, .int .i64 0] 122)) w15.heap.size 122 [.int .i64 0, .int .i64 0, .string (⟨#[]⟩ : ByteArray), .bool false, .int .u64 0, .int .u64 0, .int .u64 0, .int .u64 0, .int .i64 0, .int .i64 0] from ⟨_, heap_alloc_new _ _, rfl⟩)
            have HG11 := Aside0.mk hH.size
            have hH6 := below_alloc hH (.cells #[.int .i64 0, .int .i64 0, .string (⟨#[]⟩ : ByteArray), .bool false, .int .u64 0, .int .u64 0, .int .u64 0, .int .u64 0, .int .i64 0, .int .i64 0] 122)
            refine hK.out _ _ hH6 (fun _ => ?_)
            clear hK K hH
            have hH := hH6
            clear hH6
            simp only [List.getElem_toArray, List.getElem_cons_zero, List.getElem_cons_succ, Act.put, List.setIfInBounds_toArray, List.set_cons_zero, List.set_cons_succ]
            generalize w15.alloc (.cells #[.int .i64 0, .int .i64 0, .string (⟨#[]⟩ : ByteArray), .bool false, .int .u64 0, .int .u64 0, .int .u64 0, .int .u64 0, .int .i64 0, .int .i64 0] 122) = w16 at *
            generalize w15.heap.size = g11 at *
            refine wpAnyH_ready (rs := [2]) (by kernel_rfl) (by simp) ?_; refine AllReadyH.cons (o := _) rfl (fun K hK => ?_) AllReadyH.nil
            refine rstep_call (w1 := w16) (by rfl) (by go_simp) (core_arity.calls kf x.f0 (ar x.f0) w16 (HAR.out x.f0)) ?_
            rintro _ w18 ⟨rfl, hd⟩
            refine ⟨_, rfl, ?_⟩
            have hH6 := below_step hH hd.below
            have n1_ := Aside0.mk (H11.out.below hd.below)
            refine hK.out _ _ hH6 (fun _ => ?_)
            clear hK K hH hd H11
            have hH := hH6
            have H11 := n1_
            clear hH6 n1_
            simp only [List.getElem_toArray, List.getElem_cons_zero, List.getElem_cons_succ, Act.put, List.setIfInBounds_toArray, List.set_cons_zero, List.set_cons_succ]
            refine wpAnyH_take (i := 7) (oi := _) (v := .agg #[.int .i64 0, .int .i64 (ar x.f0), .string x.f3, .bool false, .int .u64 x.f1.f0, .int .u64 x.f1.f1, .int .u64 x.f1.f2, .int .u64 x.f1.f3, .int .i64 0, .int .i64 0]) rfl (by kernel_rfl) (by kernel_rfl) (by kernel_rfl) (fun _ _ _ h => h) (Or.inl ⟨by rfl, fun w hw => by go_simp⟩) hH ?_; simp only [List.getElem_toArray, List.getElem_cons_zero, List.getElem_cons_succ, Act.put, List.setIfInBounds_toArray, List.set_cons_zero, List.set_cons_succ]
          all_goals
            refine wpAnyH_ready (rs := [9]) (by kernel_rfl) (by simp) ?_; refine AllReadyH.cons (o := _) rfl (fun K hK => ?_) AllReadyH.nil
            refine rstep_store (by rfl) 122 (.tmp 11) (.tmp 43) rfl (g := g11) (off := 0) (u := .agg #[.int .i64 0, .int .i64 (ar x.f0), .string x.f3, .bool false, .int .u64 x.f1.f0, .int .u64 x.f1.f1, .int .u64 x.f1.f2, .int .u64 x.f1.f3, .int .i64 0, .int .i64 0]) (seg := [.int .i64 0, .int .i64 (ar x.f0), .string x.f3, .bool false, .int .u64 x.f1.f0, .int .u64 x.f1.f1, .int .u64 x.f1.f2, .int .u64 x.f1.f3, .int .i64 0, .int .i64 0]) rfl rfl H11.out rfl (by kernel_rfl) (by simp) qGrammarWalk_0 ?_
            intro w20 hrow hgr
            have n1_ := pw_below_grown hH (some g11) (by have := hH.size; omega) hgr (fun k hk => by injection hk with hk; have := HG11.out; omega)
            have n2_ := Aside0.mk (show RowAt w20 g11 122 [.int .i64 0, .int .i64 (ar x.f0), .string x.f3, .bool false, .int .u64 x.f1.f0, .int .u64 x.f1.f1, .int .u64 x.f1.f2, .int .u64 x.f1.f3, .int .i64 0, .int .i64 0] from hrow)
            clear hH H11 hrow hgr
            have hH := n1_
            have H11 := n2_
            clear n1_ n2_
            refine hK.out _ _ hH (fun _ => ?_); clear hK K; simp only [List.getElem_toArray, List.getElem_cons_zero, List.getElem_cons_succ, Act.put, List.setIfInBounds_toArray, List.set_cons_zero, List.set_cons_succ]
            refine wpAnyH_done (by kernel_rfl) ?_ _
            have HB9 := Aside0.mk hH
            clear hH
            have HOX := Aside0.mk (HOP.out i c1 x (List.mem_of_getElem? HGB.out))
            have h9 : x.f0 = 0 ∨ x.f0 = 1 ∨ x.f0 = 2 ∨ x.f0 = 3 ∨ x.f0 = 4 ∨ x.f0 = 5 ∨ x.f0 = 6 ∨ x.f0 = 7 ∨ x.f0 = 8 := by have := HOX.out; omega
            by_cases e : x.f0 = 2
          iterate 2
            case pos =>
              have q0 := (HC10.out _ HB9.out).cell 0
              simp only [nodeCells, List.getElem?_cons_zero] at q0
              rw [e] at q0
              clear h9
              go_wp2
              obtain ⟨q, hq, cq⟩ : ∃ q : Nat, x.f2 = (q : Int) ∧ q < l.length := by have := HOX.out.2.2 e; exact ⟨x.f2.toNat, by omega, by omega⟩
              have HCW := Aside0.mk (show ∀ W : World, Below g11 w20 W → RowAt W g1 24 [.slice (some ad) l.length c, .int .i64 st] ∧ RowAt W g10 90 (nodeCells x) ∧ Below w.heap.size w W from fun W hW => by
                have hg11 := HG11.out
                have h91 := HB9.out.size
                have e1 := (HII.out.below HB9.out).old
                have e2 := HO.out.below e1
                have e3 := H10.out.below HB9.out
                refine ⟨?_, ?_, e2.old.trans (hW.mono (by have := HO.out.old.size; have := HII.out.old.size; omega))⟩
                · obtain ⟨cur, hh, hcur⟩ := e2.b1
                  exact ⟨cur, (hW.block g1 (by have := HO.out.b1.lt; have := HII.out.old.size; omega)).trans hh, hcur⟩
                · obtain ⟨cur, hh, hcur⟩ := e3
                  exact ⟨cur, (hW.block g10 (by have := H10.out.lt; omega)).trans hh, hcur⟩)
              refine wp_region_held_drew (S := fun W => Below g11 w20 W) (by kernel_rfl) (below_drew (Below.refl _ _)) (fun hH => ?_)
              have n1_ := Aside0.mk (below_step HB9.out (below_drew (Below.refl _ _)))
              have n2_ := Aside0.mk (H11.out.below (below_drew (Below.refl _ _)))
              clear H11 HB9 q0
              have H11 := n2_
              have HB9 := n1_
              clear n1_ n2_
              generalize w20.drew = w25 at *
              refine wpAnyH_take (i := 0) (oi := _) (v := .pointer (some ⟨g1, 0, none⟩)) rfl (by kernel_rfl) (by kernel_rfl) (by kernel_rfl) (fun _ _ _ h => h) (Or.inl ⟨by rfl, fun w hw => by go_simp⟩) hH ?_; simp only [List.getElem_toArray, List.getElem_cons_zero, List.getElem_cons_succ, Act.put, List.setIfInBounds_toArray, List.set_cons_zero, List.set_cons_succ]
              refine wpAnyH_take (i := 2) (oi := _) (v := .pointer (some ⟨g10, 5, none⟩)) rfl (by kernel_rfl) (by kernel_rfl) (by kernel_rfl) (fun _ _ _ h => h) (Or.inl ⟨by rfl, fun w hw => by go_simp⟩) hH ?_; simp only [List.getElem_toArray, List.getElem_cons_zero, List.getElem_cons_succ, Act.put, List.setIfInBounds_toArray, List.set_cons_zero, List.set_cons_succ]
              refine wpAnyH_take (i := 7) (oi := _) (v := .pointer (some ⟨g11, 0, none⟩)) rfl (by kernel_rfl) (by kernel_rfl) (by kernel_rfl) (fun _ _ _ h => h) (Or.inl ⟨by rfl, fun w hw => by go_simp⟩) hH ?_; simp only [List.getElem_toArray, List.getElem_cons_zero, List.getElem_cons_succ, Act.put, List.setIfInBounds_toArray, List.set_cons_zero, List.set_cons_succ]
              refine wpAnyH_take (i := 1) (oi := _) (v := .slice (some ad) l.length c) rfl (by kernel_rfl) (by kernel_rfl) (by kernel_rfl) (fun _ _ _ h => h) (Or.inl ⟨by rfl, fun w hw => by (have z0 := (HCW.out w hw).1.cell 0; simp only [List.getElem?_cons_zero] at z0; go_simp)⟩) hH ?_; simp only [List.getElem_toArray, List.getElem_cons_zero, List.getElem_cons_succ, Act.put, List.setIfInBounds_toArray, List.set_cons_zero, List.set_cons_succ]
              refine wpAnyH_take (i := 3) (oi := _) (v := .int .i64 x.f2) rfl (by kernel_rfl) (by kernel_rfl) (by kernel_rfl) (fun _ _ _ h => h) (Or.inl ⟨by rfl, fun w hw => by (have z0 := (HCW.out w hw).2.1.cell 5; simp only [nodeCells, List.getElem?_cons_succ, List.getElem?_cons_zero] at z0; go_simp)⟩) hH ?_; simp only [List.getElem_toArray, List.getElem_cons_zero, List.getElem_cons_succ, Act.put, List.setIfInBounds_toArray, List.set_cons_zero, List.set_cons_succ]
              rw [hq]
              refine wpAnyH_take (i := 4) (oi := _) (v := .pointer (some (ad.add (q * 2)))) rfl (by kernel_rfl) (by kernel_rfl) (by kernel_rfl) (fun _ _ _ h => h) (Or.inl ⟨by rfl, fun w hw => by go_simp⟩) hH ?_; simp only [List.getElem_toArray, List.getElem_cons_zero, List.getElem_cons_succ, Act.put, List.setIfInBounds_toArray, List.set_cons_zero, List.set_cons_succ]
              refine wpAnyH_take (i := 5) (oi := _) (v := .pointer (some (ad.add (q * 2)))) rfl (by kernel_rfl) (by kernel_rfl) (by kernel_rfl) (fun _ _ _ h => h) (Or.inl ⟨by rfl, fun w hw => by go_simp⟩) hH ?_; simp only [List.getElem_toArray, List.getElem_cons_zero, List.getElem_cons_succ, Act.put, List.setIfInBounds_toArray, List.set_cons_zero, List.set_cons_succ]
              refine wpAnyH_take (i := 6) (oi := _) (v := .string (rd_T30 l (q : Int)).f0) rfl (by kernel_rfl) (by kernel_rfl) (by kernel_rfl) (fun _ _ _ h => h) (Or.inl ⟨by rfl, fun w hw => by (obtain ⟨ad', A', c', he, z0, z1, _, _⟩ := at_T30 (Kd.C_below HR.out (HCW.out w hw).2.2) (q : Int) (by omega) (by omega); cases he; simp only [Int.toNat_natCast] at z0; go_simp)⟩) hH ?_; simp only [List.getElem_toArray, List.getElem_cons_zero, List.getElem_cons_succ, Act.put, List.setIfInBounds_toArray, List.set_cons_zero, List.set_cons_succ]
              refine wpAnyH_ready (rs := [8]) (by kernel_rfl) (by simp) ?_; refine AllReadyH.cons (o := _) rfl (fun K hK => ?_) AllReadyH.nil
              refine rstep_store (by rfl) 3 (.tmp 61) (.const (.int .i64 4)) rfl (g := g11) (off := 0) (u := .int .i64 4) (seg := [.int .i64 4]) rfl rfl H11.out rfl (by kernel_rfl) (by simp) qGrammarWalk_0 ?_
              intro w26 hrow hgr
              have n1_ := pw_below_grown hH (some g11) (by have := HG11.out; have := H11.out.lt; omega) hgr (fun k hk => by injection hk with hk; omega)
              have n2_ := Aside0.mk hrow
              have n3_ := Aside0.mk (pw_below_grown HB9.out (some g11) qGrammarWalk_1 hgr (fun k hk => by injection hk with hk; have := HG11.out; omega))
              clear hH H11 HB9 hrow hgr
              have hH := n1_
              have H11 := n2_
              have HB9 := n3_
              clear n1_ n2_ n3_
              refine hK.out _ _ hH (fun _ => ?_); clear hK K; simp only [List.getElem_toArray, List.getElem_cons_zero, List.getElem_cons_succ, Act.put, List.setIfInBounds_toArray, List.set_cons_zero, List.set_cons_succ]
              refine wpAnyH_take (i := 9) (oi := _) (v := .pointer (some ⟨g11, 2, none⟩)) rfl (by kernel_rfl) (by kernel_rfl) (by kernel_rfl) (fun _ _ _ h => h) (Or.inl ⟨by rfl, fun w hw => by go_simp⟩) hH ?_; simp only [List.getElem_toArray, List.getElem_cons_zero, List.getElem_cons_succ, Act.put, List.setIfInBounds_toArray, List.set_cons_zero, List.set_cons_succ]
              refine wpAnyH_ready (rs := [10]) (by kernel_rfl) (by simp) ?_; refine AllReadyH.cons (o := _) rfl (fun K hK => ?_) AllReadyH.nil
              refine rstep_store (by rfl) 9 (.tmp 62) (.tmp 60) rfl (g := g11) (off := 2) (u := .string (rd_T30 l (q : Int)).f0) (seg := [.string (rd_T30 l (q : Int)).f0]) rfl rfl H11.out rfl (by kernel_rfl) (by simp) qGrammarWalk_0 ?_
              intro w27 hrow hgr
              have n1_ := pw_below_grown hH (some g11) (by have := H11.out.lt; omega) hgr (fun k hk => by injection hk with hk; omega)
              have n2_ := Aside0.mk (show RowAt w27 g11 122 (nodCells (nodOf l x)) by (rw [show nodCells (nodOf l x) = [.int .i64 4, .int .i64 (ar x.f0), .string (rd_T30 l (q : Int)).f0, .bool false, .int .u64 x.f1.f0, .int .u64 x.f1.f1, .int .u64 x.f1.f2, .int .u64 x.f1.f3, .int .i64 0, .int .i64 0] by simp [nodCells, nodOf, opN, e, hq]]; exact hrow))
              have n3_ := Aside0.mk (pw_below_grown HB9.out (some g11) qGrammarWalk_1 hgr (fun k hk => by injection hk with hk; have := HG11.out; omega))
              clear hH H11 HB9 hrow hgr
              have hH := n1_
              have H11 := n2_
              have HB9 := n3_
              clear n1_ n2_ n3_
              refine hK.out _ _ hH (fun _ => ?_); clear hK K; simp only [List.getElem_toArray, List.getElem_cons_zero, List.getElem_cons_succ, Act.put, List.setIfInBounds_toArray, List.set_cons_zero, List.set_cons_succ]
              refine wpAnyH_done (by kernel_rfl) ?_ _
              (have y0 := H11.out.cell 0; have y1 := H11.out.cell 1; have y2 := H11.out.cell 2; have y3 := H11.out.cell 3; have y4 := H11.out.cell 4; have y5 := H11.out.cell 5; have y6 := H11.out.cell 6; have y7 := H11.out.cell 7; have y8 := H11.out.cell 8; have y9 := H11.out.cell 9; simp only [nodCells, List.getElem?_cons_succ, List.getElem?_cons_zero] at y0 y1 y2 y3 y4 y5 y6 y7 y8 y9)
              clear hH e hq cq
              go_wp2_with (first
                | ((with_reducible refine gate_builtin (b := .append) (xs := #[.tmp 81, .tmp 83]) rfl ?_); at_builtin; refine print_append_cells wo.heap.size rfl (.tmp 81) (.tmp 83) 120 122 (.agg #[.int .i64 0, .int .i64 0, .string (⟨#[]⟩ : ByteArray), .bool false, .int .u64 0, .int .u64 0, .int .u64 0, .int .u64 0, .int .i64 0, .int .i64 0]) 10 88 rfl Try.underlying120 (by kernel_rfl) rfl (by decide) (by decide) u8 j (((nods l i).take j).flatMap nodCells) (nodCells (nodOf l x)) rfl rfl rfl (by simp [nodCells, Value.oneCell']) (HII.out.below HB9.out).own (Below.refl _ _) (HII.out.below HB9.out).old.size (by omega) ?_; intro v5 w22 hown hbel hgr hat; have n1_ := Aside0.mk ((HII.out.below HB9.out).add HGET.out hown hgr); clear HII HB9 H11 hown hbel hgr hat y0 y1 y2 y3 y4 y5 y6 y7 y8 y9; have HII := n1_; clear n1_))
              go_roundw
              case measure => have := HJL.out; simp [intOf]; omega
              case rel => exact ⟨j + 1, v5, by go_num, rfl, ⟨HJL.out⟩, HII⟩
          all_goals
            rcases h9 with e1 | e1 | e1 | e1 | e1 | e1 | e1 | e1 | e1
          all_goals
            first
              | exact absurd e1 e
              | (have q0 := (HC10.out _ HB9.out).cell 0; simp only [nodeCells, List.getElem?_cons_zero] at q0; rw [e1] at q0; clear e
                 go_wp2_with (first
                   | ((with_reducible refine gate_store (t := 3) (p := 48) rfl ?_); refine put_event rfl rfl 3 (.tmp 48) (.const (.int .i64 0)) rfl (g := g11) (off := 0) (u := .int .i64 0) (seg := [.int .i64 0]) rfl rfl H11.out rfl (by kernel_rfl) (by simp) qGrammarWalk_0 ?_; (intro w21 hrow hgr; have n1_ := Aside0.mk (pw_below_grown HB9.out (some g11) qGrammarWalk_1 hgr (fun k hk => by injection hk with hk; have := HG11.out; omega)); have n2_ := Aside0.mk (show RowAt w21 g11 122 (nodCells (nodOf l x)) by (rw [show nodCells (nodOf l x) = [.int .i64 0, .int .i64 (ar x.f0), .string x.f3, .bool false, .int .u64 x.f1.f0, .int .u64 x.f1.f1, .int .u64 x.f1.f2, .int .u64 x.f1.f3, .int .i64 0, .int .i64 0] by simp [nodCells, nodOf, opN, e1]]; exact hrow)); clear HB9 H11 hrow hgr q0; have HB9 := n1_; have H11 := n2_; clear n1_ n2_); (have y0 := H11.out.cell 0; have y1 := H11.out.cell 1; have y2 := H11.out.cell 2; have y3 := H11.out.cell 3; have y4 := H11.out.cell 4; have y5 := H11.out.cell 5; have y6 := H11.out.cell 6; have y7 := H11.out.cell 7; have y8 := H11.out.cell 8; have y9 := H11.out.cell 9; simp only [nodCells, List.getElem?_cons_succ, List.getElem?_cons_zero] at y0 y1 y2 y3 y4 y5 y6 y7 y8 y9))
                   | ((with_reducible refine gate_store (t := 3) (p := 51) rfl ?_); refine put_event rfl rfl 3 (.tmp 51) (.const (.int .i64 2)) rfl (g := g11) (off := 0) (u := .int .i64 2) (seg := [.int .i64 2]) rfl rfl H11.out rfl (by kernel_rfl) (by simp) qGrammarWalk_0 ?_; (intro w21 hrow hgr; have n1_ := Aside0.mk (pw_below_grown HB9.out (some g11) qGrammarWalk_1 hgr (fun k hk => by injection hk with hk; have := HG11.out; omega)); have n2_ := Aside0.mk (show RowAt w21 g11 122 (nodCells (nodOf l x)) by (rw [show nodCells (nodOf l x) = [.int .i64 2, .int .i64 (ar x.f0), .string x.f3, .bool false, .int .u64 x.f1.f0, .int .u64 x.f1.f1, .int .u64 x.f1.f2, .int .u64 x.f1.f3, .int .i64 0, .int .i64 0] by simp [nodCells, nodOf, opN, e1]]; exact hrow)); clear HB9 H11 hrow hgr q0; have HB9 := n1_; have H11 := n2_; clear n1_ n2_); (have y0 := H11.out.cell 0; have y1 := H11.out.cell 1; have y2 := H11.out.cell 2; have y3 := H11.out.cell 3; have y4 := H11.out.cell 4; have y5 := H11.out.cell 5; have y6 := H11.out.cell 6; have y7 := H11.out.cell 7; have y8 := H11.out.cell 8; have y9 := H11.out.cell 9; simp only [nodCells, List.getElem?_cons_succ, List.getElem?_cons_zero] at y0 y1 y2 y3 y4 y5 y6 y7 y8 y9))
                   | ((with_reducible refine gate_store (t := 3) (p := 65) rfl ?_); refine put_event rfl rfl 3 (.tmp 65) (.const (.int .i64 5)) rfl (g := g11) (off := 0) (u := .int .i64 5) (seg := [.int .i64 5]) rfl rfl H11.out rfl (by kernel_rfl) (by simp) qGrammarWalk_0 ?_; (intro w21 hrow hgr; have n1_ := Aside0.mk (pw_below_grown HB9.out (some g11) qGrammarWalk_1 hgr (fun k hk => by injection hk with hk; have := HG11.out; omega)); have n2_ := Aside0.mk (show RowAt w21 g11 122 (nodCells (nodOf l x)) by (rw [show nodCells (nodOf l x) = [.int .i64 5, .int .i64 (ar x.f0), .string x.f3, .bool false, .int .u64 x.f1.f0, .int .u64 x.f1.f1, .int .u64 x.f1.f2, .int .u64 x.f1.f3, .int .i64 0, .int .i64 0] by simp [nodCells, nodOf, opN, e1]]; exact hrow)); clear HB9 H11 hrow hgr q0; have HB9 := n1_; have H11 := n2_; clear n1_ n2_); (have y0 := H11.out.cell 0; have y1 := H11.out.cell 1; have y2 := H11.out.cell 2; have y3 := H11.out.cell 3; have y4 := H11.out.cell 4; have y5 := H11.out.cell 5; have y6 := H11.out.cell 6; have y7 := H11.out.cell 7; have y8 := H11.out.cell 8; have y9 := H11.out.cell 9; simp only [nodCells, List.getElem?_cons_succ, List.getElem?_cons_zero] at y0 y1 y2 y3 y4 y5 y6 y7 y8 y9))
                   | ((with_reducible refine gate_store (t := 3) (p := 68) rfl ?_); refine put_event rfl rfl 3 (.tmp 68) (.const (.int .i64 6)) rfl (g := g11) (off := 0) (u := .int .i64 6) (seg := [.int .i64 6]) rfl rfl H11.out rfl (by kernel_rfl) (by simp) qGrammarWalk_0 ?_; (intro w21 hrow hgr; have n1_ := Aside0.mk (pw_below_grown HB9.out (some g11) qGrammarWalk_1 hgr (fun k hk => by injection hk with hk; have := HG11.out; omega)); have n2_ := Aside0.mk (show RowAt w21 g11 122 (nodCells (nodOf l x)) by (rw [show nodCells (nodOf l x) = [.int .i64 6, .int .i64 (ar x.f0), .string x.f3, .bool false, .int .u64 x.f1.f0, .int .u64 x.f1.f1, .int .u64 x.f1.f2, .int .u64 x.f1.f3, .int .i64 0, .int .i64 0] by simp [nodCells, nodOf, opN, e1]]; exact hrow)); clear HB9 H11 hrow hgr q0; have HB9 := n1_; have H11 := n2_; clear n1_ n2_); (have y0 := H11.out.cell 0; have y1 := H11.out.cell 1; have y2 := H11.out.cell 2; have y3 := H11.out.cell 3; have y4 := H11.out.cell 4; have y5 := H11.out.cell 5; have y6 := H11.out.cell 6; have y7 := H11.out.cell 7; have y8 := H11.out.cell 8; have y9 := H11.out.cell 9; simp only [nodCells, List.getElem?_cons_succ, List.getElem?_cons_zero] at y0 y1 y2 y3 y4 y5 y6 y7 y8 y9))
                   | ((with_reducible refine gate_store (t := 3) (p := 71) rfl ?_); refine put_event rfl rfl 3 (.tmp 71) (.const (.int .i64 7)) rfl (g := g11) (off := 0) (u := .int .i64 7) (seg := [.int .i64 7]) rfl rfl H11.out rfl (by kernel_rfl) (by simp) qGrammarWalk_0 ?_; (intro w21 hrow hgr; have n1_ := Aside0.mk (pw_below_grown HB9.out (some g11) qGrammarWalk_1 hgr (fun k hk => by injection hk with hk; have := HG11.out; omega)); have n2_ := Aside0.mk (show RowAt w21 g11 122 (nodCells (nodOf l x)) by (rw [show nodCells (nodOf l x) = [.int .i64 7, .int .i64 (ar x.f0), .string x.f3, .bool false, .int .u64 x.f1.f0, .int .u64 x.f1.f1, .int .u64 x.f1.f2, .int .u64 x.f1.f3, .int .i64 0, .int .i64 0] by simp [nodCells, nodOf, opN, e1]]; exact hrow)); clear HB9 H11 hrow hgr q0; have HB9 := n1_; have H11 := n2_; clear n1_ n2_); (have y0 := H11.out.cell 0; have y1 := H11.out.cell 1; have y2 := H11.out.cell 2; have y3 := H11.out.cell 3; have y4 := H11.out.cell 4; have y5 := H11.out.cell 5; have y6 := H11.out.cell 6; have y7 := H11.out.cell 7; have y8 := H11.out.cell 8; have y9 := H11.out.cell 9; simp only [nodCells, List.getElem?_cons_succ, List.getElem?_cons_zero] at y0 y1 y2 y3 y4 y5 y6 y7 y8 y9))
                   | ((with_reducible refine gate_store (t := 3) (p := 74) rfl ?_); refine put_event rfl rfl 3 (.tmp 74) (.const (.int .i64 9)) rfl (g := g11) (off := 0) (u := .int .i64 9) (seg := [.int .i64 9]) rfl rfl H11.out rfl (by kernel_rfl) (by simp) qGrammarWalk_0 ?_; (intro w21 hrow hgr; have n1_ := Aside0.mk (pw_below_grown HB9.out (some g11) qGrammarWalk_1 hgr (fun k hk => by injection hk with hk; have := HG11.out; omega)); have n2_ := Aside0.mk (show RowAt w21 g11 122 (nodCells (nodOf l x)) by (rw [show nodCells (nodOf l x) = [.int .i64 9, .int .i64 (ar x.f0), .string x.f3, .bool false, .int .u64 x.f1.f0, .int .u64 x.f1.f1, .int .u64 x.f1.f2, .int .u64 x.f1.f3, .int .i64 0, .int .i64 0] by simp [nodCells, nodOf, opN, e1]]; exact hrow)); clear HB9 H11 hrow hgr q0; have HB9 := n1_; have H11 := n2_; clear n1_ n2_); (have y0 := H11.out.cell 0; have y1 := H11.out.cell 1; have y2 := H11.out.cell 2; have y3 := H11.out.cell 3; have y4 := H11.out.cell 4; have y5 := H11.out.cell 5; have y6 := H11.out.cell 6; have y7 := H11.out.cell 7; have y8 := H11.out.cell 8; have y9 := H11.out.cell 9; simp only [nodCells, List.getElem?_cons_succ, List.getElem?_cons_zero] at y0 y1 y2 y3 y4 y5 y6 y7 y8 y9))
                   | ((with_reducible refine gate_store (t := 3) (p := 77) rfl ?_); refine put_event rfl rfl 3 (.tmp 77) (.const (.int .i64 13)) rfl (g := g11) (off := 0) (u := .int .i64 13) (seg := [.int .i64 13]) rfl rfl H11.out rfl (by kernel_rfl) (by simp) qGrammarWalk_0 ?_; (intro w21 hrow hgr; have n1_ := Aside0.mk (pw_below_grown HB9.out (some g11) qGrammarWalk_1 hgr (fun k hk => by injection hk with hk; have := HG11.out; omega)); have n2_ := Aside0.mk (show RowAt w21 g11 122 (nodCells (nodOf l x)) by (rw [show nodCells (nodOf l x) = [.int .i64 13, .int .i64 (ar x.f0), .string x.f3, .bool false, .int .u64 x.f1.f0, .int .u64 x.f1.f1, .int .u64 x.f1.f2, .int .u64 x.f1.f3, .int .i64 0, .int .i64 0] by simp [nodCells, nodOf, opN, e1]]; exact hrow)); clear HB9 H11 hrow hgr q0; have HB9 := n1_; have H11 := n2_; clear n1_ n2_); (have y0 := H11.out.cell 0; have y1 := H11.out.cell 1; have y2 := H11.out.cell 2; have y3 := H11.out.cell 3; have y4 := H11.out.cell 4; have y5 := H11.out.cell 5; have y6 := H11.out.cell 6; have y7 := H11.out.cell 7; have y8 := H11.out.cell 8; have y9 := H11.out.cell 9; simp only [nodCells, List.getElem?_cons_succ, List.getElem?_cons_zero] at y0 y1 y2 y3 y4 y5 y6 y7 y8 y9))
                   | ((with_reducible refine gate_store (t := 3) (p := 80) rfl ?_); refine put_event rfl rfl 3 (.tmp 80) (.const (.int .i64 14)) rfl (g := g11) (off := 0) (u := .int .i64 14) (seg := [.int .i64 14]) rfl rfl H11.out rfl (by kernel_rfl) (by simp) qGrammarWalk_0 ?_; (intro w21 hrow hgr; have n1_ := Aside0.mk (pw_below_grown HB9.out (some g11) qGrammarWalk_1 hgr (fun k hk => by injection hk with hk; have := HG11.out; omega)); have n2_ := Aside0.mk (show RowAt w21 g11 122 (nodCells (nodOf l x)) by (rw [show nodCells (nodOf l x) = [.int .i64 14, .int .i64 (ar x.f0), .string x.f3, .bool false, .int .u64 x.f1.f0, .int .u64 x.f1.f1, .int .u64 x.f1.f2, .int .u64 x.f1.f3, .int .i64 0, .int .i64 0] by simp [nodCells, nodOf, opN, e1]]; exact hrow)); clear HB9 H11 hrow hgr q0; have HB9 := n1_; have H11 := n2_; clear n1_ n2_); (have y0 := H11.out.cell 0; have y1 := H11.out.cell 1; have y2 := H11.out.cell 2; have y3 := H11.out.cell 3; have y4 := H11.out.cell 4; have y5 := H11.out.cell 5; have y6 := H11.out.cell 6; have y7 := H11.out.cell 7; have y8 := H11.out.cell 8; have y9 := H11.out.cell 9; simp only [nodCells, List.getElem?_cons_succ, List.getElem?_cons_zero] at y0 y1 y2 y3 y4 y5 y6 y7 y8 y9))
                   | ((with_reducible refine gate_builtin (b := .append) (xs := #[.tmp 81, .tmp 83]) rfl ?_); at_builtin; refine print_append_cells wo.heap.size rfl (.tmp 81) (.tmp 83) 120 122 (.agg #[.int .i64 0, .int .i64 0, .string (⟨#[]⟩ : ByteArray), .bool false, .int .u64 0, .int .u64 0, .int .u64 0, .int .u64 0, .int .i64 0, .int .i64 0]) 10 88 rfl Try.underlying120 (by kernel_rfl) rfl (by decide) (by decide) u8 j (((nods l i).take j).flatMap nodCells) (nodCells (nodOf l x)) rfl rfl rfl (by simp [nodCells, Value.oneCell']) (HII.out.below HB9.out).own (Below.refl _ _) (HII.out.below HB9.out).old.size (by omega) ?_; intro v5 w22 hown hbel hgr hat; have n1_ := Aside0.mk ((HII.out.below HB9.out).add HGET.out hown hgr); clear HII HB9 H11 hown hbel hgr hat y0 y1 y2 y3 y4 y5 y6 y7 y8 y9; have HII := n1_; clear n1_)))
          all_goals
            go_roundw
            case measure => have := HJL.out; simp [intOf]; omega
            case rel => exact ⟨j + 1, v5, by go_num, rfl, ⟨HJL.out⟩, HII⟩
        · have k3 : decide ((j : Int) < ((rd_T30 l (i : Int)).f1.length : Int)) = false := decide_eq_false qGrammarWalk_2
          have k3n : decide (j < (rd_T30 l (i : Int)).f1.length) = false := decide_eq_false qGrammarWalk_2
          have q3n : (j < (rd_T30 l (i : Int)).f1.length) = False := eq_false qGrammarWalk_2
          obtain rfl : j = n1 := by have := HJ.out; omega
          have hl1 : (nods l i).length = j := (nods_len l i).trans HN1.out
          have how := HII.out.own
          rw [List.take_of_length_le (by omega), ← hl1] at how
          obtain ⟨Ae, ce, rfl, hce, hke⟩ := nod_reads how (by omega)
          have HOWN := Aside0.mk how
          have HKE := Aside0.mk hke
          have HCE := Aside0.mk hce
          have HN0 := Aside0.mk (HN.out i c1)
          have HII2 := Aside0.mk HII.out.old
          have H7 := Aside0.mk HII.out.b7
          clear how hke hce hl1 HII HK1
          have z4 := (HO.out.below HII2.out).b4.cell 1
          have z7 := H7.out.cell 0
          simp only [List.getElem?_cons_succ, List.getElem?_cons_zero] at z4 z7
          cases dp with
          | true =>
            go_wp2_with (first
              | ((with_reducible refine gate_builtin (b := .append) (xs := #[.tmp 93, .tmp 98]) rfl ?_); at_builtin; refine print_append_cells w.heap.size rfl (.tmp 93) (.tmp 98) 59 125 (.agg #[.string (⟨#[]⟩ : ByteArray), .slice none 0 0, .slice none 0 0]) 3 64 rfl Try.underlying59 (by kernel_rfl) rfl (by decide) (by decide) vr i ((List.range i).flatMap (fun (k : Nat) => [.string (rd_T30 l (k : Int)).f0, .slice none 0 0, bv k])) [.string (rd_T30 l (i : Int)).f0, .slice none 0 0, .slice Ae (nods l i).length ce] rfl rfl rfl qGrammarWalk_0 (HO.out.below HII2.out).gat.row (Below.refl _ _) (HO.out.below HII2.out).old.size (by omega) ?_; intro v5 w32 hown hbel hgr hat; obtain ⟨A5, c5, rfl⟩ := own_len hown; have HAPP := Aside0.mk hown; have HGR := Aside0.mk hgr; have H4 := Aside0.mk ((HO.out.below HII2.out).b4.grown hgr (own_row_ne (HO.out.below HII2.out).gat.row (HO.out.below HII2.out).b4 (by decide)).symm); clear hown hbel hgr hat z4 z7)
              | ((with_reducible refine gate_store (t := 59) (p := 100) rfl ?_); refine put_event rfl rfl 59 (.tmp 100) (.tmp 99) rfl (g := g4) (off := 1) (u := .slice A5 (i + 1) c5) (seg := [.slice A5 (i + 1) c5]) rfl rfl H4.out rfl (by kernel_rfl) (by simp) qGrammarWalk_0 ?_; intro w33 hrow hgr; have n1_ := Aside0.mk ((HO.out.below HII2.out).add (own_less HOWN.out HO.out.gat.top) HAPP.out HGR.out hrow hgr); clear HO HAPP HGR H4 hrow hgr; have HO := n1_; clear n1_))
            go_roundw
            case measure => have := HIL.out; simp [intOf]; omega
            case rel => exact ⟨i + 1, _, _, _, true, by go_num, rfl, ⟨HIL.out⟩, ⟨⟨fun _ => by obtain ⟨k, hk, h⟩ := HD.out.1 rfl; exact ⟨k, by omega, h⟩, fun _ => rfl⟩⟩, HO⟩
          | false =>
            by_cases cn : 100 < nst i
            · have kn : decide (nst i > 100) = true := decide_eq_true cn
              go_wp2_with (first
                | (go_at_call 64; refine (script_Nest.calls kf Ae ce (nods l i) (nst i) wr HKE.out HCE.out HN0.out).mono ?_; rintro xx w30 ⟨rfl, hb⟩; have n1_ := Aside0.mk (below_step HII2.out hb); have n2_ := Aside0.mk (H7.out.below hb); have n3_ := Aside0.mk (own_kept HOWN.out (fun k e => hb.block k (own_lt HOWN.out k e))); clear HII2 H7 HOWN HKE z4 z7 hb; have HII2 := n1_; have H7 := n2_; have HOWN := n3_; clear n1_ n2_ n3_; have z4 := (HO.out.below HII2.out).b4.cell 1; have z7 := H7.out.cell 0; simp only [List.getElem?_cons_succ, List.getElem?_cons_zero] at z4 z7)
                | ((with_reducible refine gate_builtin (b := .append) (xs := #[.tmp 93, .tmp 98]) rfl ?_); at_builtin; refine print_append_cells w.heap.size rfl (.tmp 93) (.tmp 98) 59 125 (.agg #[.string (⟨#[]⟩ : ByteArray), .slice none 0 0, .slice none 0 0]) 3 64 rfl Try.underlying59 (by kernel_rfl) rfl (by decide) (by decide) vr i ((List.range i).flatMap (fun (k : Nat) => [.string (rd_T30 l (k : Int)).f0, .slice none 0 0, bv k])) [.string (rd_T30 l (i : Int)).f0, .slice none 0 0, .slice Ae (nods l i).length ce] rfl rfl rfl qGrammarWalk_0 (HO.out.below HII2.out).gat.row (Below.refl _ _) (HO.out.below HII2.out).old.size (by omega) ?_; intro v5 w32 hown hbel hgr hat; obtain ⟨A5, c5, rfl⟩ := own_len hown; have HAPP := Aside0.mk hown; have HGR := Aside0.mk hgr; have H4 := Aside0.mk ((HO.out.below HII2.out).b4.grown hgr (own_row_ne (HO.out.below HII2.out).gat.row (HO.out.below HII2.out).b4 (by decide)).symm); clear hown hbel hgr hat z4 z7)
                | ((with_reducible refine gate_store (t := 59) (p := 100) rfl ?_); refine put_event rfl rfl 59 (.tmp 100) (.tmp 99) rfl (g := g4) (off := 1) (u := .slice A5 (i + 1) c5) (seg := [.slice A5 (i + 1) c5]) rfl rfl H4.out rfl (by kernel_rfl) (by simp) qGrammarWalk_0 ?_; intro w33 hrow hgr; have n1_ := Aside0.mk ((HO.out.below HII2.out).add (own_less HOWN.out HO.out.gat.top) HAPP.out HGR.out hrow hgr); clear HO HAPP HGR H4 hrow hgr; have HO := n1_; clear n1_))
              go_roundw
              case measure => have := HIL.out; simp [intOf]; omega
              case rel => exact ⟨i + 1, _, _, _, true, by go_num, rfl, ⟨HIL.out⟩, ⟨⟨fun _ => ⟨i, by omega, cn⟩, fun _ => rfl⟩⟩, HO⟩
            · have kn : decide (nst i > 100) = false := decide_eq_false cn
              go_wp2_with (first
                | (go_at_call 64; refine (script_Nest.calls kf Ae ce (nods l i) (nst i) wr HKE.out HCE.out HN0.out).mono ?_; rintro xx w30 ⟨rfl, hb⟩; have n1_ := Aside0.mk (below_step HII2.out hb); have n2_ := Aside0.mk (H7.out.below hb); have n3_ := Aside0.mk (own_kept HOWN.out (fun k e => hb.block k (own_lt HOWN.out k e))); clear HII2 H7 HOWN HKE z4 z7 hb; have HII2 := n1_; have H7 := n2_; have HOWN := n3_; clear n1_ n2_ n3_; have z4 := (HO.out.below HII2.out).b4.cell 1; have z7 := H7.out.cell 0; simp only [List.getElem?_cons_succ, List.getElem?_cons_zero] at z4 z7)
                | ((with_reducible refine gate_builtin (b := .append) (xs := #[.tmp 93, .tmp 98]) rfl ?_); at_builtin; refine print_append_cells w.heap.size rfl (.tmp 93) (.tmp 98) 59 125 (.agg #[.string (⟨#[]⟩ : ByteArray), .slice none 0 0, .slice none 0 0]) 3 64 rfl Try.underlying59 (by kernel_rfl) rfl (by decide) (by decide) vr i ((List.range i).flatMap (fun (k : Nat) => [.string (rd_T30 l (k : Int)).f0, .slice none 0 0, bv k])) [.string (rd_T30 l (i : Int)).f0, .slice none 0 0, .slice Ae (nods l i).length ce] rfl rfl rfl qGrammarWalk_0 (HO.out.below HII2.out).gat.row (Below.refl _ _) (HO.out.below HII2.out).old.size (by omega) ?_; intro v5 w32 hown hbel hgr hat; obtain ⟨A5, c5, rfl⟩ := own_len hown; have HAPP := Aside0.mk hown; have HGR := Aside0.mk hgr; have H4 := Aside0.mk ((HO.out.below HII2.out).b4.grown hgr (own_row_ne (HO.out.below HII2.out).gat.row (HO.out.below HII2.out).b4 (by decide)).symm); clear hown hbel hgr hat z4 z7)
                | ((with_reducible refine gate_store (t := 59) (p := 100) rfl ?_); refine put_event rfl rfl 59 (.tmp 100) (.tmp 99) rfl (g := g4) (off := 1) (u := .slice A5 (i + 1) c5) (seg := [.slice A5 (i + 1) c5]) rfl rfl H4.out rfl (by kernel_rfl) (by simp) qGrammarWalk_0 ?_; intro w33 hrow hgr; have n1_ := Aside0.mk ((HO.out.below HII2.out).add (own_less HOWN.out HO.out.gat.top) HAPP.out HGR.out hrow hgr); clear HO HAPP HGR H4 hrow hgr; have HO := n1_; clear n1_))
              go_roundw
              case measure => have := HIL.out; simp [intOf]; omega
              case rel => exact ⟨i + 1, _, _, _, false, by go_num, rfl, ⟨HIL.out⟩, ⟨⟨fun h => (by cases h), fun ⟨k, hk, h⟩ => by rcases Nat.lt_or_ge k i with h1 | h1; exact HD.out.2 ⟨k, h1, h⟩; exact absurd h (by have e : k = i := (by omega); subst e; omega)⟩⟩, HO⟩
    · have k2 : decide ((i : Int) < (l.length : Int)) = false := decide_eq_false (by omega)
      obtain rfl : i = l.length := by have := HI.out; omega
      cases dp with
      | true =>
        go_wp2_with (first
          | ((with_reducible refine gate_store (t := 61) (p := 2) rfl ?_); refine put_event rfl rfl 61 (.tmp 2) (.tmp 103) rfl (g := g2) (off := 0) (u := .agg #[.slice none 0 0, .slice none 0 0]) (seg := [.slice none 0 0, .slice none 0 0]) rfl rfl HO.out.b2 rfl (by kernel_rfl) (by simp) qGrammarWalk_0 ?_; (intro w40 hrow hgr; have HE := Aside0.mk (pw_below_grown HO.out.old (some g2) HO.out.old.size hgr (fun k hk => by injection hk with hk; have := HO.out.ge; omega)); have HGAT := Aside0.mk (HO.out.gat.put HO.out.b2 (by decide) (by decide) hgr); have hrow2 : RowAt w40 g2 61 [.slice none 0 0, .slice none 0 0] := hrow; clear HO hrow hgr; obtain ⟨⟨cur⟩, hh, hcur⟩ := hrow2; have hcur2 : cur = [.slice none 0 0, .slice none 0 0] := hcur; subst hcur2)))
        refine bodyPost_ret (results_ct rfl _ _ g2 61 #[.slice none 0 0, .slice none 0 0] (0, 0) _ rfl hh Try.underlying61 rfl (by kernel_rfl)) rfl ?_
        exact ⟨.inl ⟨HD.out.1 (by first | exact trivial | exact rfl), rfl⟩, HE.out⟩
      | false =>
        obtain ⟨Ar, cr, rfl⟩ := own_len HO.out.gat.row
        have z4 := HO.out.b4.cell 0
        have z5 := HO.out.b4.cell 1
        simp only [List.getElem?_cons_succ, List.getElem?_cons_zero] at z4 z5
        go_wp2_with (first
          | ((with_reducible refine gate_store (t := 61) (p := 2) rfl ?_); refine put_event rfl rfl 61 (.tmp 2) (.tmp 104) rfl (g := g2) (off := 0) (u := .agg #[.slice none 0 0, .slice Ar l.length cr]) (seg := [.slice none 0 0, .slice Ar l.length cr]) rfl rfl HO.out.b2 rfl (by kernel_rfl) (by simp) qGrammarWalk_0 ?_; (intro w40 hrow hgr; have HE := Aside0.mk (pw_below_grown HO.out.old (some g2) HO.out.old.size hgr (fun k hk => by injection hk with hk; have := HO.out.ge; omega)); have HGAT := Aside0.mk (HO.out.gat.put HO.out.b2 (by decide) (by decide) hgr); have hrow2 : RowAt w40 g2 61 [.slice none 0 0, .slice Ar l.length cr] := hrow; clear HO hrow hgr; obtain ⟨⟨cur⟩, hh, hcur⟩ := hrow2; have hcur2 : cur = [.slice none 0 0, .slice Ar l.length cr] := hcur; subst hcur2)))
        refine bodyPost_ret (results_ct rfl _ _ g2 61 #[.slice none 0 0, .slice Ar l.length cr] (0, 0) _ rfl hh Try.underlying61 rfl (by kernel_rfl)) rfl ?_
        exact ⟨.inr ⟨fun h => (by have := HD.out.2 h; cases this), _, _, _, rfl, HGAT.out⟩, HE.out⟩
set_option maxHeartbeats 4000000 in
set_option maxRecDepth 100000 in
theorem grammar_bad (hr : Kd.C k30 w A l.length l) (hc : l.length ≤ c) (hck : core_Check.f kf l st = some 6) :
    Calls Try.prog 30 #[.agg #[.slice A l.length c, .int .i64 st]] w fun e w' => e = .returned (.tuple #[.agg #[.slice none 0 0, .slice none 0 0], .int .i64 6]) ∧ Below w.heap.size w w' := by
  have HR := Aside0.mk hr
  have HC := Aside0.mk hc
  have HCK := Aside0.mk hck
  skip
  skip
  clear hr hc hck 
  go_enter Try.func30, Try.ntmps30
  go_wp2_with (first
    | ((with_reducible refine gate_dst (N := 1) rfl ?_); refine box_event (N := 1) rfl rfl (cs := #[.slice A l.length c, .int .i64 st]) (t := 24) ?hr1 ?_; (case hr1 => first | (go_simp; done) | (go_simp; rfl)); intro g1 hg1 w1 hbox hb; have H1 := Aside0.mk (show RowAt w1 g1 24 [.slice A l.length c, .int .i64 st] from ⟨_, hbox, rfl⟩); have HB := Aside0.mk hb; have HG1 := Aside0.mk (show w.heap.size ≤ g1 by omega); clear hbox hb hg1; have z0 := H1.out.cell 0; have z1 := H1.out.cell 1; simp only [List.getElem?_cons_succ, List.getElem?_cons_zero] at z0 z1)
    | ((with_reducible refine gate_dst (N := 2) rfl ?_); refine box_event (N := 2) rfl rfl (cs := #[.slice none 0 0, .slice none 0 0]) (t := 61) ?hr1 ?_; (case hr1 => first | (go_simp; done) | (go_simp; rfl)); intro g2 hg2 w2 hbox hb; have HG2 := Aside0.mk (show w.heap.size ≤ g2 ∧ g1 < g2 by have := H1.out.lt; have := HB.out.size; omega); have n1_ := Aside0.mk (below_step HB.out hb); have n2_ := Aside0.mk (H1.out.below hb); clear HB H1 z0 z1; have HB := n1_; have H1 := n2_; clear n1_ n2_; have H2 := Aside0.mk (show RowAt w2 g2 61 [.slice none 0 0, .slice none 0 0] from ⟨_, hbox, rfl⟩); clear hbox hb hg2; have z0 := H1.out.cell 0; have z1 := H1.out.cell 1; simp only [List.getElem?_cons_succ, List.getElem?_cons_zero] at z0 z1)
    | (go_at_call 19; refine (core_Check.calls kf A c l st 6 _ (Kd.C_below HR.out HB.out) HC.out HCK.out).mono ?_; rintro e w3 ⟨rfl, hb⟩; have n1_ := Aside0.mk (below_step HB.out hb); have n2_ := Aside0.mk (H1.out.below hb); have n3_ := Aside0.mk (H2.out.below hb); clear HB H1 H2 z0 z1 hb; have HB := n1_; have H1 := n2_; have H2 := n3_; clear n1_ n2_ n3_; have z0 := H1.out.cell 0; have z1 := H1.out.cell 1; simp only [List.getElem?_cons_succ, List.getElem?_cons_zero] at z0 z1)
    | ((with_reducible refine gate_store (t := 61) (p := 2) rfl ?_); refine put_event rfl rfl 61 (.tmp 2) (.tmp 16) rfl (g := g2) (off := 0) (u := .agg #[.slice none 0 0, .slice none 0 0]) (seg := [.slice none 0 0, .slice none 0 0]) rfl rfl H2.out rfl (by kernel_rfl) (by simp) qGrammarWalk_0 ?_; intro w40 hrow hgr; have HE := Aside0.mk (pw_below_grown HB.out (some g2) HB.out.size hgr (fun k hk => by injection hk with hk; have := HG2.out; omega)); have hrow2 : RowAt w40 g2 61 [.slice none 0 0, .slice none 0 0] := hrow; clear HB H1 H2 hrow hgr; obtain ⟨⟨cur⟩, hh, hcur⟩ := hrow2; have hcur2 : cur = [.slice none 0 0, .slice none 0 0] := hcur; subst hcur2))
  refine bodyPost_ret (results_ct rfl _ _ g2 61 #[.slice none 0 0, .slice none 0 0] (0, 0) _ rfl hh Try.underlying61 rfl (by kernel_rfl)) rfl ?_
  exact ⟨rfl, HE.out⟩
set_option maxHeartbeats 4000000 in
set_option maxRecDepth 100000 in
theorem grammar_many (hr : Kd.C k30 w A l.length l) (hc : l.length ≤ c) (hck : core_Check.f kf l st = some 0) (hsz : core_Size.f kf l st = some (sizeL l)) (hs : sizeL l > 4096) :
    Calls Try.prog 30 #[.agg #[.slice A l.length c, .int .i64 st]] w fun e w' => e = .returned (.tuple #[.agg #[.slice none 0 0, .slice none 0 0], .int .i64 52]) ∧ Below w.heap.size w w' := by
  have HR := Aside0.mk hr
  have HC := Aside0.mk hc
  have HCK := Aside0.mk hck
  have HSZ := Aside0.mk hsz
  have k1 : decide (sizeL l > 4096) = true := decide_eq_true hs
  clear hr hc hck hsz hs
  go_enter Try.func30, Try.ntmps30
  go_wp2_with (first
    | ((with_reducible refine gate_dst (N := 1) rfl ?_); refine box_event (N := 1) rfl rfl (cs := #[.slice A l.length c, .int .i64 st]) (t := 24) ?hr1 ?_; (case hr1 => first | (go_simp; done) | (go_simp; rfl)); intro g1 hg1 w1 hbox hb; have H1 := Aside0.mk (show RowAt w1 g1 24 [.slice A l.length c, .int .i64 st] from ⟨_, hbox, rfl⟩); have HB := Aside0.mk hb; have HG1 := Aside0.mk (show w.heap.size ≤ g1 by omega); clear hbox hb hg1; have z0 := H1.out.cell 0; have z1 := H1.out.cell 1; simp only [List.getElem?_cons_succ, List.getElem?_cons_zero] at z0 z1)
    | ((with_reducible refine gate_dst (N := 2) rfl ?_); refine box_event (N := 2) rfl rfl (cs := #[.slice none 0 0, .slice none 0 0]) (t := 61) ?hr1 ?_; (case hr1 => first | (go_simp; done) | (go_simp; rfl)); intro g2 hg2 w2 hbox hb; have HG2 := Aside0.mk (show w.heap.size ≤ g2 ∧ g1 < g2 by have := H1.out.lt; have := HB.out.size; omega); have n1_ := Aside0.mk (below_step HB.out hb); have n2_ := Aside0.mk (H1.out.below hb); clear HB H1 z0 z1; have HB := n1_; have H1 := n2_; clear n1_ n2_; have H2 := Aside0.mk (show RowAt w2 g2 61 [.slice none 0 0, .slice none 0 0] from ⟨_, hbox, rfl⟩); clear hbox hb hg2; have z0 := H1.out.cell 0; have z1 := H1.out.cell 1; simp only [List.getElem?_cons_succ, List.getElem?_cons_zero] at z0 z1)
    | (go_at_call 19; refine (core_Check.calls kf A c l st 0 _ (Kd.C_below HR.out HB.out) HC.out HCK.out).mono ?_; rintro e w3 ⟨rfl, hb⟩; have n1_ := Aside0.mk (below_step HB.out hb); have n2_ := Aside0.mk (H1.out.below hb); have n3_ := Aside0.mk (H2.out.below hb); clear HB H1 H2 z0 z1 hb; have HB := n1_; have H1 := n2_; have H2 := n3_; clear n1_ n2_ n3_; have z0 := H1.out.cell 0; have z1 := H1.out.cell 1; simp only [List.getElem?_cons_succ, List.getElem?_cons_zero] at z0 z1)
    | (go_at_call 20; refine (core_Size.calls kf A c l st (sizeL l) _ (Kd.C_below HR.out HB.out) HC.out HSZ.out).mono ?_; rintro e w4 ⟨rfl, hb⟩; have n1_ := Aside0.mk (below_step HB.out hb); have n2_ := Aside0.mk (H1.out.below hb); have n3_ := Aside0.mk (H2.out.below hb); clear HB H1 H2 z0 z1 hb; have HB := n1_; have H1 := n2_; have H2 := n3_; clear n1_ n2_ n3_; have z0 := H1.out.cell 0; have z1 := H1.out.cell 1; simp only [List.getElem?_cons_succ, List.getElem?_cons_zero] at z0 z1)
    | ((with_reducible refine gate_store (t := 61) (p := 2) rfl ?_); refine put_event rfl rfl 61 (.tmp 2) (.tmp 21) rfl (g := g2) (off := 0) (u := .agg #[.slice none 0 0, .slice none 0 0]) (seg := [.slice none 0 0, .slice none 0 0]) rfl rfl H2.out rfl (by kernel_rfl) (by simp) qGrammarWalk_0 ?_; intro w40 hrow hgr; have HE := Aside0.mk (pw_below_grown HB.out (some g2) HB.out.size hgr (fun k hk => by injection hk with hk; have := HG2.out; omega)); have hrow2 : RowAt w40 g2 61 [.slice none 0 0, .slice none 0 0] := hrow; clear HB H1 H2 hrow hgr; obtain ⟨⟨cur⟩, hh, hcur⟩ := hrow2; have hcur2 : cur = [.slice none 0 0, .slice none 0 0] := hcur; subst hcur2))
  refine bodyPost_ret (results_ct rfl _ _ g2 61 #[.slice none 0 0, .slice none 0 0] (0, 0) _ rfl hh Try.underlying61 rfl (by kernel_rfl)) rfl ?_
  exact ⟨rfl, HE.out⟩
end
end Go.Proofs.Ytebiogaacikphaa.Core
end
