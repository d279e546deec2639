/- Parts of the proof of coreGrammars: PAllx19, PAllx20. No condition beyond each lemma's own. -/
import Derived.Test.YtebiogaacikphaaTG4
import Derived.Test.YtebiogaacikphaaTG5
import Derived.Test.YtebiogaacikphaaTG6
import Derived.Test.YtebiogaacikphaaTG7
section
namespace Go.Proofs.Ytebiogaacikphaa.PAll
open Go.RowKit Go.Proofs.YtebiogaacikphaaW.PrintWords Go.Proofs.YtebiogaacikphaaW.PrintLast Go.Proofs.YtebiogaacikphaaW.PrintMore
attribute [local go_sem] max2_int max_two
set_option linter.unusedVariables false
set_option linter.unusedSimpArgs false
theorem q19_3 {p : Prop} (h : p := by rw [hns]; exact HSEEN.out) : p := h
theorem q19_2 {p : Prop} (h : p := by first | rfl | (simp; done) | (simp [*]; done)) : p := h
theorem q19_1 {p : Prop} (h : p := by repeat (first | exact Drawn0.refl _ | apply Drawn0.step)) : p := h
theorem q19_0 {p : Prop} (h : p := by first | (with_reducible assumption) | assumption) : p := h
attribute [local go_sem high] eqA90
/-- From rule i on; the names of the rules ahead are in the map. -/
def core_Check.l0 : Nat → List (S30) → Int → Option Int
 | 0, _, _ => none
 | k + 1, l, i => if i < (l.length : Int) then (if 0 ≤ i then (if ((l.take i.toNat).any fun r => r.f0.data.toList == (rd_T30 l i).f0.data.toList) = true then (some 6) else ((lexis_Name.f k (rd_T30 l i).f0).bind fun b => if b = true then ((core_right.f k (rd_T30 l i).f1 (l.length : Int)).bind fun b2 => if b2 = true then (core_Check.l0 k l (i + 1)) else (some 6)) else (some 6))) else (none)) else (some 0)
def core_Check.f (k : Nat) (l0_0 : List (S30)) (a0_1 : Int) : Option Int :=
 if (l0_0.length : Int) < 1 then (some 6) else if (l0_0.length : Int) > 256 then (some 6) else if a0_1 < 0 then (some 6) else if a0_1 ≥ (l0_0.length : Int) then (some 6) else (core_Size.f k l0_0 a0_1).bind fun t => if t > 16384 then (some 6) else (core_Check.l0 k l0_0 0)
theorem core_Check.mono_l : ∀ k y0 y1, LeO (core_Check.l0 k y0 y1) (core_Check.l0 (k + 1) y0 y1)
 | 0 => fun _ _ r h => by simp [core_Check.l0] at h
 | k + 1 => fun y0 y1 => by
  unfold core_Check.l0
  refine LeO.ite (LeO.ite (LeO.ite (LeO.refl _) (LeO.bind (lexis_Name.mono _ _) fun (b : Bool) => LeO.ite (LeO.bind (core_right.mono _ _ _) fun (b2 : Bool) => LeO.ite (core_Check.mono_l k _ _) (LeO.refl _)) (LeO.refl _))) (LeO.none _)) (LeO.refl _)
theorem core_Check.mono : ∀ a0 a1 k, LeO (core_Check.f k a0 a1) (core_Check.f (k + 1) a0 a1) := fun a0 a1 k => by
 unfold core_Check.f
 exact LeO.ite (LeO.refl _) (LeO.ite (LeO.refl _) (LeO.ite (LeO.refl _) (LeO.ite (LeO.refl _) (LeO.bind (core_Size.mono _ _ _) fun t => LeO.ite (LeO.refl _) (core_Check.mono_l k _ _)))))
theorem core_Check.seen {l : List (S30)} {x : ByteArray} : (l.any fun r => r.f0.data.toList == x.data.toList) = true ↔ x ∈ l.map (·.f0) := by
 rw [List.any_eq_true, List.mem_map]
 constructor
 ·rintro ⟨y, hy, h⟩
  refine ⟨y, hy, ?_⟩
  have := beq_iff_eq.1 h
  cases h1 : y.f0
  cases x
  rw [h1] at this
  simp only [ByteArray.mk.injEq]
  exact Array.toList_inj.1 this
 ·rintro ⟨y, hy, rfl⟩
  exact ⟨y, hy, beq_self_eq_true _⟩
theorem core_Check.zeroE (w : World) : (zeroValue 3).run Try.prog w = .ok (.int .i64 0) w := by kernel_rfl
/-- What a round keeps: the grammar's own box, the map of names, what is old. -/
def core_Check.Inv (w : World) (gm : Nat) (bx : Obj) (ns : List ByteArray) (W : World) : Prop := W.heap[w.heap.size]? = some bx ∧ (∃ m, MapAt Value.string W gm m ∧ m.map (·.1) = ns) ∧ Below w.heap.size w W
theorem core_Check.Inv.below {w W W' : World} {gm : Nat} {bx : Obj} {ns : List ByteArray} (h : core_Check.Inv w gm bx ns W) (hb : Below W.heap.size W W') : core_Check.Inv w gm bx ns W' := by
 obtain ⟨h1, ⟨m, h2, h3⟩, h4⟩ := h
 exact ⟨blk_below h1 hb, ⟨m, h2.below hb, h3⟩, below_step h4 hb⟩
theorem core_Check.Inv.grown {w W W' : World} {gm : Nat} {bx : Obj} {ns : List ByteArray} (h : core_Check.Inv w gm bx ns W) {g : Nat} (hg : W.grownBy W' (some g)) (h0 : w.heap.size < g) (hm : gm < g) : core_Check.Inv w gm bx ns W' := by
 obtain ⟨h1, ⟨m, h2, h3⟩, h4⟩ := h
 exact ⟨(hg.block _ (blk_lt h1) (by simp; omega)).trans h1, ⟨m, h2.grown hg (by simp; omega), h3⟩, pw_below_grown h4 (some g) h4.size hg (fun k hk => by cases hk; omega)⟩
theorem core_Check.Inv.size {w W : World} {gm : Nat} {bx : Obj} {ns : List ByteArray} (h : core_Check.Inv w gm bx ns W) : w.heap.size < W.heap.size ∧ gm < W.heap.size := by
 obtain ⟨h1, ⟨m, h2, h3⟩, h4⟩ := h
 exact ⟨blk_lt h1, h2.lt⟩
set_option maxHeartbeats 1000000 in
set_option maxRecDepth 100000 in
theorem core_Check.calls (k : Nat) (A0_0 : Option Addr) (c0_0 : Nat) (l0_0 : List (S30)) (a0_1 : Int) (r : Int) (w : World) (hr0_0 : Kd.C k30 w A0_0 l0_0.length l0_0) (hc0_0 : l0_0.length ≤ c0_0) (h : core_Check.f k l0_0 a0_1 = some r) :
  Calls Try.prog 19 #[.agg #[.slice A0_0 l0_0.length c0_0, .int .i64 a0_1]] w fun e w' => e = .returned (.int .i64 r) ∧ Below w.heap.size w w' := by
 have HR := Aside0.mk hr0_0; have HC := Aside0.mk hc0_0; clear hr0_0 hc0_0
 unfold core_Check.f at h
 by_cases c1 : (l0_0.length : Int) < 1
 ·rw [if_pos c1] at h
  have b1 : decide ((l0_0.length : Int) < 1) = true := decide_eq_true c1
  clear c1
  obtain rfl := Option.some.inj h
  clear h
  go_enter Try.func19, Try.ntmps19
  go_wp2
  go_ret
  exact ⟨rfl, (Below.refl _ _).alloc (Nat.le_refl _) _⟩
 rw [if_neg c1] at h
 have b1 : decide ((l0_0.length : Int) < 1) = false := decide_eq_false c1
 clear c1
 by_cases c2 : (l0_0.length : Int) > 256
 ·rw [if_pos c2] at h
  have b2 : decide (256 < (l0_0.length : Int)) = true := decide_eq_true c2
  have b2' : decide (256 < l0_0.length) = true := decide_eq_true (by omega)
  clear c2
  obtain rfl := Option.some.inj h
  clear h
  go_enter Try.func19, Try.ntmps19
  go_wp2
  go_ret
  exact ⟨rfl, (Below.refl _ _).alloc (Nat.le_refl _) _⟩
 rw [if_neg c2] at h
 have b2 : decide (256 < (l0_0.length : Int)) = false := decide_eq_false c2
 have b2' : decide (256 < l0_0.length) = false := decide_eq_false (by omega)
 have H256 := Aside0.mk (show l0_0.length ≤ 256 by omega)
 clear c2
 by_cases c3 : a0_1 < 0
 ·rw [if_pos c3] at h
  have b3 : decide (a0_1 < 0) = true := decide_eq_true c3
  clear c3
  obtain rfl := Option.some.inj h
  clear h
  go_enter Try.func19, Try.ntmps19
  go_wp2
  go_ret
  exact ⟨rfl, (Below.refl _ _).alloc (Nat.le_refl _) _⟩
 rw [if_neg c3] at h
 have b3 : decide (a0_1 < 0) = false := decide_eq_false c3
 clear c3
 by_cases c4 : a0_1 ≥ (l0_0.length : Int)
 ·rw [if_pos c4] at h
  have b4 : decide ((l0_0.length : Int) ≤ a0_1) = true := decide_eq_true c4
  clear c4
  obtain rfl := Option.some.inj h
  clear h
  go_enter Try.func19, Try.ntmps19
  go_wp2
  go_ret
  exact ⟨rfl, (Below.refl _ _).alloc (Nat.le_refl _) _⟩
 rw [if_neg c4] at h
 have b4 : decide ((l0_0.length : Int) ≤ a0_1) = false := decide_eq_false c4
 clear c4
 obtain ⟨t, hs, h⟩ := Option.bind_eq_some_iff.1 h
 have HS := Aside0.mk hs; clear hs
 by_cases c5 : t > 16384
 ·rw [if_pos c5] at h
  have b5 : decide (16384 < t) = true := decide_eq_true c5
  clear c5
  obtain rfl := Option.some.inj h
  clear h
  go_enter Try.func19, Try.ntmps19
  go_wp2_with (go_at_call 20; refine (core_Size.calls k A0_0 c0_0 l0_0 a0_1 t _ (Kd.C_below HR.out ((Below.refl _ _).alloc (Nat.le_refl _) _)) HC.out HS.out).mono ?_; rintro e w1 ⟨rfl, hb⟩; have HB := Aside0.mk hb; clear hb)
  go_ret
  exact ⟨rfl, below_step ((Below.refl _ _).alloc (Nat.le_refl _) _) HB.out⟩
 rw [if_neg c5] at h
 have b5 : decide (16384 < t) = false := decide_eq_false c5
 clear c5; have HL := Aside0.mk h; clear h
 go_enter Try.func19, Try.ntmps19
 go_wp2_with (first
  | (go_at_call 20; refine (core_Size.calls k A0_0 c0_0 l0_0 a0_1 t _ (Kd.C_below HR.out ((Below.refl _ _).alloc (Nat.le_refl _) _)) HC.out HS.out).mono ?_; rintro e w1 ⟨rfl, hb⟩; have HB := Aside0.mk (below_step ((Below.refl _ _).alloc (Nat.le_refl _) _) hb); have hbox : w1.heap[w.heap.size]? = some (.cells #[.slice A0_0 l0_0.length c0_0, .int .i64 a0_1] 24 (0, 0)) := (hb.block _ (by simp)).trans (by simpa using heap_alloc_new w _); have HX := Aside0.mk hbox; clear hb hbox)
  | ((with_reducible refine gate_dst (N := 36) rfl ?_); refine map_event Value.string rfl 94 rfl ?_; intro gm hgm w2 hm hb2; have n1_ := Aside0.mk (below_step HB.out hb2); have n2_ := Aside0.mk (blk_below HX.out hb2); have HM := Aside0.mk hm; have HGM := Aside0.mk (show w.heap.size < gm by rw [hgm]; exact blk_lt HX.out); clear HB HX hm hb2 hgm; have HB := n1_; have HX := n2_; clear n1_ n2_; have h0 := blk_cell HX.out 0; simp only [List.getElem?_toArray, List.getElem?_cons_zero] at h0))
 have HI : Aside0 (core_Check.Inv w gm (.cells #[.slice A0_0 l0_0.length c0_0, .int .i64 a0_1] 24 (0, 0)) ((l0_0.take 0).map (·.f0)) w2) := ⟨HX.out, ⟨[], HM.out, rfl⟩, HB.out⟩
 clear HM HX HB
 go_loopg [40] k (fun kq v40 w' => ∃ i : Nat, v40 = .int .i64 i ∧ Aside0 (core_Check.l0 kq l0_0 i = some r) ∧ Aside0 (kq ≤ k) ∧ Aside0 (core_Check.Inv w gm (.cells #[.slice A0_0 l0_0.length c0_0, .int .i64 a0_1] 24 (0, 0)) ((l0_0.take i).map (·.f0)) w'))
 case atStart => exact ⟨0, rfl, HL, ⟨Nat.le_refl _⟩, HI⟩
 case round =>
  clear HL HI h0
  obtain ⟨i, rfl, HL, HK, HI⟩ := hrel
  cases gk with
  | zero => exact absurd HL.out (by simp [core_Check.l0])
  | succ k1 =>
   have h := HL.out
   clear HL
   simp only [core_Check.l0] at h
   by_cases c1 : (i : Int) < (l0_0.length : Int)
   ·rw [if_pos c1] at h
    have b1' : decide (i < l0_0.length) = true := decide_eq_true (by omega)
    have q1 : (i : Int) < (l0_0.length : Int) := c1
    clear c1
    rw [if_pos (by omega)] at h
    obtain ⟨ad, A1, c1, e, hx0, hx1, hl1, hi1⟩ := at_T30 HR.out (i : Int) (by omega) q1
    cases e
    rw [Int.toNat_natCast] at hx0 hx1
    replace hx0 := (HI.out.2.2.cell (World.block_lt_of_cell? w _ hx0)).trans hx0
    replace hx1 := (HI.out.2.2.cell (World.block_lt_of_cell? w _ hx1)).trans hx1
    have HI1 := Aside0.mk hi1; have HL1 := Aside0.mk hl1; clear hi1 hl1
    have q0 : (0 : Int) ≤ (i : Int) := by omega
    have q2 : (i : Int) ≤ 300 := by have := H256.out; omega
    generalize hrho : rd_T30 l0_0 (i : Int) = rho at *
    have HRHO := Aside0.mk hrho; clear hrho
    by_cases c2 : ((l0_0.take (i : Int).toNat).any fun r => r.f0.data.toList == rho.f0.data.toList) = true
    ·rw [if_pos c2] at h
     have HSEEN := Aside0.mk (core_Check.seen.1 c2)
     rw [Int.toNat_natCast] at HSEEN
     clear c2
     obtain rfl := Option.some.inj h
     clear h
     go_wp2_with (first
      | ((with_reducible refine gate_dst (N := 5) rfl ?_); refine box_event (N := 5) rfl rfl (cs := #[.string (⟨#[]⟩ : ByteArray), .slice none 0 0]) (t := 30) ?hr ?_; (case hr => first | (go_simp; done) | (go_simp; rfl)); intro g5 hg5 w3 hbox hb3; have n1_ := Aside0.mk (HI.out.below hb3); have H5 := Aside0.mk hbox; have HG := Aside0.mk (show w.heap.size < g5 ∧ gm < g5 by rw [hg5]; exact HI.out.size); clear HI; have HI := n1_; clear n1_ hb3 hbox hg5)
      | ((with_reducible refine gate_store (t := 30) (p := 5) rfl ?_); refine store_whole rfl rfl 30 (.tmp 5) (.tmp 44) rfl (cs := #[.string rho.f0, .slice A1 rho.f1.length c1]) rfl rfl H5.out rfl (by kernel_rfl) (by simp [Value.oneCell']) ?_; intro w4 hbox4 hgr _; have n1_ := Aside0.mk (HI.out.grown hgr HG.out.1 HG.out.2); have n2_ := Aside0.mk hbox4; clear HI H5; have HI := n1_; have H5 := n2_; clear n1_ n2_ hbox4 hgr; have h0 := blk_cell HI.out.1 0; have h5a := blk_cell H5.out 0; have h5b := blk_cell H5.out 1; simp only [List.getElem?_toArray, List.getElem?_cons_zero, List.getElem?_cons_succ] at h0 h5a h5b)
      | ((with_reducible refine gate_dst (N := 49) rfl ?_); (have hmm := HI.out.2.1); (obtain ⟨m, hm, hns⟩ := hmm); refine wpList_map_hit (enc := Value.string) _ rfl (.tmp 46) (.tmp 48) 94 rfl (string_keys Try.underlying9) Try.underlying94 core_Check.zeroE gm m hm rho.f0 rfl rfl q19_3 ?_; intro v hv; clear hv hm hns))
     go_ret
     exact ⟨rfl, HI.out.2.2⟩
    rw [if_neg c2] at h
    have HSEEN := Aside0.mk (fun h => c2 (core_Check.seen.2 h))
    rw [Int.toNat_natCast] at HSEEN
    clear c2
    obtain ⟨b, hn, h⟩ := Option.bind_eq_some_iff.1 h
    have HN := Aside0.mk hn; clear hn
    cases b with
    | false =>
     obtain rfl := Option.some.inj h
     clear h
     go_wp2_with (first
      | ((with_reducible refine gate_dst (N := 5) rfl ?_); refine box_event (N := 5) rfl rfl (cs := #[.string (⟨#[]⟩ : ByteArray), .slice none 0 0]) (t := 30) ?hr ?_; (case hr => first | (go_simp; done) | (go_simp; rfl)); intro g5 hg5 w3 hbox hb3; have n1_ := Aside0.mk (HI.out.below hb3); have H5 := Aside0.mk hbox; have HG := Aside0.mk (show w.heap.size < g5 ∧ gm < g5 by rw [hg5]; exact HI.out.size); clear HI; have HI := n1_; clear n1_ hb3 hbox hg5)
      | ((with_reducible refine gate_store (t := 30) (p := 5) rfl ?_); refine store_whole rfl rfl 30 (.tmp 5) (.tmp 44) rfl (cs := #[.string rho.f0, .slice A1 rho.f1.length c1]) rfl rfl H5.out rfl (by kernel_rfl) (by simp [Value.oneCell']) ?_; intro w4 hbox4 hgr _; have n1_ := Aside0.mk (HI.out.grown hgr HG.out.1 HG.out.2); have n2_ := Aside0.mk hbox4; clear HI H5; have HI := n1_; have H5 := n2_; clear n1_ n2_ hbox4 hgr; have h0 := blk_cell HI.out.1 0; have h5a := blk_cell H5.out 0; have h5b := blk_cell H5.out 1; simp only [List.getElem?_toArray, List.getElem?_cons_zero, List.getElem?_cons_succ] at h0 h5a h5b)
      | ((with_reducible refine gate_dst (N := 49) rfl ?_); (have hmm := HI.out.2.1); (obtain ⟨m, hm, hns⟩ := hmm); refine wpList_map_miss (enc := Value.string) _ rfl (.tmp 46) (.tmp 48) 94 rfl (string_keys Try.underlying9) Try.underlying94 core_Check.zeroE gm m hm rho.f0 rfl rfl q19_3 ?_; clear hm hns)
      | (go_at_call 47; refine (lexis_Name.calls k1 rho.f0 false _ HN.out).mono ?_; rintro e w5 ⟨rfl, hd⟩; have n1_ := Aside0.mk (HI.out.below hd.below); have n2_ := Aside0.mk (blk_below H5.out hd.below); clear HI H5 h0 h5a h5b; have HI := n1_; have H5 := n2_; clear n1_ n2_ hd; have h0 := blk_cell HI.out.1 0; have h5a := blk_cell H5.out 0; have h5b := blk_cell H5.out 1; simp only [List.getElem?_toArray, List.getElem?_cons_zero, List.getElem?_cons_succ] at h0 h5a h5b))
     go_ret
     exact ⟨rfl, HI.out.2.2⟩
    | true =>
     rw [if_pos rfl] at h
     obtain ⟨b2, hr, h⟩ := Option.bind_eq_some_iff.1 h
     have HR1 := Aside0.mk hr; clear hr
     cases b2 with
     | false =>
      obtain rfl := Option.some.inj h
      clear h
      go_wp2_with (first
       | ((with_reducible refine gate_dst (N := 5) rfl ?_); refine box_event (N := 5) rfl rfl (cs := #[.string (⟨#[]⟩ : ByteArray), .slice none 0 0]) (t := 30) ?hr ?_; (case hr => first | (go_simp; done) | (go_simp; rfl)); intro g5 hg5 w3 hbox hb3; have n1_ := Aside0.mk (HI.out.below hb3); have H5 := Aside0.mk hbox; have HG := Aside0.mk (show w.heap.size < g5 ∧ gm < g5 by rw [hg5]; exact HI.out.size); clear HI; have HI := n1_; clear n1_ hb3 hbox hg5)
       | ((with_reducible refine gate_store (t := 30) (p := 5) rfl ?_); refine store_whole rfl rfl 30 (.tmp 5) (.tmp 44) rfl (cs := #[.string rho.f0, .slice A1 rho.f1.length c1]) rfl rfl H5.out rfl (by kernel_rfl) (by simp [Value.oneCell']) ?_; intro w4 hbox4 hgr _; have n1_ := Aside0.mk (HI.out.grown hgr HG.out.1 HG.out.2); have n2_ := Aside0.mk hbox4; clear HI H5; have HI := n1_; have H5 := n2_; clear n1_ n2_ hbox4 hgr; have h0 := blk_cell HI.out.1 0; have h5a := blk_cell H5.out 0; have h5b := blk_cell H5.out 1; simp only [List.getElem?_toArray, List.getElem?_cons_zero, List.getElem?_cons_succ] at h0 h5a h5b)
       | ((with_reducible refine gate_dst (N := 49) rfl ?_); (have hmm := HI.out.2.1); (obtain ⟨m, hm, hns⟩ := hmm); refine wpList_map_miss (enc := Value.string) _ rfl (.tmp 46) (.tmp 48) 94 rfl (string_keys Try.underlying9) Try.underlying94 core_Check.zeroE gm m hm rho.f0 rfl rfl q19_3 ?_; clear hm hns)
       | (go_at_call 47; refine (lexis_Name.calls k1 rho.f0 true _ HN.out).mono ?_; rintro e w5 ⟨rfl, hd⟩; have n1_ := Aside0.mk (HI.out.below hd.below); have n2_ := Aside0.mk (blk_below H5.out hd.below); clear HI H5 h0 h5a h5b; have HI := n1_; have H5 := n2_; clear n1_ n2_ hd; have h0 := blk_cell HI.out.1 0; have h5a := blk_cell H5.out 0; have h5b := blk_cell H5.out 1; simp only [List.getElem?_toArray, List.getElem?_cons_zero, List.getElem?_cons_succ] at h0 h5a h5b)
       | (go_at_call 48; refine (core_right.calls k1 A1 c1 rho.f1 (l0_0.length : Int) false _ (Kd.C_below HI1.out HI.out.2.2) HL1.out HR1.out).mono ?_; rintro e w6 ⟨rfl, hb6⟩; have n1_ := Aside0.mk (HI.out.below hb6); have n2_ := Aside0.mk (blk_below H5.out hb6); clear HI H5 h0 h5a h5b; have HI := n1_; have H5 := n2_; clear n1_ n2_ hb6; have h0 := blk_cell HI.out.1 0; have h5a := blk_cell H5.out 0; have h5b := blk_cell H5.out 1; simp only [List.getElem?_toArray, List.getElem?_cons_zero, List.getElem?_cons_succ] at h0 h5a h5b))
      go_ret
      exact ⟨rfl, HI.out.2.2⟩
     | true =>
      rw [if_pos rfl] at h
      have HL := Aside0.mk h; clear h
      have HTAKE : Aside0 ((l0_0.take (i + 1)).map (·.f0) = (l0_0.take i).map (·.f0) ++ [rho.f0]) := ⟨by
       rw [List.take_succ_eq_append_getElem (by omega), List.map_append, ← HRHO.out, rd_T30, Int.toNat_natCast, List.getD_eq_getElem?_getD, List.getElem?_eq_getElem (by omega)]
       rfl⟩
      go_wp2_with (first
       | ((with_reducible refine gate_dst (N := 5) rfl ?_); refine box_event (N := 5) rfl rfl (cs := #[.string (⟨#[]⟩ : ByteArray), .slice none 0 0]) (t := 30) ?hr ?_; (case hr => first | (go_simp; done) | (go_simp; rfl)); intro g5 hg5 w3 hbox hb3; have n1_ := Aside0.mk (HI.out.below hb3); have H5 := Aside0.mk hbox; have HG := Aside0.mk (show w.heap.size < g5 ∧ gm < g5 by rw [hg5]; exact HI.out.size); clear HI; have HI := n1_; clear n1_ hb3 hbox hg5)
       | ((with_reducible refine gate_store (t := 30) (p := 5) rfl ?_); refine store_whole rfl rfl 30 (.tmp 5) (.tmp 44) rfl (cs := #[.string rho.f0, .slice A1 rho.f1.length c1]) rfl rfl H5.out rfl (by kernel_rfl) (by simp [Value.oneCell']) ?_; intro w4 hbox4 hgr _; have n1_ := Aside0.mk (HI.out.grown hgr HG.out.1 HG.out.2); have n2_ := Aside0.mk hbox4; clear HI H5; have HI := n1_; have H5 := n2_; clear n1_ n2_ hbox4 hgr; have h0 := blk_cell HI.out.1 0; have h5a := blk_cell H5.out 0; have h5b := blk_cell H5.out 1; simp only [List.getElem?_toArray, List.getElem?_cons_zero, List.getElem?_cons_succ] at h0 h5a h5b)
       | ((with_reducible refine gate_dst (N := 49) rfl ?_); (have hmm := HI.out.2.1); (obtain ⟨m, hm, hns⟩ := hmm); refine wpList_map_miss (enc := Value.string) _ rfl (.tmp 46) (.tmp 48) 94 rfl (string_keys Try.underlying9) Try.underlying94 core_Check.zeroE gm m hm rho.f0 rfl rfl q19_3 ?_; clear hm hns)
       | (go_at_call 47; refine (lexis_Name.calls k1 rho.f0 true _ HN.out).mono ?_; rintro e w5 ⟨rfl, hd⟩; have n1_ := Aside0.mk (HI.out.below hd.below); have n2_ := Aside0.mk (blk_below H5.out hd.below); clear HI H5 h0 h5a h5b; have HI := n1_; have H5 := n2_; clear n1_ n2_ hd; have h0 := blk_cell HI.out.1 0; have h5a := blk_cell H5.out 0; have h5b := blk_cell H5.out 1; simp only [List.getElem?_toArray, List.getElem?_cons_zero, List.getElem?_cons_succ] at h0 h5a h5b)
       | (go_at_call 48; refine (core_right.calls k1 A1 c1 rho.f1 (l0_0.length : Int) true _ (Kd.C_below HI1.out HI.out.2.2) HL1.out HR1.out).mono ?_; rintro e w6 ⟨rfl, hb6⟩; have n1_ := Aside0.mk (HI.out.below hb6); have n2_ := Aside0.mk (blk_below H5.out hb6); clear HI H5 h0 h5a h5b; have HI := n1_; have H5 := n2_; clear n1_ n2_ hb6; have h0 := blk_cell HI.out.1 0; have h5a := blk_cell H5.out 0; have h5b := blk_cell H5.out 1; simp only [List.getElem?_toArray, List.getElem?_cons_zero, List.getElem?_cons_succ] at h0 h5a h5b)
       | (at_mapUpdate; (have hmm := HI.out.2.1); (obtain ⟨m, hm, hns⟩ := hmm); refine wpList_map_new (enc := Value.string) _ rfl (.tmp 68) (.tmp 70) (.tmp 71) 94 rfl (string_keys Try.underlying9) Try.underlying94 gm m hm rho.f0 (.int .i64 i) q19_3 rfl rfl rfl ?_; intro w7 hm7 hgr7; have n1_ := Aside0.mk (show core_Check.Inv w gm (.cells #[.slice (some ad) l0_0.length c0_0, .int .i64 a0_1] 24 (0, 0)) ((l0_0.take (i + 1)).map (·.f0)) w7 from ⟨(hgr7.block _ (blk_lt HI.out.1) (by have := HGM.out; simp; omega)).trans HI.out.1, ⟨_, hm7, by rw [List.map_append, hns, HTAKE.out]; rfl⟩, pw_below_grown HI.out.2.2 (some gm) HI.out.2.2.size hgr7 (fun k hk => by cases hk; have := HGM.out; omega)⟩); clear HI hm7 hgr7 hm hns h0 h5a h5b H5; have HI := n1_; clear n1_))
      go_roundg k1
      case measure => have := HK.out; omega
      case rel => exact ⟨i + 1, by go_num, ⟨by rw [show ((i + 1 : Nat) : Int) = (i : Int) + 1 from by omega]; exact HL.out⟩, ⟨by have := HK.out; omega⟩, HI⟩
   ·rw [if_neg c1] at h
    have b1 : decide (i < l0_0.length) = false := decide_eq_false (by omega)
    clear c1
    obtain rfl := Option.some.inj h
    clear h
    go_wp2
    go_ret
    exact ⟨rfl, HI.out.2.2⟩
def dowelbook_CoreBodies.l0 : Nat → List (S90) → List (S90) → Int → Option (Bool)
 | 0, _, _, _ => none
 | k + 1, x0, x1, x5 => if x5 < (x0.length : Int) then (if 0 ≤ x5 then (if x5 < (x1.length : Int) then (if (!(((rd_T90 x0 x5).f0) == ((rd_T90 x1 x5).f0)) || ((!(((rd_T90 x0 x5).f1.f0) == ((rd_T90 x1 x5).f1.f0)) || (!(((rd_T90 x0 x5).f1.f1) == ((rd_T90 x1 x5).f1.f1)) || (!(((rd_T90 x0 x5).f1.f2) == ((rd_T90 x1 x5).f1.f2)) || (!(((rd_T90 x0 x5).f1.f3) == ((rd_T90 x1 x5).f1.f3)))))) || (!(((rd_T90 x0 x5).f2) == ((rd_T90 x1 x5).f2)) || (!((((rd_T90 x0 x5).f3).toList) == (((rd_T90 x1 x5).f3).toList)))))) = true then (some false) else (dowelbook_CoreBodies.l0 k x0 x1 (wrap64 (x5 + 1)))) else (none)) else (none)) else (some true)
def dowelbook_CoreBodies.f (k : Nat) (l0 : List (S90)) (l1 : List (S90)) : Option (Bool) := if (l0.length : Int) = (l1.length : Int) then (dowelbook_CoreBodies.l0 k l0 l1 0) else (some false)
theorem dowelbook_CoreBodies.mono_l : ∀ k, (∀ y0 y1 y2, LeO (dowelbook_CoreBodies.l0 k y0 y1 y2) (dowelbook_CoreBodies.l0 (k + 1) y0 y1 y2))
 | 0 => fun _ _ _ r h => by simp [dowelbook_CoreBodies.l0] at h
 | k + 1 => by
  have ih0 := dowelbook_CoreBodies.mono_l k
  ·intro y0 y1 y2
   unfold dowelbook_CoreBodies.l0
   repeat' first
   | (with_reducible exact ih0 _ _ _)
   | (with_reducible exact LeO.refl _)
   | (with_reducible exact LeO.none _)
   | (with_reducible refine LeO.ite ?_ ?_)
   | (with_reducible refine LeO.bind ?_ (fun _ => ?_))
   | exact ih0 _ _ _
   | exact LeO.none _
   | refine LeO.ite ?_ ?_
   | refine LeO.bind ?_ (fun _ => ?_)
theorem dowelbook_CoreBodies.mono : ∀ a0 a1 k, LeO (dowelbook_CoreBodies.f k a0 a1) (dowelbook_CoreBodies.f (k + 1) a0 a1) := by
 intro a0 a1 k
 have ih0 := dowelbook_CoreBodies.mono_l k
 unfold dowelbook_CoreBodies.f
 repeat' first
   | (with_reducible exact ih0 _ _ _)
   | (with_reducible exact LeO.refl _)
   | (with_reducible exact LeO.none _)
   | (with_reducible refine LeO.ite ?_ ?_)
   | (with_reducible refine LeO.bind ?_ (fun _ => ?_))
   | exact ih0 _ _ _
   | exact LeO.none _
   | refine LeO.ite ?_ ?_
   | refine LeO.bind ?_ (fun _ => ?_)
set_option maxHeartbeats 8000000 in
set_option maxRecDepth 100000 in
theorem dowelbook_CoreBodies.calls (k : Nat) (A0 : Option Addr) (c0 : Nat) (l0 : List (S90)) (A1 : Option Addr) (c1 : Nat) (l1 : List (S90)) (r : Bool) (w : World) (hr0 : Kd.C k90 w A0 l0.length l0) (hc0 : l0.length ≤ c0) (hr1 : Kd.C k90 w A1 l1.length l1) (hc1 : l1.length ≤ c1) (h : dowelbook_CoreBodies.f k l0 l1 = some r) :
  Calls Try.prog 86 #[.slice A0 l0.length c0, .slice A1 l1.length c1] w fun e w' => e = .returned (.bool r) ∧ Drawn0 w w' := by
 have hu90 := Try.underlying90
 have HR0 := Aside0.mk hr0; have HC0 := Aside0.mk hc0; clear hr0 hc0; have HR1 := Aside0.mk hr1; have HC1 := Aside0.mk hc1; clear hr1 hc1
 have H : (if (l0.length : Int) = (l1.length : Int) then (dowelbook_CoreBodies.l0 k l0 l1 0) else (some false)) = some r := h
 clear h
 by_cases c3 : (l0.length : Int) = (l1.length : Int)
 ·rw [if_pos c3] at H
  have c3b0 : ((l0.length : Int) == (l1.length : Int)) = true := beq_iff_eq.mpr c3
  have c3b1 : ((l0.length : Int) != (l1.length : Int)) = false := bne_eq_false_iff_eq.mpr c3
  have c3b2 : (l0.length == l1.length) = true := by first | simpa using c3 | (simp at c3 ⊢; omega)
  clear c3
  have H' := Aside0.mk H
  clear H
  go_enter Try.func86, Try.ntmps86
  go_wp2
  repeat (go_quiet (fail); try go_wp2)
  go_loopg [5] k (fun kq v5 w' => ∃ (x5_1 : Int), v5 = .int .i64 x5_1 ∧ Aside0 (dowelbook_CoreBodies.l0 kq l0 l1 x5_1 = some r) ∧ Aside0 (kq ≤ k) ∧ Drawn0 w w')
  case atStart => exact ⟨(0), q19_2, H', ⟨Nat.le_refl _⟩, q19_1⟩
  case round =>
   clear H'; (try clear c1); (try clear p2); (try clear c3); (try clear c3b0); (try clear c3b1); (try clear c3b2)
   obtain ⟨x5_1, rfl, HA, HK1, ⟨m1, rfl⟩⟩ := hrel
   cases gk with
   | zero => exact absurd HA.out (by simp [dowelbook_CoreBodies.l0])
   | succ k1 =>
    have H := HA.out
    clear HA
    simp only [dowelbook_CoreBodies.l0] at H
    by_cases c4 : x5_1 < (l0.length : Int)
    ·rw [if_pos c4] at H
     have c4b0 : decide (x5_1 < (l0.length : Int)) = true := decide_eq_true c4
     clear c4
     by_cases c5 : 0 ≤ x5_1
     ·rw [if_pos c5] at H
      have c5b0 : decide (0 ≤ x5_1) = true := decide_eq_true c5
      clear c5
      by_cases c6 : x5_1 < (l1.length : Int)
      ·rw [if_pos c6] at H
       have c6b0 : decide (x5_1 < (l1.length : Int)) = true := decide_eq_true c6
       clear c6
       by_cases c7 : (!(((rd_T90 l0 x5_1).f0) == ((rd_T90 l1 x5_1).f0)) || ((!(((rd_T90 l0 x5_1).f1.f0) == ((rd_T90 l1 x5_1).f1.f0)) || (!(((rd_T90 l0 x5_1).f1.f1) == ((rd_T90 l1 x5_1).f1.f1)) || (!(((rd_T90 l0 x5_1).f1.f2) == ((rd_T90 l1 x5_1).f1.f2)) || (!(((rd_T90 l0 x5_1).f1.f3) == ((rd_T90 l1 x5_1).f1.f3)))))) || (!(((rd_T90 l0 x5_1).f2) == ((rd_T90 l1 x5_1).f2)) || (!((((rd_T90 l0 x5_1).f3).toList) == (((rd_T90 l1 x5_1).f3).toList)))))) = true
       ·rw [if_pos c7] at H
        have c7b0 : (!(((rd_T90 l0 x5_1).f0) == ((rd_T90 l1 x5_1).f0)) || ((!(((rd_T90 l0 x5_1).f1.f0) == ((rd_T90 l1 x5_1).f1.f0)) || (!(((rd_T90 l0 x5_1).f1.f1) == ((rd_T90 l1 x5_1).f1.f1)) || (!(((rd_T90 l0 x5_1).f1.f2) == ((rd_T90 l1 x5_1).f1.f2)) || (!(((rd_T90 l0 x5_1).f1.f3) == ((rd_T90 l1 x5_1).f1.f3)))))) || (!(((rd_T90 l0 x5_1).f2) == ((rd_T90 l1 x5_1).f2)) || (!((((rd_T90 l0 x5_1).f3).toList) == (((rd_T90 l1 x5_1).f3).toList)))))) = true := c7
        clear c7
        obtain rfl := Option.some.inj H
        have p178 : 0 ≤ (x5_1 : Int) := of_decide_eq_true q19_0
        have q178 : x5_1 < (l0.length : Int) := of_decide_eq_true q19_0
        obtain ⟨ad178, e178, hx178_0, hx178_1, hx178_2, hx178_3, hx178_4, hx178_5, hx178_6⟩ := at_T90 HR0.out x5_1 p178 q178
        cases e178
        replace p178 := eq_true p178
        replace q178 := eq_true q178
        have p179 : 0 ≤ (x5_1 : Int) := of_decide_eq_true q19_0
        have q179 : x5_1 < (l1.length : Int) := of_decide_eq_true q19_0
        obtain ⟨ad179, e179, hx179_0, hx179_1, hx179_2, hx179_3, hx179_4, hx179_5, hx179_6⟩ := at_T90 HR1.out x5_1 p179 q179
        cases e179
        replace p179 := eq_true p179
        replace q179 := eq_true q179
        go_wp2
        repeat (go_quiet (fail); try go_wp2)
        go_ret
        exact ⟨q19_2, q19_1⟩
       ·rw [if_neg c7] at H
        have c7b0 : (!(((rd_T90 l0 x5_1).f0) == ((rd_T90 l1 x5_1).f0)) || ((!(((rd_T90 l0 x5_1).f1.f0) == ((rd_T90 l1 x5_1).f1.f0)) || (!(((rd_T90 l0 x5_1).f1.f1) == ((rd_T90 l1 x5_1).f1.f1)) || (!(((rd_T90 l0 x5_1).f1.f2) == ((rd_T90 l1 x5_1).f1.f2)) || (!(((rd_T90 l0 x5_1).f1.f3) == ((rd_T90 l1 x5_1).f1.f3)))))) || (!(((rd_T90 l0 x5_1).f2) == ((rd_T90 l1 x5_1).f2)) || (!((((rd_T90 l0 x5_1).f3).toList) == (((rd_T90 l1 x5_1).f3).toList)))))) = false := by simpa using c7
        clear c7
        have H' := Aside0.mk H
        clear H
        have p178 : 0 ≤ (x5_1 : Int) := of_decide_eq_true q19_0
        have q178 : x5_1 < (l0.length : Int) := of_decide_eq_true q19_0
        obtain ⟨ad178, e178, hx178_0, hx178_1, hx178_2, hx178_3, hx178_4, hx178_5, hx178_6⟩ := at_T90 HR0.out x5_1 p178 q178
        cases e178
        replace p178 := eq_true p178
        replace q178 := eq_true q178
        have p179 : 0 ≤ (x5_1 : Int) := of_decide_eq_true q19_0
        have q179 : x5_1 < (l1.length : Int) := of_decide_eq_true q19_0
        obtain ⟨ad179, e179, hx179_0, hx179_1, hx179_2, hx179_3, hx179_4, hx179_5, hx179_6⟩ := at_T90 HR1.out x5_1 p179 q179
        cases e179
        replace p179 := eq_true p179
        replace q179 := eq_true q179
        go_wp2
        repeat (go_quiet (fail); try go_wp2)
        go_roundg k1
        case measure => have := HK1.out; omega
        case rel => exact ⟨(wrap64 (x5_1 + 1)), q19_2, H', ⟨by have := HK1.out; omega⟩, q19_1⟩
      ·rw [if_neg c6] at H
       exact absurd H (by simp)
     ·rw [if_neg c5] at H
      exact absurd H (by simp)
    ·rw [if_neg c4] at H
     have c4b0 : decide (x5_1 < (l0.length : Int)) = false := decide_eq_false c4
     clear c4
     obtain rfl := Option.some.inj H
     go_wp2
     repeat (go_quiet (fail); try go_wp2)
     go_ret
     exact ⟨q19_2, q19_1⟩
 ·rw [if_neg c3] at H
  have c3b0 : ((l0.length : Int) == (l1.length : Int)) = false := beq_eq_false_iff_ne.mpr c3
  have c3b1 : ((l0.length : Int) != (l1.length : Int)) = true := bne_iff_ne.mpr c3
  have c3b2 : (l0.length == l1.length) = false := by first | simpa using c3 | (simp at c3 ⊢; omega)
  obtain rfl := Option.some.inj H
  go_enter Try.func86, Try.ntmps86
  go_wp2
  repeat (go_quiet (fail); try go_wp2)
  go_ret
  exact ⟨q19_2, q19_1⟩
end Go.Proofs.Ytebiogaacikphaa.PAll
end
section
namespace Go.Proofs.Ytebiogaacikphaa.PAll
open Go.RowKit Go.Proofs.YtebiogaacikphaaW.PrintWords Go.Proofs.YtebiogaacikphaaW.PrintLast Go.Proofs.YtebiogaacikphaaW.PrintMore
attribute [local go_sem] max2_int max_two
set_option linter.unusedVariables false
set_option linter.unusedSimpArgs false
theorem q20_8 {p : Prop} (h : p := by first | rfl | (simp; done) | (simp [*]; done)) : p := h
theorem q20_7 {p : Prop} (h : p := by (with_reducible repeat (first | refine blk_drewN ?_ _ | refine blk_drew ?_ | refine blk_alloc ?_ _)); exact BK181.out) : p := h
theorem q20_6 {p : Prop} (h : p := by repeat (first | (with_reducible first | exact HB.out | apply below_alloc | apply pw_below_drewN | apply below_drew1 | refine below_set ?_ GE180.out) | exact HB.out)) : p := h
theorem q20_5 {p : Prop} (h : p := by first | rfl | (simp [errW_none, errW_some] <;> rfl) | (simp [*, errW_none, errW_some] <;> rfl)) : p := h
theorem q20_3 {p : Prop} (h : p := by (with_reducible repeat (first | refine blk_drewN ?_ _ | refine blk_drew ?_ | refine blk_alloc ?_ _)); exact BK180.out) : p := h
theorem q20_2 {p : Prop} (h : p := by first | (with_reducible assumption) | assumption) : p := h
theorem q20_1 {p : Prop} (h : p := by repeat (first | (with_reducible first | exact HB.out | apply below_alloc | apply pw_below_drewN | apply below_drew1) | exact HB.out)) : p := h
theorem q20_0 {p : Prop} (h : p := by repeat (first | (with_reducible first | exact HB.out | apply below_alloc | apply pw_below_drewN | apply below_drew1 | refine below_set ?_ GE180.out | refine below_set ?_ GE181.out) | exact HB.out)) : p := h
mutual
def dowelbook_Cores.j0 : Nat → Bool → List (S30) → Int → List (S30) → Int → Option (Bool)
 | 0, _, _, _, _, _ => none
 | k + 1, x19, x181000, x181001, x182000, x182001 => if x19 = true then (some false) else (dowelbook_Cores.l0 k 0 x181000 x181001 x182000 x182001)
def dowelbook_Cores.l0 : Nat → Int → List (S30) → Int → List (S30) → Int → Option (Bool)
 | 0, _, _, _, _, _ => none
 | k + 1, x5, x181000, x181001, x182000, x182001 => if x5 < (x181000.length : Int) then (if 0 ≤ x5 then (if x5 < (x182000.length : Int) then (if ((rd_T30 x181000 x5).f0).toList = ((rd_T30 x182000 x5).f0).toList then ((dowelbook_CoreBodies.f k ((rd_T30 x181000 x5).f1) ((rd_T30 x182000 x5).f1)).bind fun t186 => (if t186 = true then (dowelbook_Cores.l0 k (wrap64 (x5 + 1)) x181000 x181001 x182000 x182001) else (some false))) else (some false)) else (none)) else (none)) else (some true)
end
def dowelbook_Cores.f (k : Nat) (l0_0 : List (S30)) (a0_1 : Int) (l1_0 : List (S30)) (a1_1 : Int) : Option (Bool) := if a0_1 = a1_1 then (dowelbook_Cores.j0 k ((l0_0.length : Int) != (l1_0.length : Int)) l0_0 a0_1 l1_0 a1_1) else (dowelbook_Cores.j0 k true l0_0 a0_1 l1_0 a1_1)
theorem dowelbook_Cores.mono_l : ∀ k, (∀ y0 y1 y2 y3 y4, LeO (dowelbook_Cores.j0 k y0 y1 y2 y3 y4) (dowelbook_Cores.j0 (k + 1) y0 y1 y2 y3 y4)) ∧ (∀ y0 y1 y2 y3 y4, LeO (dowelbook_Cores.l0 k y0 y1 y2 y3 y4) (dowelbook_Cores.l0 (k + 1) y0 y1 y2 y3 y4))
 | 0 => ⟨fun _ _ _ _ _ r h => by simp [dowelbook_Cores.j0] at h, fun _ _ _ _ _ r h => by simp [dowelbook_Cores.l0] at h⟩
 | k + 1 => by
  obtain ⟨ih0, ih1⟩ := dowelbook_Cores.mono_l k
  refine ⟨?_, ?_⟩
  ·intro y0 y1 y2 y3 y4
   unfold dowelbook_Cores.j0
   repeat' first
   | (with_reducible exact ih0 _ _ _ _ _)
   | (with_reducible exact ih1 _ _ _ _ _)
   | (with_reducible exact dowelbook_CoreBodies.mono _ _ _)
   | (with_reducible exact LeO.refl _)
   | (with_reducible exact LeO.none _)
   | (with_reducible refine LeO.ite ?_ ?_)
   | (with_reducible refine LeO.bind ?_ (fun _ => ?_))
   | exact ih0 _ _ _ _ _
   | exact ih1 _ _ _ _ _
   | exact dowelbook_CoreBodies.mono _ _ _
   | exact LeO.none _
   | refine LeO.ite ?_ ?_
   | refine LeO.bind ?_ (fun _ => ?_)
  ·intro y0 y1 y2 y3 y4
   unfold dowelbook_Cores.l0
   repeat' first
   | (with_reducible exact ih0 _ _ _ _ _)
   | (with_reducible exact ih1 _ _ _ _ _)
   | (with_reducible exact dowelbook_CoreBodies.mono _ _ _)
   | (with_reducible exact LeO.refl _)
   | (with_reducible exact LeO.none _)
   | (with_reducible refine LeO.ite ?_ ?_)
   | (with_reducible refine LeO.bind ?_ (fun _ => ?_))
   | exact ih0 _ _ _ _ _
   | exact ih1 _ _ _ _ _
   | exact dowelbook_CoreBodies.mono _ _ _
   | exact LeO.none _
   | refine LeO.ite ?_ ?_
   | refine LeO.bind ?_ (fun _ => ?_)
theorem dowelbook_Cores.mono : ∀ a0 a1 a2 a3 k, LeO (dowelbook_Cores.f k a0 a1 a2 a3) (dowelbook_Cores.f (k + 1) a0 a1 a2 a3) := by
 intro a0 a1 a2 a3 k
 obtain ⟨ih0, ih1⟩ := dowelbook_Cores.mono_l k
 unfold dowelbook_Cores.f
 repeat' first
   | (with_reducible exact ih0 _ _ _ _ _)
   | (with_reducible exact ih1 _ _ _ _ _)
   | (with_reducible exact dowelbook_CoreBodies.mono _ _ _)
   | (with_reducible exact LeO.refl _)
   | (with_reducible exact LeO.none _)
   | (with_reducible refine LeO.ite ?_ ?_)
   | (with_reducible refine LeO.bind ?_ (fun _ => ?_))
   | exact ih0 _ _ _ _ _
   | exact ih1 _ _ _ _ _
   | exact dowelbook_CoreBodies.mono _ _ _
   | exact LeO.none _
   | refine LeO.ite ?_ ?_
   | refine LeO.bind ?_ (fun _ => ?_)
set_option maxHeartbeats 8000000 in
set_option maxRecDepth 100000 in
theorem dowelbook_Cores.calls (k : Nat) (A0_0 : Option Addr) (c0_0 : Nat) (l0_0 : List (S30)) (a0_1 : Int) (A1_0 : Option Addr) (c1_0 : Nat) (l1_0 : List (S30)) (a1_1 : Int) (r : Bool) (w : World) (hr0_0 : Kd.C k30 w A0_0 l0_0.length l0_0) (hc0_0 : l0_0.length ≤ c0_0) (hr1_0 : Kd.C k30 w A1_0 l1_0.length l1_0) (hc1_0 : l1_0.length ≤ c1_0) (h : dowelbook_Cores.f k l0_0 a0_1 l1_0 a1_1 = some r) :
  Calls Try.prog 49 #[.agg #[.slice A0_0 l0_0.length c0_0, .int .i64 a0_1], .agg #[.slice A1_0 l1_0.length c1_0, .int .i64 a1_1]] w fun e w' => e = .returned (.bool r) ∧ Below w.heap.size w w' := by
 have hu24 := Try.underlying24
 have HR0_0 := Aside0.mk hr0_0; have HC0_0 := Aside0.mk hc0_0; clear hr0_0 hc0_0; have HR1_0 := Aside0.mk hr1_0; have HC1_0 := Aside0.mk hc1_0; clear hr1_0 hc1_0
 have HB := Aside0.mk (Below.refl w.heap.size w)
 have H : (if a0_1 = a1_1 then (dowelbook_Cores.j0 k ((l0_0.length : Int) != (l1_0.length : Int)) l0_0 a0_1 l1_0 a1_1) else (dowelbook_Cores.j0 k true l0_0 a0_1 l1_0 a1_1)) = some r := h
 clear h; have HC3 := Aside0.mk H; clear H
 go_enter Try.func49, Try.ntmps49
 go_upto_region 1 with (first | ((with_reducible refine gate_dst (N := 2) rfl ?_); (try (refine gate_guard (by rfl) ?_; dsimp only)); refine box_event ?hg (N := 2) ?hd (cs := #[.slice A0_0 l0_0.length c0_0, .int .i64 a0_1]) (t := 24) ?hr ?_; (case hd => rfl); (case hg => rfl); (case hr => first | (go_simp; done) | (go_simp; rfl)); intro gb180 hg w4 hbox hb; have z_ := bxk hb hg q20_1; have n0_ := Aside0.mk z_.1; have n1_ := Aside0.mk (hbox); have n2_ := Aside0.mk z_.2; have n3_ := Aside0.mk z_.2; clear z_; clear HB; have HB := n0_; have BK180 := n1_; have GW180 := n2_; have GE180 := n3_; clear n0_ n1_ n2_ n3_; clear hb hbox hg) | ((with_reducible refine gate_dst (N := 3) rfl ?_); (try (refine gate_guard (by rfl) ?_; dsimp only)); refine box_event ?hg (N := 3) ?hd (cs := #[.slice A1_0 l1_0.length c1_0, .int .i64 a1_1]) (t := 24) ?hr ?_; (case hd => rfl); (case hg => rfl); (case hr => first | (go_simp; done) | (go_simp; rfl)); intro gb181 hg w5 hbox hb; have y_gb180 := blkk (g0 := gb180) hb hg q20_3; have n0_ := Aside0.mk y_gb180.1; have z_ := bxk hb hg q20_6; have n1_ := Aside0.mk z_.1; have n2_ := Aside0.mk (hbox); have n3_ := Aside0.mk z_.2; have n4_ := Aside0.mk z_.2; clear z_; have n5_ := Aside0.mk y_gb180.2.1; have n6_ := Aside0.mk y_gb180.2.2; clear BK180; clear HB; have BK180 := n0_; have HB := n1_; have BK181 := n2_; have GW181 := n3_; have GE181 := n4_; have NB180_181 := n5_; have NB181_180 := n6_; clear n0_ n1_ n2_ n3_ n4_ n5_ n6_; clear hb hbox hg y_gb180))
 repeat (go_quiet (first | ((with_reducible refine gate_dst (N := 2) rfl ?_); (try (refine gate_guard (by rfl) ?_; dsimp only)); refine box_event ?hg (N := 2) ?hd (cs := #[.slice A0_0 l0_0.length c0_0, .int .i64 a0_1]) (t := 24) ?hr ?_; (case hd => rfl); (case hg => rfl); (case hr => first | (go_simp; done) | (go_simp; rfl)); intro gb180 hg w4 hbox hb; have z_ := bxk hb hg q20_1; have n0_ := Aside0.mk z_.1; have n1_ := Aside0.mk (hbox); have n2_ := Aside0.mk z_.2; have n3_ := Aside0.mk z_.2; clear z_; clear HB; have HB := n0_; have BK180 := n1_; have GW180 := n2_; have GE180 := n3_; clear n0_ n1_ n2_ n3_; clear hb hbox hg) | ((with_reducible refine gate_dst (N := 3) rfl ?_); (try (refine gate_guard (by rfl) ?_; dsimp only)); refine box_event ?hg (N := 3) ?hd (cs := #[.slice A1_0 l1_0.length c1_0, .int .i64 a1_1]) (t := 24) ?hr ?_; (case hd => rfl); (case hg => rfl); (case hr => first | (go_simp; done) | (go_simp; rfl)); intro gb181 hg w5 hbox hb; have y_gb180 := blkk (g0 := gb180) hb hg q20_3; have n0_ := Aside0.mk y_gb180.1; have z_ := bxk hb hg q20_6; have n1_ := Aside0.mk z_.1; have n2_ := Aside0.mk (hbox); have n3_ := Aside0.mk z_.2; have n4_ := Aside0.mk z_.2; clear z_; have n5_ := Aside0.mk y_gb180.2.1; have n6_ := Aside0.mk y_gb180.2.2; clear BK180; clear HB; have BK180 := n0_; have HB := n1_; have BK181 := n2_; have GW181 := n3_; have GE181 := n4_; have NB180_181 := n5_; have NB181_180 := n6_; clear n0_ n1_ n2_ n3_ n4_ n5_ n6_; clear hb hbox hg y_gb180)); go_upto_region 1 with (first | ((with_reducible refine gate_dst (N := 2) rfl ?_); (try (refine gate_guard (by rfl) ?_; dsimp only)); refine box_event ?hg (N := 2) ?hd (cs := #[.slice A0_0 l0_0.length c0_0, .int .i64 a0_1]) (t := 24) ?hr ?_; (case hd => rfl); (case hg => rfl); (case hr => first | (go_simp; done) | (go_simp; rfl)); intro gb180 hg w4 hbox hb; have z_ := bxk hb hg q20_1; have n0_ := Aside0.mk z_.1; have n1_ := Aside0.mk (hbox); have n2_ := Aside0.mk z_.2; have n3_ := Aside0.mk z_.2; clear z_; clear HB; have HB := n0_; have BK180 := n1_; have GW180 := n2_; have GE180 := n3_; clear n0_ n1_ n2_ n3_; clear hb hbox hg) | ((with_reducible refine gate_dst (N := 3) rfl ?_); (try (refine gate_guard (by rfl) ?_; dsimp only)); refine box_event ?hg (N := 3) ?hd (cs := #[.slice A1_0 l1_0.length c1_0, .int .i64 a1_1]) (t := 24) ?hr ?_; (case hd => rfl); (case hg => rfl); (case hr => first | (go_simp; done) | (go_simp; rfl)); intro gb181 hg w5 hbox hb; have y_gb180 := blkk (g0 := gb180) hb hg q20_3; have n0_ := Aside0.mk y_gb180.1; have z_ := bxk hb hg q20_6; have n1_ := Aside0.mk z_.1; have n2_ := Aside0.mk (hbox); have n3_ := Aside0.mk z_.2; have n4_ := Aside0.mk z_.2; clear z_; have n5_ := Aside0.mk y_gb180.2.1; have n6_ := Aside0.mk y_gb180.2.2; clear BK180; clear HB; have BK180 := n0_; have HB := n1_; have BK181 := n2_; have GW181 := n3_; have GE181 := n4_; have NB180_181 := n5_; have NB181_180 := n6_; clear n0_ n1_ n2_ n3_ n4_ n5_ n6_; clear hb hbox hg y_gb180)))
 (try simp only [Act.put, List.setIfInBounds_toArray, List.set_cons_zero, List.set_cons_succ])
 go_cut [19] (fun v19 wc => ∃ (kq : Nat) (x19_2 : Bool), v19 = .bool x19_2 ∧ Aside0 (dowelbook_Cores.j0 kq x19_2 l0_0 a0_1 l1_0 a1_1 = some r) ∧ Aside0 (kq ≤ k) ∧ Aside0 (wc.heap[gb180]? = some (.cells #[(.slice A0_0 l0_0.length c0_0), .int .i64 a0_1] 24 (0, 0))) ∧ Aside0 (wc.heap[gb181]? = some (.cells #[(.slice A1_0 l1_0.length c1_0), .int .i64 a1_1] 24 (0, 0))) ∧ Aside0 (Below w.heap.size w wc))
 case first =>
  have H := HC3.out
  clear HC3
  by_cases c6 : a0_1 = a1_1
  ·rw [if_pos c6] at H
   have c6b0 : (a0_1 == a1_1) = true := beq_iff_eq.mpr c6
   have c6b1 : (a0_1 != a1_1) = false := bne_eq_false_iff_eq.mpr c6
   clear c6
   (first | rw [c6b0] | (simp only [i64_w, i32_w]; rw [c6b0]) | skip)
   have H' := Aside0.mk H
   clear H
   have hnb7 := NB180_181.out
   have hnc7 := NB181_180.out
   obtain ⟨hcz8_0, hcz8_1⟩ := ck2 BK180.out
   obtain ⟨hfz8_0, hfz8_1⟩ := fk2 BK180.out
   obtain ⟨hcz9_0, hcz9_1⟩ := ck2 BK181.out
   obtain ⟨hfz9_0, hfz9_1⟩ := fk2 BK181.out
   go_wp2
   repeat (go_quiet (fail); try go_wp2)
   go_meet
   case rel => exact ⟨_, (((l0_0.length : Int) != (l1_0.length : Int))), q20_8, H', ⟨by first | omega | exact Nat.le_refl _⟩, ⟨q20_3⟩, ⟨q20_7⟩, ⟨q20_0⟩⟩
  ·rw [if_neg c6] at H
   have c6b0 : (a0_1 == a1_1) = false := beq_eq_false_iff_ne.mpr c6
   have c6b1 : (a0_1 != a1_1) = true := bne_iff_ne.mpr c6
   (first | rw [c6b0] | (simp only [i64_w, i32_w]; rw [c6b0]) | skip)
   have H' := Aside0.mk H
   clear H
   have hnb10 := NB180_181.out
   have hnc10 := NB181_180.out
   obtain ⟨hcz11_0, hcz11_1⟩ := ck2 BK180.out
   obtain ⟨hfz11_0, hfz11_1⟩ := fk2 BK180.out
   obtain ⟨hcz12_0, hcz12_1⟩ := ck2 BK181.out
   obtain ⟨hfz12_0, hfz12_1⟩ := fk2 BK181.out
   go_wp2
   repeat (go_quiet (fail); try go_wp2)
   go_meet
   case rel => exact ⟨_, (true), q20_8, H', ⟨by first | omega | exact Nat.le_refl _⟩, ⟨q20_3⟩, ⟨q20_7⟩, ⟨q20_0⟩⟩
 case rest =>
  clear HC3; (try clear c1); (try clear p2); (try clear c4); (try clear c6); (try clear c6b0); (try clear c6b1); (try clear c7); (try clear c10); (try clear hcz11_0); (try clear hcz11_1); (try clear hcz12_0); (try clear hcz12_1); (try clear hcz8_0); (try clear hcz8_1); (try clear hcz9_0); (try clear hcz9_1); (try clear hfz11_0); (try clear hfz11_1); (try clear hfz12_0); (try clear hfz12_1); (try clear hfz8_0); (try clear hfz8_1); (try clear hfz9_0); (try clear hfz9_1)
  obtain ⟨kq, x19_2, rfl, HA, HJ2, BK180, BK181, HB⟩ := hcut
  cases kq with
  | zero => exact absurd HA.out (by simp [dowelbook_Cores.j0])
  | succ kj2 =>
   have H := HA.out
   clear HA
   simp only [dowelbook_Cores.j0] at H
   by_cases c13 : x19_2 = true
   ·subst c13
    have H1 : (some false) = some r := by rw [if_pos rfl] at H; exact H
    clear H
    have H := H1
    clear H1
    obtain rfl := Option.some.inj H
    go_wp2
    repeat (go_quiet (fail); try go_wp2)
    go_ret
    exact ⟨q20_5, q20_0⟩
   ·replace c13 := Bool.eq_false_iff.mpr c13
    subst c13
    have H1 : (dowelbook_Cores.l0 kj2 0 l0_0 a0_1 l1_0 a1_1) = some r := by rw [if_neg (show ¬ (false = true) by decide)] at H; exact H
    clear H
    have H := H1
    clear H1
    have H' := Aside0.mk H
    clear H
    go_wp2
    repeat (go_quiet (fail); try go_wp2)
    go_loopg [5] kj2 (fun kq v5 w' => ∃ (x5_2 : Int), v5 = .int .i64 x5_2 ∧ Aside0 (dowelbook_Cores.l0 kq x5_2 l0_0 a0_1 l1_0 a1_1 = some r) ∧ Aside0 (kq ≤ kj2) ∧ Aside0 (w'.heap[gb180]? = some (.cells #[(.slice A0_0 l0_0.length c0_0), .int .i64 a0_1] 24 (0, 0))) ∧ Aside0 (w'.heap[gb181]? = some (.cells #[(.slice A1_0 l1_0.length c1_0), .int .i64 a1_1] 24 (0, 0))) ∧ Aside0 (Below w.heap.size w w'))
    case atStart => exact ⟨(0), q20_8, H', ⟨Nat.le_refl _⟩, ⟨q20_3⟩, ⟨q20_7⟩, ⟨q20_0⟩⟩
    case round =>
     clear H'; (try clear c1); (try clear p2); (try clear c4); (try clear c6); (try clear c6b0); (try clear c6b1); (try clear c7); (try clear c10); (try clear c13); (try clear hcz11_0); (try clear hcz11_1); (try clear hcz12_0); (try clear hcz12_1); (try clear hcz8_0); (try clear hcz8_1); (try clear hcz9_0); (try clear hcz9_1); (try clear hfz11_0); (try clear hfz11_1); (try clear hfz12_0); (try clear hfz12_1); (try clear hfz8_0); (try clear hfz8_1); (try clear hfz9_0); (try clear hfz9_1); (try clear p2)
     obtain ⟨x5_2, rfl, HA, HK2, BK180, BK181, HB⟩ := hrel
     cases gk with
     | zero => exact absurd HA.out (by simp [dowelbook_Cores.l0])
     | succ k2 =>
      have H := HA.out
      clear HA
      simp only [dowelbook_Cores.l0] at H
      by_cases c14 : x5_2 < (l0_0.length : Int)
      ·rw [if_pos c14] at H
       have c14b0 : decide (x5_2 < (l0_0.length : Int)) = true := decide_eq_true c14
       clear c14
       by_cases c15 : 0 ≤ x5_2
       ·rw [if_pos c15] at H
        have c15b0 : decide (0 ≤ x5_2) = true := decide_eq_true c15
        clear c15
        by_cases c16 : x5_2 < (l1_0.length : Int)
        ·rw [if_pos c16] at H
         have c16b0 : decide (x5_2 < (l1_0.length : Int)) = true := decide_eq_true c16
         clear c16
         by_cases c17 : ((rd_T30 l0_0 x5_2).f0).toList = ((rd_T30 l1_0 x5_2).f0).toList
         ·rw [if_pos c17] at H
          have c17b0 : (((rd_T30 l0_0 x5_2).f0).toList == ((rd_T30 l1_0 x5_2).f0).toList) = true := beq_iff_eq.mpr c17
          have c17b1 : (((rd_T30 l0_0 x5_2).f0).toList != ((rd_T30 l1_0 x5_2).f0).toList) = false := bne_eq_false_iff_eq.mpr c17
          clear c17
          replace H := Option.bind_eq_some_iff.mp H
          obtain ⟨t186, A180, H⟩ := H
          replace H : (if t186 = true then (dowelbook_Cores.l0 k2 (wrap64 (x5_2 + 1)) l0_0 a0_1 l1_0 a1_1) else (some false)) = some r := H
          have A18 := Aside0.mk A180; clear A180
          by_cases c19 : t186 = true
          ·subst c19
           have H1 : (dowelbook_Cores.l0 k2 (wrap64 (x5_2 + 1)) l0_0 a0_1 l1_0 a1_1) = some r := by rw [if_pos rfl] at H; exact H
           clear H
           have H := H1
           clear H1
           have H' := Aside0.mk H
           clear H
           have hnb20 := NB180_181.out
           have hnc20 := NB181_180.out
           obtain ⟨hcz21_0, hcz21_1⟩ := ck2 BK180.out
           obtain ⟨hfz21_0, hfz21_1⟩ := fk2 BK180.out
           have p182 : 0 ≤ (x5_2 : Int) := of_decide_eq_true q20_2
           have q182 : x5_2 < (l0_0.length : Int) := of_decide_eq_true q20_2
           obtain ⟨ad182, A182_1, c182_1, e182, hx182_0, hx182_1, hl182_1, hi182_1⟩ := at_T30 HR0_0.out x5_2 p182 q182
           cases e182
           replace hx182_0 := (HB.out.cell (World.block_lt_of_cell? w _ hx182_0)).trans hx182_0
           replace hx182_1 := (HB.out.cell (World.block_lt_of_cell? w _ hx182_1)).trans hx182_1
           have HR182_1 := Aside0.mk hi182_1; have HC182_1 := Aside0.mk hl182_1; clear hi182_1 hl182_1
           replace p182 := eq_true p182
           replace q182 := eq_true q182
           obtain ⟨hcz22_0, hcz22_1⟩ := ck2 BK181.out
           obtain ⟨hfz22_0, hfz22_1⟩ := fk2 BK181.out
           have p183 : 0 ≤ (x5_2 : Int) := of_decide_eq_true q20_2
           have q183 : x5_2 < (l1_0.length : Int) := of_decide_eq_true q20_2
           obtain ⟨ad183, A183_1, c183_1, e183, hx183_0, hx183_1, hl183_1, hi183_1⟩ := at_T30 HR1_0.out x5_2 p183 q183
           cases e183
           replace hx183_0 := (HB.out.cell (World.block_lt_of_cell? w _ hx183_0)).trans hx183_0
           replace hx183_1 := (HB.out.cell (World.block_lt_of_cell? w _ hx183_1)).trans hx183_1
           have HR183_1 := Aside0.mk hi183_1; have HC183_1 := Aside0.mk hl183_1; clear hi183_1 hl183_1
           replace p183 := eq_true p183
           replace q183 := eq_true q183
           have p184 : 0 ≤ (x5_2 : Int) := of_decide_eq_true q20_2
           have q184 : x5_2 < (l0_0.length : Int) := of_decide_eq_true q20_2
           obtain ⟨ad184, A184_1, c184_1, e184, hx184_0, hx184_1, hl184_1, hi184_1⟩ := at_T30 HR0_0.out x5_2 p184 q184
           obtain rfl : ad182 = ad184 := (by injection e184)
           replace hx184_0 := (HB.out.cell (World.block_lt_of_cell? w _ hx184_0)).trans hx184_0
           replace hx184_1 := (HB.out.cell (World.block_lt_of_cell? w _ hx184_1)).trans hx184_1
           have HR184_1 := Aside0.mk hi184_1; have HC184_1 := Aside0.mk hl184_1; clear hi184_1 hl184_1
           replace p184 := eq_true p184
           replace q184 := eq_true q184
           have ea_ := Option.some.inj (hx182_1.symm.trans hx184_1)
           injection ea_ with ea_ en_ ec_
           subst ea_
           subst ec_
           clear en_
           have p185 : 0 ≤ (x5_2 : Int) := of_decide_eq_true q20_2
           have q185 : x5_2 < (l1_0.length : Int) := of_decide_eq_true q20_2
           obtain ⟨ad185, A185_1, c185_1, e185, hx185_0, hx185_1, hl185_1, hi185_1⟩ := at_T30 HR1_0.out x5_2 p185 q185
           obtain rfl : ad183 = ad185 := (by injection e185)
           replace hx185_0 := (HB.out.cell (World.block_lt_of_cell? w _ hx185_0)).trans hx185_0
           replace hx185_1 := (HB.out.cell (World.block_lt_of_cell? w _ hx185_1)).trans hx185_1
           have HR185_1 := Aside0.mk hi185_1; have HC185_1 := Aside0.mk hl185_1; clear hi185_1 hl185_1
           replace p185 := eq_true p185
           replace q185 := eq_true q185
           have ea_ := Option.some.inj (hx183_1.symm.trans hx185_1)
           injection ea_ with ea_ en_ ec_
           subst ea_
           subst ec_
           clear en_
           go_wp2_with (first | (go_at_call 86; (with_reducible refine (dowelbook_CoreBodies.calls k2 _ _ ((rd_T30 l0_0 x5_2).f1) _ _ ((rd_T30 l1_0 x5_2).f1) true _ ?side1 ?side2 ?side3 ?side4 A18.out).mono ?_); (case side1 => repeat (first | exact (Kd.C_below HR184_1.out HB.out) | (with_reducible refine Kd.C_alloc ?_ _) | (with_reducible refine Kd.C_drewN ?_ _) | (with_reducible refine Kd.C_drew ?_))); (case side2 => exact HC184_1.out); (case side3 => repeat (first | exact (Kd.C_below HR185_1.out HB.out) | (with_reducible refine Kd.C_alloc ?_ _) | (with_reducible refine Kd.C_drewN ?_ _) | (with_reducible refine Kd.C_drew ?_))); (case side4 => exact HC185_1.out); rintro e w' ⟨rfl, ⟨nd, rfl⟩⟩; (try first | exact ⟨rfl, _, World.drewN_drewN _ _ _⟩ | exact ⟨rfl, _, Eq.trans (World.drewN_drewN _ _ _) (congrArg (World.drewN _) (Nat.add_assoc _ _ _))⟩)))
           repeat (go_quiet (first | (go_at_call 86; (with_reducible refine (dowelbook_CoreBodies.calls k2 _ _ ((rd_T30 l0_0 x5_2).f1) _ _ ((rd_T30 l1_0 x5_2).f1) true _ ?side1 ?side2 ?side3 ?side4 A18.out).mono ?_); (case side1 => repeat (first | exact (Kd.C_below HR184_1.out HB.out) | (with_reducible refine Kd.C_alloc ?_ _) | (with_reducible refine Kd.C_drewN ?_ _) | (with_reducible refine Kd.C_drew ?_))); (case side2 => exact HC184_1.out); (case side3 => repeat (first | exact (Kd.C_below HR185_1.out HB.out) | (with_reducible refine Kd.C_alloc ?_ _) | (with_reducible refine Kd.C_drewN ?_ _) | (with_reducible refine Kd.C_drew ?_))); (case side4 => exact HC185_1.out); rintro e w' ⟨rfl, ⟨nd, rfl⟩⟩; (try first | exact ⟨rfl, _, World.drewN_drewN _ _ _⟩ | exact ⟨rfl, _, Eq.trans (World.drewN_drewN _ _ _) (congrArg (World.drewN _) (Nat.add_assoc _ _ _))⟩))); try go_wp2_with (first | (go_at_call 86; (with_reducible refine (dowelbook_CoreBodies.calls k2 _ _ ((rd_T30 l0_0 x5_2).f1) _ _ ((rd_T30 l1_0 x5_2).f1) true _ ?side1 ?side2 ?side3 ?side4 A18.out).mono ?_); (case side1 => repeat (first | exact (Kd.C_below HR184_1.out HB.out) | (with_reducible refine Kd.C_alloc ?_ _) | (with_reducible refine Kd.C_drewN ?_ _) | (with_reducible refine Kd.C_drew ?_))); (case side2 => exact HC184_1.out); (case side3 => repeat (first | exact (Kd.C_below HR185_1.out HB.out) | (with_reducible refine Kd.C_alloc ?_ _) | (with_reducible refine Kd.C_drewN ?_ _) | (with_reducible refine Kd.C_drew ?_))); (case side4 => exact HC185_1.out); rintro e w' ⟨rfl, ⟨nd, rfl⟩⟩; (try first | exact ⟨rfl, _, World.drewN_drewN _ _ _⟩ | exact ⟨rfl, _, Eq.trans (World.drewN_drewN _ _ _) (congrArg (World.drewN _) (Nat.add_assoc _ _ _))⟩))))
           go_roundg k2
           case measure => have := HJ2.out; have := HK2.out; omega
           case rel => exact ⟨(wrap64 (x5_2 + 1)), q20_8, H', ⟨by have := HJ2.out; have := HK2.out; omega⟩, ⟨q20_3⟩, ⟨q20_7⟩, ⟨q20_0⟩⟩
          ·replace c19 := Bool.eq_false_iff.mpr c19
           subst c19
           have H1 : (some false) = some r := by rw [if_neg (show ¬ (false = true) by decide)] at H; exact H
           clear H
           have H := H1
           clear H1
           obtain rfl := Option.some.inj H
           have hnb23 := NB180_181.out
           have hnc23 := NB181_180.out
           obtain ⟨hcz24_0, hcz24_1⟩ := ck2 BK180.out
           obtain ⟨hfz24_0, hfz24_1⟩ := fk2 BK180.out
           have p182 : 0 ≤ (x5_2 : Int) := of_decide_eq_true q20_2
           have q182 : x5_2 < (l0_0.length : Int) := of_decide_eq_true q20_2
           obtain ⟨ad182, A182_1, c182_1, e182, hx182_0, hx182_1, hl182_1, hi182_1⟩ := at_T30 HR0_0.out x5_2 p182 q182
           cases e182
           replace hx182_0 := (HB.out.cell (World.block_lt_of_cell? w _ hx182_0)).trans hx182_0
           replace hx182_1 := (HB.out.cell (World.block_lt_of_cell? w _ hx182_1)).trans hx182_1
           have HR182_1 := Aside0.mk hi182_1; have HC182_1 := Aside0.mk hl182_1; clear hi182_1 hl182_1
           replace p182 := eq_true p182
           replace q182 := eq_true q182
           obtain ⟨hcz25_0, hcz25_1⟩ := ck2 BK181.out
           obtain ⟨hfz25_0, hfz25_1⟩ := fk2 BK181.out
           have p183 : 0 ≤ (x5_2 : Int) := of_decide_eq_true q20_2
           have q183 : x5_2 < (l1_0.length : Int) := of_decide_eq_true q20_2
           obtain ⟨ad183, A183_1, c183_1, e183, hx183_0, hx183_1, hl183_1, hi183_1⟩ := at_T30 HR1_0.out x5_2 p183 q183
           cases e183
           replace hx183_0 := (HB.out.cell (World.block_lt_of_cell? w _ hx183_0)).trans hx183_0
           replace hx183_1 := (HB.out.cell (World.block_lt_of_cell? w _ hx183_1)).trans hx183_1
           have HR183_1 := Aside0.mk hi183_1; have HC183_1 := Aside0.mk hl183_1; clear hi183_1 hl183_1
           replace p183 := eq_true p183
           replace q183 := eq_true q183
           have p184 : 0 ≤ (x5_2 : Int) := of_decide_eq_true q20_2
           have q184 : x5_2 < (l0_0.length : Int) := of_decide_eq_true q20_2
           obtain ⟨ad184, A184_1, c184_1, e184, hx184_0, hx184_1, hl184_1, hi184_1⟩ := at_T30 HR0_0.out x5_2 p184 q184
           obtain rfl : ad182 = ad184 := (by injection e184)
           replace hx184_0 := (HB.out.cell (World.block_lt_of_cell? w _ hx184_0)).trans hx184_0
           replace hx184_1 := (HB.out.cell (World.block_lt_of_cell? w _ hx184_1)).trans hx184_1
           have HR184_1 := Aside0.mk hi184_1; have HC184_1 := Aside0.mk hl184_1; clear hi184_1 hl184_1
           replace p184 := eq_true p184
           replace q184 := eq_true q184
           have ea_ := Option.some.inj (hx182_1.symm.trans hx184_1)
           injection ea_ with ea_ en_ ec_
           subst ea_
           subst ec_
           clear en_
           have p185 : 0 ≤ (x5_2 : Int) := of_decide_eq_true q20_2
           have q185 : x5_2 < (l1_0.length : Int) := of_decide_eq_true q20_2
           obtain ⟨ad185, A185_1, c185_1, e185, hx185_0, hx185_1, hl185_1, hi185_1⟩ := at_T30 HR1_0.out x5_2 p185 q185
           obtain rfl : ad183 = ad185 := (by injection e185)
           replace hx185_0 := (HB.out.cell (World.block_lt_of_cell? w _ hx185_0)).trans hx185_0
           replace hx185_1 := (HB.out.cell (World.block_lt_of_cell? w _ hx185_1)).trans hx185_1
           have HR185_1 := Aside0.mk hi185_1; have HC185_1 := Aside0.mk hl185_1; clear hi185_1 hl185_1
           replace p185 := eq_true p185
           replace q185 := eq_true q185
           have ea_ := Option.some.inj (hx183_1.symm.trans hx185_1)
           injection ea_ with ea_ en_ ec_
           subst ea_
           subst ec_
           clear en_
           go_wp2_with (first | (go_at_call 86; (with_reducible refine (dowelbook_CoreBodies.calls k2 _ _ ((rd_T30 l0_0 x5_2).f1) _ _ ((rd_T30 l1_0 x5_2).f1) false _ ?side1 ?side2 ?side3 ?side4 A18.out).mono ?_); (case side1 => repeat (first | exact (Kd.C_below HR184_1.out HB.out) | (with_reducible refine Kd.C_alloc ?_ _) | (with_reducible refine Kd.C_drewN ?_ _) | (with_reducible refine Kd.C_drew ?_))); (case side2 => exact HC184_1.out); (case side3 => repeat (first | exact (Kd.C_below HR185_1.out HB.out) | (with_reducible refine Kd.C_alloc ?_ _) | (with_reducible refine Kd.C_drewN ?_ _) | (with_reducible refine Kd.C_drew ?_))); (case side4 => exact HC185_1.out); rintro e w' ⟨rfl, ⟨nd, rfl⟩⟩; (try first | exact ⟨rfl, _, World.drewN_drewN _ _ _⟩ | exact ⟨rfl, _, Eq.trans (World.drewN_drewN _ _ _) (congrArg (World.drewN _) (Nat.add_assoc _ _ _))⟩)))
           repeat (go_quiet (first | (go_at_call 86; (with_reducible refine (dowelbook_CoreBodies.calls k2 _ _ ((rd_T30 l0_0 x5_2).f1) _ _ ((rd_T30 l1_0 x5_2).f1) false _ ?side1 ?side2 ?side3 ?side4 A18.out).mono ?_); (case side1 => repeat (first | exact (Kd.C_below HR184_1.out HB.out) | (with_reducible refine Kd.C_alloc ?_ _) | (with_reducible refine Kd.C_drewN ?_ _) | (with_reducible refine Kd.C_drew ?_))); (case side2 => exact HC184_1.out); (case side3 => repeat (first | exact (Kd.C_below HR185_1.out HB.out) | (with_reducible refine Kd.C_alloc ?_ _) | (with_reducible refine Kd.C_drewN ?_ _) | (with_reducible refine Kd.C_drew ?_))); (case side4 => exact HC185_1.out); rintro e w' ⟨rfl, ⟨nd, rfl⟩⟩; (try first | exact ⟨rfl, _, World.drewN_drewN _ _ _⟩ | exact ⟨rfl, _, Eq.trans (World.drewN_drewN _ _ _) (congrArg (World.drewN _) (Nat.add_assoc _ _ _))⟩))); try go_wp2_with (first | (go_at_call 86; (with_reducible refine (dowelbook_CoreBodies.calls k2 _ _ ((rd_T30 l0_0 x5_2).f1) _ _ ((rd_T30 l1_0 x5_2).f1) false _ ?side1 ?side2 ?side3 ?side4 A18.out).mono ?_); (case side1 => repeat (first | exact (Kd.C_below HR184_1.out HB.out) | (with_reducible refine Kd.C_alloc ?_ _) | (with_reducible refine Kd.C_drewN ?_ _) | (with_reducible refine Kd.C_drew ?_))); (case side2 => exact HC184_1.out); (case side3 => repeat (first | exact (Kd.C_below HR185_1.out HB.out) | (with_reducible refine Kd.C_alloc ?_ _) | (with_reducible refine Kd.C_drewN ?_ _) | (with_reducible refine Kd.C_drew ?_))); (case side4 => exact HC185_1.out); rintro e w' ⟨rfl, ⟨nd, rfl⟩⟩; (try first | exact ⟨rfl, _, World.drewN_drewN _ _ _⟩ | exact ⟨rfl, _, Eq.trans (World.drewN_drewN _ _ _) (congrArg (World.drewN _) (Nat.add_assoc _ _ _))⟩))))
           go_ret
           exact ⟨q20_5, q20_0⟩
         ·rw [if_neg c17] at H
          have c17b0 : (((rd_T30 l0_0 x5_2).f0).toList == ((rd_T30 l1_0 x5_2).f0).toList) = false := beq_eq_false_iff_ne.mpr c17
          have c17b1 : (((rd_T30 l0_0 x5_2).f0).toList != ((rd_T30 l1_0 x5_2).f0).toList) = true := bne_iff_ne.mpr c17
          obtain rfl := Option.some.inj H
          have hnb26 := NB180_181.out
          have hnc26 := NB181_180.out
          obtain ⟨hcz27_0, hcz27_1⟩ := ck2 BK180.out
          obtain ⟨hfz27_0, hfz27_1⟩ := fk2 BK180.out
          have p182 : 0 ≤ (x5_2 : Int) := of_decide_eq_true q20_2
          have q182 : x5_2 < (l0_0.length : Int) := of_decide_eq_true q20_2
          obtain ⟨ad182, A182_1, c182_1, e182, hx182_0, hx182_1, hl182_1, hi182_1⟩ := at_T30 HR0_0.out x5_2 p182 q182
          cases e182
          replace hx182_0 := (HB.out.cell (World.block_lt_of_cell? w _ hx182_0)).trans hx182_0
          replace hx182_1 := (HB.out.cell (World.block_lt_of_cell? w _ hx182_1)).trans hx182_1
          have HR182_1 := Aside0.mk hi182_1; have HC182_1 := Aside0.mk hl182_1; clear hi182_1 hl182_1
          replace p182 := eq_true p182
          replace q182 := eq_true q182
          obtain ⟨hcz28_0, hcz28_1⟩ := ck2 BK181.out
          obtain ⟨hfz28_0, hfz28_1⟩ := fk2 BK181.out
          have p183 : 0 ≤ (x5_2 : Int) := of_decide_eq_true q20_2
          have q183 : x5_2 < (l1_0.length : Int) := of_decide_eq_true q20_2
          obtain ⟨ad183, A183_1, c183_1, e183, hx183_0, hx183_1, hl183_1, hi183_1⟩ := at_T30 HR1_0.out x5_2 p183 q183
          cases e183
          replace hx183_0 := (HB.out.cell (World.block_lt_of_cell? w _ hx183_0)).trans hx183_0
          replace hx183_1 := (HB.out.cell (World.block_lt_of_cell? w _ hx183_1)).trans hx183_1
          have HR183_1 := Aside0.mk hi183_1; have HC183_1 := Aside0.mk hl183_1; clear hi183_1 hl183_1
          replace p183 := eq_true p183
          replace q183 := eq_true q183
          go_wp2
          repeat (go_quiet (fail); try go_wp2)
          go_ret
          exact ⟨q20_5, q20_0⟩
        ·rw [if_neg c16] at H
         exact absurd H (by simp)
       ·rw [if_neg c15] at H
        exact absurd H (by simp)
      ·rw [if_neg c14] at H
       have c14b0 : decide (x5_2 < (l0_0.length : Int)) = false := decide_eq_false c14
       clear c14
       obtain rfl := Option.some.inj H
       have hnb29 := NB180_181.out
       have hnc29 := NB181_180.out
       obtain ⟨hcz30_0, hcz30_1⟩ := ck2 BK180.out
       obtain ⟨hfz30_0, hfz30_1⟩ := fk2 BK180.out
       go_wp2
       repeat (go_quiet (fail); try go_wp2)
       go_ret
       exact ⟨q20_5, q20_0⟩
end Go.Proofs.Ytebiogaacikphaa.PAll
end
