/- Parts of the proof of coreOrder: PAllx16. No condition beyond each lemma's own. -/
import Derived.Test.YtihiicjnjhideaaDoorTO5
import Derived.Test.YtihiicjnjhideaaDoorTO6
import Derived.Test.YtihiicjnjhideaaDoorTO8
import Derived.Test.YtihiicjnjhideaaDoorTO33
section
namespace Go.Proofs.YtihiicjnjhideaaDoor.PAll
open Go.RowKit Go.Proofs.YtihiicjnjhideaaDoorW.PrintWords Go.Proofs.YtihiicjnjhideaaDoorW.PrintLast Go.Proofs.YtihiicjnjhideaaDoorW.PrintMore
attribute [local go_sem] max2_int max_two
set_option linter.unusedVariables false
set_option linter.unusedSimpArgs false
theorem qDoor16_5 {p : Prop} (h : p := by rw [hns]; exact HSEEN.out) : p := h
theorem qDoor16_4 {p : Prop} (h : p := by first | (with_reducible assumption) | assumption) : p := h
theorem qDoor16_2 {p : Prop} (h : p := by (try simp only [List.map_toArray, List.map_cons, List.map_nil]); first | done | rfl | (simp only [List.length_drop, List.length_take]; rfl)) : p := h
theorem qDoor16_1 {p : Prop} (h : p := by first | rfl | (simp; done) | (simp [*]; done)) : p := h
theorem qDoor16_0 {p : Prop} (h : p := by repeat (first | exact Drawn0.refl _ | apply Drawn0.step)) : p := h
/-- From rule i on; the names of the rules ahead are in the map. -/
def core_Check.l0 : Nat → List (S44) → Int → Option Int
 | 0, _, _ => none
 | k + 1, l, i => if i < (l.length : Int) then (if 0 ≤ i then (if ((l.take i.toNat).any fun r => r.f0.data.toList == (rd_T44 l i).f0.data.toList) = true then (some 6) else ((lexis_Name.f k (rd_T44 l i).f0).bind fun b => if b = true then ((core_right.f k (rd_T44 l i).f1 (l.length : Int)).bind fun b2 => if b2 = true then (core_Check.l0 k l (i + 1)) else (some 6)) else (some 6))) else (none)) else (some 0)
def core_Check.f (k : Nat) (l0_0 : List (S44)) (a0_1 : Int) : Option Int :=
 if (l0_0.length : Int) < 1 then (some 6) else if (l0_0.length : Int) > 256 then (some 6) else if a0_1 < 0 then (some 6) else if a0_1 ≥ (l0_0.length : Int) then (some 6) else (core_Size.f k l0_0 a0_1).bind fun t => if t > 16384 then (some 6) else (core_Check.l0 k l0_0 0)
theorem core_Check.mono_l : ∀ k y0 y1, LeO (core_Check.l0 k y0 y1) (core_Check.l0 (k + 1) y0 y1)
 | 0 => fun _ _ r h => by simp [core_Check.l0] at h
 | k + 1 => fun y0 y1 => by
  unfold core_Check.l0
  refine LeO.ite (LeO.ite (LeO.ite (LeO.refl _) (LeO.bind (lexis_Name.mono _ _) fun (b : Bool) => LeO.ite (LeO.bind (core_right.mono _ _ _) fun (b2 : Bool) => LeO.ite (core_Check.mono_l k _ _) (LeO.refl _)) (LeO.refl _))) (LeO.none _)) (LeO.refl _)
theorem core_Check.mono : ∀ a0 a1 k, LeO (core_Check.f k a0 a1) (core_Check.f (k + 1) a0 a1) := fun a0 a1 k => by
 unfold core_Check.f
 exact LeO.ite (LeO.refl _) (LeO.ite (LeO.refl _) (LeO.ite (LeO.refl _) (LeO.ite (LeO.refl _) (LeO.bind (core_Size.mono _ _ _) fun t => LeO.ite (LeO.refl _) (core_Check.mono_l k _ _)))))
theorem core_Check.seen {l : List (S44)} {x : ByteArray} : (l.any fun r => r.f0.data.toList == x.data.toList) = true ↔ x ∈ l.map (·.f0) := by
 rw [List.any_eq_true, List.mem_map]
 constructor
 ·rintro ⟨y, hy, h⟩
  refine ⟨y, hy, ?_⟩
  have := beq_iff_eq.1 h
  cases h1 : y.f0
  cases x
  rw [h1] at this
  simp only [ByteArray.mk.injEq]
  exact Array.toList_inj.1 this
 ·rintro ⟨y, hy, rfl⟩
  exact ⟨y, hy, beq_self_eq_true _⟩
theorem core_Check.zeroE (w : World) : (zeroValue 3).run Tryd.prog w = .ok (.int .i64 0) w := by kernel_rfl
/-- What a round keeps: the grammar's own box, the map of names, what is old. -/
def core_Check.Inv (w : World) (gm : Nat) (bx : Obj) (ns : List ByteArray) (W : World) : Prop := W.heap[w.heap.size]? = some bx ∧ (∃ m, MapAt Value.string W gm m ∧ m.map (·.1) = ns) ∧ Below w.heap.size w W
theorem core_Check.Inv.below {w W W' : World} {gm : Nat} {bx : Obj} {ns : List ByteArray} (h : core_Check.Inv w gm bx ns W) (hb : Below W.heap.size W W') : core_Check.Inv w gm bx ns W' := by
 obtain ⟨h1, ⟨m, h2, h3⟩, h4⟩ := h
 exact ⟨blk_below h1 hb, ⟨m, h2.below hb, h3⟩, below_step h4 hb⟩
theorem core_Check.Inv.grown {w W W' : World} {gm : Nat} {bx : Obj} {ns : List ByteArray} (h : core_Check.Inv w gm bx ns W) {g : Nat} (hg : W.grownBy W' (some g)) (h0 : w.heap.size < g) (hm : gm < g) : core_Check.Inv w gm bx ns W' := by
 obtain ⟨h1, ⟨m, h2, h3⟩, h4⟩ := h
 exact ⟨(hg.block _ (blk_lt h1) (by simp; omega)).trans h1, ⟨m, h2.grown hg (by simp; omega), h3⟩, pw_below_grown h4 (some g) h4.size hg (fun k hk => by cases hk; omega)⟩
theorem core_Check.Inv.size {w W : World} {gm : Nat} {bx : Obj} {ns : List ByteArray} (h : core_Check.Inv w gm bx ns W) : w.heap.size < W.heap.size ∧ gm < W.heap.size := by
 obtain ⟨h1, ⟨m, h2, h3⟩, h4⟩ := h
 exact ⟨blk_lt h1, h2.lt⟩
set_option maxHeartbeats 1000000 in
set_option maxRecDepth 100000 in
theorem core_Check.calls (k : Nat) (A0_0 : Option Addr) (c0_0 : Nat) (l0_0 : List (S44)) (a0_1 : Int) (r : Int) (w : World) (hr0_0 : Kd.C k44 w A0_0 l0_0.length l0_0) (hc0_0 : l0_0.length ≤ c0_0) (h : core_Check.f k l0_0 a0_1 = some r) :
  Calls Tryd.prog 9 #[.agg #[.slice A0_0 l0_0.length c0_0, .int .i64 a0_1]] w fun e w' => e = .returned (.int .i64 r) ∧ Below w.heap.size w w' := by
 have HR := aK hr0_0; have HC := aK hc0_0; clear hr0_0 hc0_0
 unfold core_Check.f at h
 by_cases c1 : (l0_0.length : Int) < 1
 ·rw [if_pos c1] at h
  have b1 : decide ((l0_0.length : Int) < 1) = true := decide_eq_true c1
  clear c1
  obtain rfl := Option.some.inj h
  clear h
  go_enter Tryd.func9, Tryd.ntmps9
  go_wp2
  go_ret
  exact ⟨rfl, (Below.refl _ _).alloc (Nat.le_refl _) _⟩
 rw [if_neg c1] at h
 have b1 : decide ((l0_0.length : Int) < 1) = false := decide_eq_false c1
 clear c1
 by_cases c2 : (l0_0.length : Int) > 256
 ·rw [if_pos c2] at h
  have b2 : decide (256 < (l0_0.length : Int)) = true := decide_eq_true c2
  have b2' : decide (256 < l0_0.length) = true := decide_eq_true (by omega)
  clear c2
  obtain rfl := Option.some.inj h
  clear h
  go_enter Tryd.func9, Tryd.ntmps9
  go_wp2
  go_ret
  exact ⟨rfl, (Below.refl _ _).alloc (Nat.le_refl _) _⟩
 rw [if_neg c2] at h
 have b2 : decide (256 < (l0_0.length : Int)) = false := decide_eq_false c2
 have b2' : decide (256 < l0_0.length) = false := decide_eq_false (by omega)
 have H256 := aK (show l0_0.length ≤ 256 by omega)
 clear c2
 by_cases c3 : a0_1 < 0
 ·rw [if_pos c3] at h
  have b3 : decide (a0_1 < 0) = true := decide_eq_true c3
  clear c3
  obtain rfl := Option.some.inj h
  clear h
  go_enter Tryd.func9, Tryd.ntmps9
  go_wp2
  go_ret
  exact ⟨rfl, (Below.refl _ _).alloc (Nat.le_refl _) _⟩
 rw [if_neg c3] at h
 have b3 : decide (a0_1 < 0) = false := decide_eq_false c3
 clear c3
 by_cases c4 : a0_1 ≥ (l0_0.length : Int)
 ·rw [if_pos c4] at h
  have b4 : decide ((l0_0.length : Int) ≤ a0_1) = true := decide_eq_true c4
  clear c4
  obtain rfl := Option.some.inj h
  clear h
  go_enter Tryd.func9, Tryd.ntmps9
  go_wp2
  go_ret
  exact ⟨rfl, (Below.refl _ _).alloc (Nat.le_refl _) _⟩
 rw [if_neg c4] at h
 have b4 : decide ((l0_0.length : Int) ≤ a0_1) = false := decide_eq_false c4
 clear c4
 obtain ⟨t, hs, h⟩ := Option.bind_eq_some_iff.1 h
 have HS := aK hs; clear hs
 by_cases c5 : t > 16384
 ·rw [if_pos c5] at h
  have b5 : decide (16384 < t) = true := decide_eq_true c5
  clear c5
  obtain rfl := Option.some.inj h
  clear h
  go_enter Tryd.func9, Tryd.ntmps9
  go_wp2_with (go_at_call 10; refine (core_Size.calls k A0_0 c0_0 l0_0 a0_1 t _ (Kd.C_below HR.out ((Below.refl _ _).alloc (Nat.le_refl _) _)) HC.out HS.out).mono ?_; rintro e w1 ⟨rfl, hb⟩; have HB := aK hb; clear hb)
  go_ret
  exact ⟨rfl, below_step ((Below.refl _ _).alloc (Nat.le_refl _) _) HB.out⟩
 rw [if_neg c5] at h
 have b5 : decide (16384 < t) = false := decide_eq_false c5
 clear c5; have HL := aK h; clear h
 go_enter Tryd.func9, Tryd.ntmps9
 go_wp2_with (first
  | (go_at_call 10; refine (core_Size.calls k A0_0 c0_0 l0_0 a0_1 t _ (Kd.C_below HR.out ((Below.refl _ _).alloc (Nat.le_refl _) _)) HC.out HS.out).mono ?_; rintro e w1 ⟨rfl, hb⟩; have HB := aK (below_step ((Below.refl _ _).alloc (Nat.le_refl _) _) hb); have hbox : w1.heap[w.heap.size]? = some (.cells #[.slice A0_0 l0_0.length c0_0, .int .i64 a0_1] 29 (0, 0)) := (hb.block _ (by simp)).trans (by simpa using heap_alloc_new w _); have HX := aK hbox; clear hb hbox)
  | ((with_reducible refine gate_dst (N := 36) rfl ?_); refine map_event Value.string rfl 64 rfl ?_; intro gm hgm w2 hm hb2; have n1_ := aK (below_step HB.out hb2); have n2_ := aK (blk_below HX.out hb2); have HM := aK hm; have HGM := aK (show w.heap.size < gm by rw [hgm]; exact blk_lt HX.out); clear HB HX hm hb2 hgm; have HB := n1_; have HX := n2_; clear n1_ n2_; have h0 := blk_cell HX.out 0; simp only [List.getElem?_toArray, List.getElem?_cons_zero] at h0))
 have HI : Aside0 (core_Check.Inv w gm (.cells #[.slice A0_0 l0_0.length c0_0, .int .i64 a0_1] 29 (0, 0)) ((l0_0.take 0).map (·.f0)) w2) := ⟨HX.out, ⟨[], HM.out, rfl⟩, HB.out⟩
 clear HM HX HB
 go_loopg [40] k (fun kq v40 w' => ∃ i : Nat, v40 = .int .i64 i ∧ Aside0 (core_Check.l0 kq l0_0 i = some r) ∧ Aside0 (kq ≤ k) ∧ Aside0 (core_Check.Inv w gm (.cells #[.slice A0_0 l0_0.length c0_0, .int .i64 a0_1] 29 (0, 0)) ((l0_0.take i).map (·.f0)) w'))
 case atStart => exact ⟨0, rfl, HL, ⟨Nat.le_refl _⟩, HI⟩
 case round =>
  clear HL HI h0
  obtain ⟨i, rfl, HL, HK, HI⟩ := hrel
  cases gk with
  | zero => exact absurd HL.out (by simp [core_Check.l0])
  | succ k1 =>
   have h := HL.out
   clear HL
   simp only [core_Check.l0] at h
   by_cases c1 : (i : Int) < (l0_0.length : Int)
   ·rw [if_pos c1] at h
    have b1' : decide (i < l0_0.length) = true := decide_eq_true (by omega)
    have q1 : (i : Int) < (l0_0.length : Int) := c1
    clear c1
    rw [if_pos (by omega)] at h
    obtain ⟨ad, A1, c1, e, hx0, hx1, hl1, hi1⟩ := at_T44 HR.out (i : Int) (by omega) q1
    cases e
    rw [Int.toNat_natCast] at hx0 hx1
    replace hx0 := (HI.out.2.2.cell (World.block_lt_of_cell? w _ hx0)).trans hx0
    replace hx1 := (HI.out.2.2.cell (World.block_lt_of_cell? w _ hx1)).trans hx1
    have HI1 := aK hi1; have HL1 := aK hl1; clear hi1 hl1
    have q0 : (0 : Int) ≤ (i : Int) := by omega
    have q2 : (i : Int) ≤ 300 := by have := H256.out; omega
    generalize hrho : rd_T44 l0_0 (i : Int) = rho at *
    have HRHO := aK hrho; clear hrho
    by_cases c2 : ((l0_0.take (i : Int).toNat).any fun r => r.f0.data.toList == rho.f0.data.toList) = true
    ·rw [if_pos c2] at h
     have HSEEN := aK (core_Check.seen.1 c2)
     rw [Int.toNat_natCast] at HSEEN
     clear c2
     obtain rfl := Option.some.inj h
     clear h
     go_wp2_with (first
      | ((with_reducible refine gate_dst (N := 5) rfl ?_); refine box_event (N := 5) rfl rfl (cs := #[.string (⟨#[]⟩ : ByteArray), .slice none 0 0]) (t := 44) ?hr ?_; (case hr => first | (go_simp; done) | (go_simp; rfl)); intro g5 hg5 w3 hbox hb3; have n1_ := aK (HI.out.below hb3); have H5 := aK hbox; have HG := aK (show w.heap.size < g5 ∧ gm < g5 by rw [hg5]; exact HI.out.size); clear HI; have HI := n1_; clear n1_ hb3 hbox hg5)
      | ((with_reducible refine gate_store (t := 44) (p := 5) rfl ?_); refine store_whole rfl rfl 44 (.tmp 5) (.tmp 44) rfl (cs := #[.string rho.f0, .slice A1 rho.f1.length c1]) rfl rfl H5.out rfl (by kernel_rfl) (by simp [Value.oneCell']) ?_; intro w4 hbox4 hgr _; have n1_ := aK (HI.out.grown hgr HG.out.1 HG.out.2); have n2_ := aK hbox4; clear HI H5; have HI := n1_; have H5 := n2_; clear n1_ n2_ hbox4 hgr; have h0 := blk_cell HI.out.1 0; have h5a := blk_cell H5.out 0; have h5b := blk_cell H5.out 1; simp only [List.getElem?_toArray, List.getElem?_cons_zero, List.getElem?_cons_succ] at h0 h5a h5b)
      | ((with_reducible refine gate_dst (N := 49) rfl ?_); (have hmm := HI.out.2.1); (obtain ⟨m, hm, hns⟩ := hmm); refine wpList_map_hit (enc := Value.string) _ rfl (.tmp 46) (.tmp 48) 64 rfl (string_keys Tryd.underlying9) Tryd.underlying64 core_Check.zeroE gm m hm rho.f0 rfl rfl qDoor16_5 ?_; intro v hv; clear hv hm hns))
     go_ret
     exact ⟨rfl, HI.out.2.2⟩
    rw [if_neg c2] at h
    have HSEEN := aK (fun h => c2 (core_Check.seen.2 h))
    rw [Int.toNat_natCast] at HSEEN
    clear c2
    obtain ⟨b, hn, h⟩ := Option.bind_eq_some_iff.1 h
    have HN := aK hn; clear hn
    cases b with
    | false =>
     obtain rfl := Option.some.inj h
     clear h
     go_wp2_with (first
      | ((with_reducible refine gate_dst (N := 5) rfl ?_); refine box_event (N := 5) rfl rfl (cs := #[.string (⟨#[]⟩ : ByteArray), .slice none 0 0]) (t := 44) ?hr ?_; (case hr => first | (go_simp; done) | (go_simp; rfl)); intro g5 hg5 w3 hbox hb3; have n1_ := aK (HI.out.below hb3); have H5 := aK hbox; have HG := aK (show w.heap.size < g5 ∧ gm < g5 by rw [hg5]; exact HI.out.size); clear HI; have HI := n1_; clear n1_ hb3 hbox hg5)
      | ((with_reducible refine gate_store (t := 44) (p := 5) rfl ?_); refine store_whole rfl rfl 44 (.tmp 5) (.tmp 44) rfl (cs := #[.string rho.f0, .slice A1 rho.f1.length c1]) rfl rfl H5.out rfl (by kernel_rfl) (by simp [Value.oneCell']) ?_; intro w4 hbox4 hgr _; have n1_ := aK (HI.out.grown hgr HG.out.1 HG.out.2); have n2_ := aK hbox4; clear HI H5; have HI := n1_; have H5 := n2_; clear n1_ n2_ hbox4 hgr; have h0 := blk_cell HI.out.1 0; have h5a := blk_cell H5.out 0; have h5b := blk_cell H5.out 1; simp only [List.getElem?_toArray, List.getElem?_cons_zero, List.getElem?_cons_succ] at h0 h5a h5b)
      | ((with_reducible refine gate_dst (N := 49) rfl ?_); (have hmm := HI.out.2.1); (obtain ⟨m, hm, hns⟩ := hmm); refine wpList_map_miss (enc := Value.string) _ rfl (.tmp 46) (.tmp 48) 64 rfl (string_keys Tryd.underlying9) Tryd.underlying64 core_Check.zeroE gm m hm rho.f0 rfl rfl qDoor16_5 ?_; clear hm hns)
      | (go_at_call 19; refine (lexis_Name.calls k1 rho.f0 false _ HN.out).mono ?_; rintro e w5 ⟨rfl, hd⟩; have n1_ := aK (HI.out.below hd.below); have n2_ := aK (blk_below H5.out hd.below); clear HI H5 h0 h5a h5b; have HI := n1_; have H5 := n2_; clear n1_ n2_ hd; have h0 := blk_cell HI.out.1 0; have h5a := blk_cell H5.out 0; have h5b := blk_cell H5.out 1; simp only [List.getElem?_toArray, List.getElem?_cons_zero, List.getElem?_cons_succ] at h0 h5a h5b))
     go_ret
     exact ⟨rfl, HI.out.2.2⟩
    | true =>
     rw [if_pos rfl] at h
     obtain ⟨b2, hr, h⟩ := Option.bind_eq_some_iff.1 h
     have HR1 := aK hr; clear hr
     cases b2 with
     | false =>
      obtain rfl := Option.some.inj h
      clear h
      go_wp2_with (first
       | ((with_reducible refine gate_dst (N := 5) rfl ?_); refine box_event (N := 5) rfl rfl (cs := #[.string (⟨#[]⟩ : ByteArray), .slice none 0 0]) (t := 44) ?hr ?_; (case hr => first | (go_simp; done) | (go_simp; rfl)); intro g5 hg5 w3 hbox hb3; have n1_ := aK (HI.out.below hb3); have H5 := aK hbox; have HG := aK (show w.heap.size < g5 ∧ gm < g5 by rw [hg5]; exact HI.out.size); clear HI; have HI := n1_; clear n1_ hb3 hbox hg5)
       | ((with_reducible refine gate_store (t := 44) (p := 5) rfl ?_); refine store_whole rfl rfl 44 (.tmp 5) (.tmp 44) rfl (cs := #[.string rho.f0, .slice A1 rho.f1.length c1]) rfl rfl H5.out rfl (by kernel_rfl) (by simp [Value.oneCell']) ?_; intro w4 hbox4 hgr _; have n1_ := aK (HI.out.grown hgr HG.out.1 HG.out.2); have n2_ := aK hbox4; clear HI H5; have HI := n1_; have H5 := n2_; clear n1_ n2_ hbox4 hgr; have h0 := blk_cell HI.out.1 0; have h5a := blk_cell H5.out 0; have h5b := blk_cell H5.out 1; simp only [List.getElem?_toArray, List.getElem?_cons_zero, List.getElem?_cons_succ] at h0 h5a h5b)
       | ((with_reducible refine gate_dst (N := 49) rfl ?_); (have hmm := HI.out.2.1); (obtain ⟨m, hm, hns⟩ := hmm); refine wpList_map_miss (enc := Value.string) _ rfl (.tmp 46) (.tmp 48) 64 rfl (string_keys Tryd.underlying9) Tryd.underlying64 core_Check.zeroE gm m hm rho.f0 rfl rfl qDoor16_5 ?_; clear hm hns)
       | (go_at_call 19; refine (lexis_Name.calls k1 rho.f0 true _ HN.out).mono ?_; rintro e w5 ⟨rfl, hd⟩; have n1_ := aK (HI.out.below hd.below); have n2_ := aK (blk_below H5.out hd.below); clear HI H5 h0 h5a h5b; have HI := n1_; have H5 := n2_; clear n1_ n2_ hd; have h0 := blk_cell HI.out.1 0; have h5a := blk_cell H5.out 0; have h5b := blk_cell H5.out 1; simp only [List.getElem?_toArray, List.getElem?_cons_zero, List.getElem?_cons_succ] at h0 h5a h5b)
       | (go_at_call 20; refine (core_right.calls k1 A1 c1 rho.f1 (l0_0.length : Int) false _ (Kd.C_below HI1.out HI.out.2.2) HL1.out HR1.out).mono ?_; rintro e w6 ⟨rfl, hb6⟩; have n1_ := aK (HI.out.below hb6); have n2_ := aK (blk_below H5.out hb6); clear HI H5 h0 h5a h5b; have HI := n1_; have H5 := n2_; clear n1_ n2_ hb6; have h0 := blk_cell HI.out.1 0; have h5a := blk_cell H5.out 0; have h5b := blk_cell H5.out 1; simp only [List.getElem?_toArray, List.getElem?_cons_zero, List.getElem?_cons_succ] at h0 h5a h5b))
      go_ret
      exact ⟨rfl, HI.out.2.2⟩
     | true =>
      rw [if_pos rfl] at h
      have HL := aK h; clear h
      have HTAKE : Aside0 ((l0_0.take (i + 1)).map (·.f0) = (l0_0.take i).map (·.f0) ++ [rho.f0]) := ⟨by
       rw [List.take_succ_eq_append_getElem (by omega), List.map_append, ← HRHO.out, rd_T44, Int.toNat_natCast, List.getD_eq_getElem?_getD, List.getElem?_eq_getElem (by omega)]
       rfl⟩
      go_wp2_with (first
       | ((with_reducible refine gate_dst (N := 5) rfl ?_); refine box_event (N := 5) rfl rfl (cs := #[.string (⟨#[]⟩ : ByteArray), .slice none 0 0]) (t := 44) ?hr ?_; (case hr => first | (go_simp; done) | (go_simp; rfl)); intro g5 hg5 w3 hbox hb3; have n1_ := aK (HI.out.below hb3); have H5 := aK hbox; have HG := aK (show w.heap.size < g5 ∧ gm < g5 by rw [hg5]; exact HI.out.size); clear HI; have HI := n1_; clear n1_ hb3 hbox hg5)
       | ((with_reducible refine gate_store (t := 44) (p := 5) rfl ?_); refine store_whole rfl rfl 44 (.tmp 5) (.tmp 44) rfl (cs := #[.string rho.f0, .slice A1 rho.f1.length c1]) rfl rfl H5.out rfl (by kernel_rfl) (by simp [Value.oneCell']) ?_; intro w4 hbox4 hgr _; have n1_ := aK (HI.out.grown hgr HG.out.1 HG.out.2); have n2_ := aK hbox4; clear HI H5; have HI := n1_; have H5 := n2_; clear n1_ n2_ hbox4 hgr; have h0 := blk_cell HI.out.1 0; have h5a := blk_cell H5.out 0; have h5b := blk_cell H5.out 1; simp only [List.getElem?_toArray, List.getElem?_cons_zero, List.getElem?_cons_succ] at h0 h5a h5b)
       | ((with_reducible refine gate_dst (N := 49) rfl ?_); (have hmm := HI.out.2.1); (obtain ⟨m, hm, hns⟩ := hmm); refine wpList_map_miss (enc := Value.string) _ rfl (.tmp 46) (.tmp 48) 64 rfl (string_keys Tryd.underlying9) Tryd.underlying64 core_Check.zeroE gm m hm rho.f0 rfl rfl qDoor16_5 ?_; clear hm hns)
       | (go_at_call 19; refine (lexis_Name.calls k1 rho.f0 true _ HN.out).mono ?_; rintro e w5 ⟨rfl, hd⟩; have n1_ := aK (HI.out.below hd.below); have n2_ := aK (blk_below H5.out hd.below); clear HI H5 h0 h5a h5b; have HI := n1_; have H5 := n2_; clear n1_ n2_ hd; have h0 := blk_cell HI.out.1 0; have h5a := blk_cell H5.out 0; have h5b := blk_cell H5.out 1; simp only [List.getElem?_toArray, List.getElem?_cons_zero, List.getElem?_cons_succ] at h0 h5a h5b)
       | (go_at_call 20; refine (core_right.calls k1 A1 c1 rho.f1 (l0_0.length : Int) true _ (Kd.C_below HI1.out HI.out.2.2) HL1.out HR1.out).mono ?_; rintro e w6 ⟨rfl, hb6⟩; have n1_ := aK (HI.out.below hb6); have n2_ := aK (blk_below H5.out hb6); clear HI H5 h0 h5a h5b; have HI := n1_; have H5 := n2_; clear n1_ n2_ hb6; have h0 := blk_cell HI.out.1 0; have h5a := blk_cell H5.out 0; have h5b := blk_cell H5.out 1; simp only [List.getElem?_toArray, List.getElem?_cons_zero, List.getElem?_cons_succ] at h0 h5a h5b)
       | (at_mapUpdate; (have hmm := HI.out.2.1); (obtain ⟨m, hm, hns⟩ := hmm); refine wpList_map_new (enc := Value.string) _ rfl (.tmp 68) (.tmp 70) (.tmp 71) 64 rfl (string_keys Tryd.underlying9) Tryd.underlying64 gm m hm rho.f0 (.int .i64 i) qDoor16_5 rfl rfl rfl ?_; intro w7 hm7 hgr7; have n1_ := aK (show core_Check.Inv w gm (.cells #[.slice (some ad) l0_0.length c0_0, .int .i64 a0_1] 29 (0, 0)) ((l0_0.take (i + 1)).map (·.f0)) w7 from ⟨(hgr7.block _ (blk_lt HI.out.1) (by have := HGM.out; simp; omega)).trans HI.out.1, ⟨_, hm7, by rw [List.map_append, hns, HTAKE.out]; rfl⟩, pw_below_grown HI.out.2.2 (some gm) HI.out.2.2.size hgr7 (fun k hk => by cases hk; have := HGM.out; omega)⟩); clear HI hm7 hgr7 hm hns h0 h5a h5b H5; have HI := n1_; clear n1_))
      go_roundg k1
      case measure => have := HK.out; omega
      case rel => exact ⟨i + 1, by go_num, ⟨by rw [show ((i + 1 : Nat) : Int) = (i : Int) + 1 from by omega]; exact HL.out⟩, ⟨by have := HK.out; omega⟩, HI⟩
   ·rw [if_neg c1] at h
    have b1 : decide (i < l0_0.length) = false := decide_eq_false (by omega)
    clear c1
    obtain rfl := Option.some.inj h
    clear h
    go_wp2
    go_ret
    exact ⟨rfl, HI.out.2.2⟩
mutual
def core_Parts.j0 : Nat → List (S55) → Int → Bool → Option (Int × Int)
 | 0, _, _, _ => none
 | k + 1, x0, x1, x16 => if x16 = true then (some ((-1), (-1))) else (if 0 ≤ x1 then (if x1 < (x0.length : Int) then ((core_arity.f k ((rd_T55 x0 x1).f0)).bind fun t209 => (if t209 = 0 then (core_Parts.j1 k x0 x1 t209 true) else (core_Parts.j1 k x0 x1 t209 (x1 == 0)))) else (none)) else (none))
def core_Parts.j1 : Nat → List (S55) → Int → Int → Bool → Option (Int × Int)
 | 0, _, _, _, _ => none
 | k + 1, x0, x1, x6, x28 => if x28 = true then (some ((-1), (-1))) else (if x6 = 1 then (some (wrap64 (x1 - 1), (-1))) else (core_Parts.l0 k x0 x1 (wrap64 (x1 - 1)) 1))
def core_Parts.l0 : Nat → List (S55) → Int → Int → Int → Option (Int × Int)
 | 0, _, _, _, _ => none
 | k + 1, x0, x1, x7, x8 => if x7 ≥ 0 then (if 0 ≤ x7 then (if x7 < (x0.length : Int) then ((core_arity.f k ((rd_T55 x0 x7).f0)).bind fun t211 => (if (wrap64 (x8 + (wrap64 (t211 - 1)))) = 0 then (some (wrap64 (x7 - 1), wrap64 (x1 - 1))) else (core_Parts.l0 k x0 x1 (wrap64 (x7 - 1)) (wrap64 (x8 + (wrap64 (t211 - 1))))))) else (none)) else (none)) else (some ((-1), wrap64 (x1 - 1)))
end
def core_Parts.f (k : Nat) (l0 : List (S55)) (a1 : Int) : Option (Int × Int) := if a1 < 0 then (core_Parts.j0 k l0 a1 true) else (core_Parts.j0 k l0 a1 (decide (a1 ≥ (l0.length : Int))))
theorem core_Parts.mono_l : ∀ k, (∀ y0 y1 y2, LeO (core_Parts.j0 k y0 y1 y2) (core_Parts.j0 (k + 1) y0 y1 y2)) ∧ (∀ y0 y1 y2 y3, LeO (core_Parts.j1 k y0 y1 y2 y3) (core_Parts.j1 (k + 1) y0 y1 y2 y3)) ∧ (∀ y0 y1 y2 y3, LeO (core_Parts.l0 k y0 y1 y2 y3) (core_Parts.l0 (k + 1) y0 y1 y2 y3))
 | 0 => ⟨fun _ _ _ r h => by simp [core_Parts.j0] at h, fun _ _ _ _ r h => by simp [core_Parts.j1] at h, fun _ _ _ _ r h => by simp [core_Parts.l0] at h⟩
 | k + 1 => by
  obtain ⟨ih0, ih1, ih2⟩ := core_Parts.mono_l k
  refine ⟨?_, ?_, ?_⟩
  ·intro y0 y1 y2
   unfold core_Parts.j0
   repeat' first
   | (with_reducible exact ih0 _ _ _)
   | (with_reducible exact ih1 _ _ _ _)
   | (with_reducible exact ih2 _ _ _ _)
   | (with_reducible exact core_arity.mono _ _)
   | (with_reducible exact LeO.refl _)
   | (with_reducible exact LeO.none _)
   | (with_reducible refine LeO.ite ?_ ?_)
   | (with_reducible refine LeO.bind ?_ (fun _ => ?_))
   | exact ih0 _ _ _
   | exact ih1 _ _ _ _
   | exact ih2 _ _ _ _
   | exact core_arity.mono _ _
   | exact LeO.none _
   | refine LeO.ite ?_ ?_
   | refine LeO.bind ?_ (fun _ => ?_)
  ·intro y0 y1 y2 y3
   unfold core_Parts.j1
   repeat' first
   | (with_reducible exact ih0 _ _ _)
   | (with_reducible exact ih1 _ _ _ _)
   | (with_reducible exact ih2 _ _ _ _)
   | (with_reducible exact core_arity.mono _ _)
   | (with_reducible exact LeO.refl _)
   | (with_reducible exact LeO.none _)
   | (with_reducible refine LeO.ite ?_ ?_)
   | (with_reducible refine LeO.bind ?_ (fun _ => ?_))
   | exact ih0 _ _ _
   | exact ih1 _ _ _ _
   | exact ih2 _ _ _ _
   | exact core_arity.mono _ _
   | exact LeO.none _
   | refine LeO.ite ?_ ?_
   | refine LeO.bind ?_ (fun _ => ?_)
  ·intro y0 y1 y2 y3
   unfold core_Parts.l0
   repeat' first
   | (with_reducible exact ih0 _ _ _)
   | (with_reducible exact ih1 _ _ _ _)
   | (with_reducible exact ih2 _ _ _ _)
   | (with_reducible exact core_arity.mono _ _)
   | (with_reducible exact LeO.refl _)
   | (with_reducible exact LeO.none _)
   | (with_reducible refine LeO.ite ?_ ?_)
   | (with_reducible refine LeO.bind ?_ (fun _ => ?_))
   | exact ih0 _ _ _
   | exact ih1 _ _ _ _
   | exact ih2 _ _ _ _
   | exact core_arity.mono _ _
   | exact LeO.none _
   | refine LeO.ite ?_ ?_
   | refine LeO.bind ?_ (fun _ => ?_)
theorem core_Parts.mono : ∀ a0 a1 k, LeO (core_Parts.f k a0 a1) (core_Parts.f (k + 1) a0 a1) := by
 intro a0 a1 k
 obtain ⟨ih0, ih1, ih2⟩ := core_Parts.mono_l k
 unfold core_Parts.f
 repeat' first
   | (with_reducible exact ih0 _ _ _)
   | (with_reducible exact ih1 _ _ _ _)
   | (with_reducible exact ih2 _ _ _ _)
   | (with_reducible exact core_arity.mono _ _)
   | (with_reducible exact LeO.refl _)
   | (with_reducible exact LeO.none _)
   | (with_reducible refine LeO.ite ?_ ?_)
   | (with_reducible refine LeO.bind ?_ (fun _ => ?_))
   | exact ih0 _ _ _
   | exact ih1 _ _ _ _
   | exact ih2 _ _ _ _
   | exact core_arity.mono _ _
   | exact LeO.none _
   | refine LeO.ite ?_ ?_
   | refine LeO.bind ?_ (fun _ => ?_)
set_option maxHeartbeats 8000000 in
set_option maxRecDepth 100000 in
theorem core_Parts.calls (k : Nat) (A0 : Option Addr) (c0 : Nat) (l0 : List (S55)) (a1 : Int) (r1 : Int) (r2 : Int) (w : World) (hr0 : Kd.C k55 w A0 l0.length l0) (hc0 : l0.length ≤ c0) (h : core_Parts.f k l0 a1 = some (r1, r2)) :
  Calls Tryd.prog 15 #[.slice A0 l0.length c0, .int .i64 a1] w fun e w' => e = .returned (.tuple #[.int .i64 r1, .int .i64 r2]) ∧ Drawn0 w w' := by
 have HR0 := aK hr0; have HC0 := aK hc0; clear hr0 hc0
 have H : (if a1 < 0 then (core_Parts.j0 k l0 a1 true) else (core_Parts.j0 k l0 a1 (decide (a1 ≥ (l0.length : Int))))) = some (r1, r2) := h
 clear h; have HC3 := aK H; clear H
 go_enter Tryd.func15, Tryd.ntmps15
 go_upto_region 1 with (fail)
 go_cut [16] (fun v16 wc => ∃ (kq : Nat) (x16_2 : Bool), v16 = .bool x16_2 ∧ Aside0 (core_Parts.j0 kq l0 a1 x16_2 = some (r1, r2)) ∧ Aside0 (kq ≤ k) ∧ Drawn0 w wc)
 case first =>
  have H := HC3.out
  clear HC3
  by_cases c4 : a1 < 0
  ·rw [if_pos c4] at H
   have c4b0 : decide (a1 < 0) = true := decide_eq_true c4
   clear c4
   (first | rw [c4b0] | (simp only [i64_w, i32_w]; rw [c4b0]) | skip)
   have H' := aK H
   clear H
   go_wp2
   go_meet
   case rel => exact ⟨_, (true), qDoor16_1, H', ⟨by first | omega | exact Nat.le_refl _⟩, qDoor16_0⟩
  ·rw [if_neg c4] at H
   have c4b0 : decide (a1 < 0) = false := decide_eq_false c4
   clear c4
   (first | rw [c4b0] | (simp only [i64_w, i32_w]; rw [c4b0]) | skip)
   have H' := aK H
   clear H
   go_wp2
   go_meet
   case rel => exact ⟨_, (decide (a1 ≥ (l0.length : Int))), qDoor16_1, H', ⟨by first | omega | exact Nat.le_refl _⟩, qDoor16_0⟩
 case rest =>
  clear HC3; (try clear c1); (try clear p2); (try clear c4); (try clear c4b0)
  obtain ⟨kq, x16_2, rfl, HA, HJ2, ⟨mc2, rfl⟩⟩ := hcut
  cases kq with
  | zero => exact absurd HA.out (by simp [core_Parts.j0])
  | succ kj2 =>
   have H := HA.out
   clear HA
   simp only [core_Parts.j0] at H
   by_cases c5 : x16_2 = true
   ·subst c5
    have H1 : (some ((-1), (-1))) = some (r1, r2) := by rw [if_pos rfl] at H; exact H
    clear H
    have H := H1
    clear H1
    simp only [Option.some.injEq, Prod.mk.injEq] at H
    obtain ⟨rfl, rfl⟩ := H
    go_wp2
    go_ret2
    exact ⟨qDoor16_1, qDoor16_0⟩
   ·replace c5 := Bool.eq_false_iff.mpr c5
    subst c5
    have H1 : (if 0 ≤ a1 then (if a1 < (l0.length : Int) then ((core_arity.f kj2 ((rd_T55 l0 a1).f0)).bind fun t209 => (if t209 = 0 then (core_Parts.j1 kj2 l0 a1 t209 true) else (core_Parts.j1 kj2 l0 a1 t209 (a1 == 0)))) else (none)) else (none)) = some (r1, r2) := by rw [if_neg (show ¬ (false = true) by decide)] at H; exact H
    clear H
    have H := H1
    clear H1
    by_cases c6 : 0 ≤ a1
    ·rw [if_pos c6] at H
     have c6b0 : decide (0 ≤ a1) = true := decide_eq_true c6
     clear c6
     by_cases c7 : a1 < (l0.length : Int)
     ·rw [if_pos c7] at H
      have c7b0 : decide (a1 < (l0.length : Int)) = true := decide_eq_true c7
      clear c7
      replace H := Option.bind_eq_some_iff.mp H
      obtain ⟨t209, A80, H⟩ := H
      replace H : (if t209 = 0 then (core_Parts.j1 kj2 l0 a1 t209 true) else (core_Parts.j1 kj2 l0 a1 t209 (a1 == 0))) = some (r1, r2) := H
      have A8 := aK A80; clear A80; have HC9 := aK H; clear H
      have p208 : 0 ≤ (a1 : Int) := of_decide_eq_true qDoor16_4
      have q208 : a1 < (l0.length : Int) := of_decide_eq_true qDoor16_4
      obtain ⟨ad208, e208, hx208_0, hx208_1, hx208_2, hx208_3, hx208_4, hx208_5, hx208_6⟩ := at_T55 HR0.out a1 p208 q208
      cases e208
      replace p208 := eq_true p208
      replace q208 := eq_true q208
      go_upto_region 4 with (first | ((with_reducible refine gate_callee (f := 24) rfl ?_); refine goesL_ (some 22) rfl rfl Tryd.func24 (by kernel_rfl) rfl #[.int .i64 ((rd_T55 l0 a1).f0)] rfl qDoor16_2 ?_; (with_reducible refine (core_arity.calls kj2 ((rd_T55 l0 a1).f0) t209 _ A8.out).mono ?_); rintro e w' ⟨rfl, ⟨nd, rfl⟩⟩; refine ⟨_, rfl, ?_⟩))
      (try simp only [Act.put, List.setIfInBounds_toArray, List.set_cons_zero, List.set_cons_succ])
      go_cut [28] (fun v28 wc => ∃ (kq : Nat) (x28_8 : Bool), v28 = .bool x28_8 ∧ Aside0 (core_Parts.j1 kq l0 a1 t209 x28_8 = some (r1, r2)) ∧ Aside0 (kq ≤ kj2) ∧ Drawn0 w wc)
      case first =>
       have H := HC9.out
       clear HC9
       by_cases c10 : t209 = 0
       ·rw [if_pos c10] at H
        have c10b0 : (t209 == 0) = true := beq_iff_eq.mpr c10
        have c10b1 : (t209 != 0) = false := bne_eq_false_iff_eq.mpr c10
        clear c10
        (first | rw [c10b0] | (simp only [i64_w, i32_w]; rw [c10b0]) | skip)
        have H' := aK H
        clear H
        go_wp2
        go_meet
        case rel => exact ⟨_, (true), qDoor16_1, H', ⟨by have := HJ2.out; first | omega | exact Nat.le_refl _⟩, qDoor16_0⟩
       ·rw [if_neg c10] at H
        have c10b0 : (t209 == 0) = false := beq_eq_false_iff_ne.mpr c10
        have c10b1 : (t209 != 0) = true := bne_iff_ne.mpr c10
        (first | rw [c10b0] | (simp only [i64_w, i32_w]; rw [c10b0]) | skip)
        have H' := aK H
        clear H
        go_wp2
        go_meet
        case rel => exact ⟨_, ((a1 == 0)), qDoor16_1, H', ⟨by have := HJ2.out; first | omega | exact Nat.le_refl _⟩, qDoor16_0⟩
      case rest =>
       clear HC9; (try clear c1); (try clear c2); (try clear p2); (try clear q2); (try clear hx2); (try clear c4); (try clear c4b0); (try clear c5); (try clear c6); (try clear c6b0); (try clear c7); (try clear c7b0); (try clear c10); (try clear c10b0); (try clear c10b1); (try clear hx208_0); (try clear hx208_1); (try clear hx208_2); (try clear hx208_3); (try clear hx208_4); (try clear hx208_5); (try clear hx208_6); (try clear p2); (try clear p208); (try clear q208)
       obtain ⟨kq, x28_8, rfl, HA, HJ8, ⟨mc8, rfl⟩⟩ := hcut
       cases kq with
       | zero => exact absurd HA.out (by simp [core_Parts.j1])
       | succ kj8 =>
        have H := HA.out
        clear HA
        simp only [core_Parts.j1] at H
        by_cases c11 : x28_8 = true
        ·subst c11
         have H1 : (some ((-1), (-1))) = some (r1, r2) := by rw [if_pos rfl] at H; exact H
         clear H
         have H := H1
         clear H1
         simp only [Option.some.injEq, Prod.mk.injEq] at H
         obtain ⟨rfl, rfl⟩ := H
         go_wp2
         go_ret2
         exact ⟨qDoor16_1, qDoor16_0⟩
        ·replace c11 := Bool.eq_false_iff.mpr c11
         subst c11
         have H1 : (if t209 = 1 then (some (wrap64 (a1 - 1), (-1))) else (core_Parts.l0 kj8 l0 a1 (wrap64 (a1 - 1)) 1)) = some (r1, r2) := by rw [if_neg (show ¬ (false = true) by decide)] at H; exact H
         clear H
         have H := H1
         clear H1
         by_cases c12 : t209 = 1
         ·rw [if_pos c12] at H
          have c12b0 : (t209 == 1) = true := beq_iff_eq.mpr c12
          have c12b1 : (t209 != 1) = false := bne_eq_false_iff_eq.mpr c12
          clear c12
          simp only [Option.some.injEq, Prod.mk.injEq] at H
          obtain ⟨rfl, rfl⟩ := H
          go_wp2
          go_ret2
          exact ⟨qDoor16_1, qDoor16_0⟩
         ·rw [if_neg c12] at H
          have c12b0 : (t209 == 1) = false := beq_eq_false_iff_ne.mpr c12
          have c12b1 : (t209 != 1) = true := bne_iff_ne.mpr c12
          have H' := aK H
          clear H
          go_wp2
          go_loopg [7, 8] kj8 (fun kq v7 v8 w' => ∃ (x7_3 : Int) (x8_3 : Int), v7 = .int .i64 x7_3 ∧ v8 = .int .i64 x8_3 ∧ Aside0 (core_Parts.l0 kq l0 a1 x7_3 x8_3 = some (r1, r2)) ∧ Aside0 (kq ≤ kj8) ∧ Drawn0 w w')
          case atStart => exact ⟨(wrap64 (a1 - 1)), (1), qDoor16_1, qDoor16_1, H', ⟨Nat.le_refl _⟩, qDoor16_0⟩
          case round =>
           clear H'; (try clear c1); (try clear c2); (try clear p2); (try clear q2); (try clear hx2); (try clear c4); (try clear c4b0); (try clear c5); (try clear c6); (try clear c6b0); (try clear p6); (try clear c7); (try clear c7b0); (try clear c8); (try clear c10); (try clear c10b0); (try clear c10b1); (try clear c11); (try clear c12); (try clear c12b0); (try clear c12b1); (try clear hx208_0); (try clear hx208_1); (try clear hx208_2); (try clear hx208_3); (try clear hx208_4); (try clear hx208_5); (try clear hx208_6); (try clear p2); (try clear p208); (try clear q2); (try clear q208)
           obtain ⟨x7_3, x8_3, rfl, rfl, HA, HK3, ⟨m3, rfl⟩⟩ := hrel
           cases gk with
           | zero => exact absurd HA.out (by simp [core_Parts.l0])
           | succ k3 =>
            have H := HA.out
            clear HA
            simp only [core_Parts.l0] at H
            by_cases c13 : x7_3 ≥ 0
            ·rw [if_pos c13] at H
             have c13b0 : decide (0 ≤ x7_3) = true := decide_eq_true c13
             clear c13
             by_cases c14 : 0 ≤ x7_3
             ·rw [if_pos c14] at H
              have c14b0 : decide (0 ≤ x7_3) = true := decide_eq_true c14
              clear c14
              by_cases c15 : x7_3 < (l0.length : Int)
              ·rw [if_pos c15] at H
               have c15b0 : decide (x7_3 < (l0.length : Int)) = true := decide_eq_true c15
               clear c15
               replace H := Option.bind_eq_some_iff.mp H
               obtain ⟨t211, A160, H⟩ := H
               replace H : (if (wrap64 (x8_3 + (wrap64 (t211 - 1)))) = 0 then (some (wrap64 (x7_3 - 1), wrap64 (a1 - 1))) else (core_Parts.l0 k3 l0 a1 (wrap64 (x7_3 - 1)) (wrap64 (x8_3 + (wrap64 (t211 - 1)))))) = some (r1, r2) := H
               have A16 := aK A160; clear A160
               by_cases c17 : (wrap64 (x8_3 + (wrap64 (t211 - 1)))) = 0
               ·rw [if_pos c17] at H
                have c17b0 : ((wrap64 (x8_3 + (wrap64 (t211 - 1)))) == 0) = true := beq_iff_eq.mpr c17
                have c17b1 : ((wrap64 (x8_3 + (wrap64 (t211 - 1)))) != 0) = false := bne_eq_false_iff_eq.mpr c17
                clear c17
                simp only [Option.some.injEq, Prod.mk.injEq] at H
                obtain ⟨rfl, rfl⟩ := H
                have p210 : 0 ≤ (x7_3 : Int) := of_decide_eq_true qDoor16_4
                have q210 : x7_3 < (l0.length : Int) := of_decide_eq_true qDoor16_4
                obtain ⟨ad210, e210, hx210_0, hx210_1, hx210_2, hx210_3, hx210_4, hx210_5, hx210_6⟩ := at_T55 HR0.out x7_3 p210 q210
                obtain rfl : ad208 = ad210 := (by injection e210)
                replace p210 := eq_true p210
                replace q210 := eq_true q210
                go_wp2_with (first | ((with_reducible refine gate_callee (f := 24) rfl ?_); refine goesL_ (some 45) rfl rfl Tryd.func24 (by kernel_rfl) rfl #[.int .i64 ((rd_T55 l0 x7_3).f0)] rfl qDoor16_2 ?_; (with_reducible refine (core_arity.calls k3 ((rd_T55 l0 x7_3).f0) t211 _ A16.out).mono ?_); rintro e w' ⟨rfl, ⟨nd, rfl⟩⟩; refine ⟨_, rfl, ?_⟩))
                go_ret2
                exact ⟨qDoor16_1, qDoor16_0⟩
               ·rw [if_neg c17] at H
                have c17b0 : ((wrap64 (x8_3 + (wrap64 (t211 - 1)))) == 0) = false := beq_eq_false_iff_ne.mpr c17
                have c17b1 : ((wrap64 (x8_3 + (wrap64 (t211 - 1)))) != 0) = true := bne_iff_ne.mpr c17
                have H' := aK H
                clear H
                have p210 : 0 ≤ (x7_3 : Int) := of_decide_eq_true qDoor16_4
                have q210 : x7_3 < (l0.length : Int) := of_decide_eq_true qDoor16_4
                obtain ⟨ad210, e210, hx210_0, hx210_1, hx210_2, hx210_3, hx210_4, hx210_5, hx210_6⟩ := at_T55 HR0.out x7_3 p210 q210
                obtain rfl : ad208 = ad210 := (by injection e210)
                replace p210 := eq_true p210
                replace q210 := eq_true q210
                go_wp2_with (first | ((with_reducible refine gate_callee (f := 24) rfl ?_); refine goesL_ (some 45) rfl rfl Tryd.func24 (by kernel_rfl) rfl #[.int .i64 ((rd_T55 l0 x7_3).f0)] rfl qDoor16_2 ?_; (with_reducible refine (core_arity.calls k3 ((rd_T55 l0 x7_3).f0) t211 _ A16.out).mono ?_); rintro e w' ⟨rfl, ⟨nd, rfl⟩⟩; refine ⟨_, rfl, ?_⟩))
                go_roundg k3
                case measure => have := HJ2.out; have := HJ8.out; have := HK3.out; omega
                case rel => exact ⟨(wrap64 (x7_3 - 1)), (wrap64 (x8_3 + (wrap64 (t211 - 1)))), qDoor16_1, qDoor16_1, H', ⟨by have := HJ2.out; have := HJ8.out; have := HK3.out; omega⟩, qDoor16_0⟩
              ·rw [if_neg c15] at H
               exact absurd H (by simp)
             ·rw [if_neg c14] at H
              exact absurd H (by simp)
            ·rw [if_neg c13] at H
             have c13b0 : decide (0 ≤ x7_3) = false := decide_eq_false c13
             clear c13
             simp only [Option.some.injEq, Prod.mk.injEq] at H
             obtain ⟨rfl, rfl⟩ := H
             go_wp2
             go_ret2
             exact ⟨qDoor16_1, qDoor16_0⟩
     ·rw [if_neg c7] at H
      exact absurd H (by simp)
    ·rw [if_neg c6] at H
     exact absurd H (by simp)
end Go.Proofs.YtihiicjnjhideaaDoor.PAll
end
