/- Parts of the proof of coreRight: RightWalk, Open, CoreOpen, GramOpen. No condition beyond each lemma's own. -/
import Derived.ChangeSlices
import Derived.KernelRfl
import Derived.SizedLaws
import Derived.Test.YtihiicjnjhideaaDoorTR0
import Derived.Test.YtihiicjnjhideaaDoorTR17
import Derived.Test.YtihiicjnjhideaaDoorTR31
import Derived.Test.YtihiicjnjhideaaDoorTR37
section
namespace Go.Proofs.YtihiicjnjhideaaDoor.Build
open Go.RowKit Go.Proofs.YtihiicjnjhideaaDoorW.PrintWords Go.Proofs.YtihiicjnjhideaaDoor.PAll Go.Proofs.YtihiicjnjhideaaDoor.Core Go.Proofs.YtihiicjnjhideaaDoor.Names
set_option linter.unusedVariables false
set_option linter.unusedSimpArgs false
/-- An answer: a fault with its place, or a core grammar that was built. -/
theorem out_two {us : List EU} {rs : List ER} {start : ByteArray} {ts : List T} {l : List CR} {s at_ code : Int} (hfu : ∀ u ∈ us, u.f0.size ≤ 140737488351232) (hfit : ∀ r ∈ rs, FitR r) (hts : Checked rs → Trees rs ts) (h : Out us rs start ts l s at_ code) :
    (l = [] ∧ s = 0 ∧ code ≠ 0 ∧ ∃ i : Nat, at_ = (i : Int) ∧ (i = 0 ∨ i < rs.length)) ∨ (at_ = 0 ∧ code = 0 ∧ Built rs start l s ∧ rs.length ≤ 256) := by
  cases h with
  | shape v h hv => exact .inl ⟨rfl, rfl, by decide, 0, rfl, .inl rfl⟩
  | params h => exact .inl ⟨rfl, rfl, by decide, 0, rfl, .inl rfl⟩
  | twice i r hr h => exact .inl ⟨rfl, rfl, by decide, i, rfl, .inr (List.getElem?_eq_some_iff.1 hr).1⟩
  | unknown i r hr h => exact .inl ⟨rfl, rfl, by decide, i, rfl, .inr (List.getElem?_eq_some_iff.1 hr).1⟩
  | start h => exact .inl ⟨rfl, rfl, by decide, 0, rfl, .inl rfl⟩
  | budget i hi h => exact .inl ⟨rfl, rfl, by decide, i, rfl, .inr hi⟩
  | built L h1 h2 h3 h4 h5 h6 =>
    obtain ⟨v, hv, hv2⟩ := check_any us rs hfu hfit
    have hck := hv2 (hv.det h1)
    exact .inr ⟨rfl, rfl, built_right hck (hts hck) h3 h4 h5 h6, hck.few⟩
section
variable (us : List EU) (rs : List ER) (start : ByteArray) (ts : List T) (Au Ar : Option Addr) (cu cr : Nat) (w : World)
set_option maxHeartbeats 8000000 in
set_option maxRecDepth 100000 in
theorem right_calls (hu : Kd.C kEU w Au us.length us) (hcu : us.length ≤ cu) (hr : Kd.C kER w Ar rs.length rs) (hcr : rs.length ≤ cr) (hfu : ∀ u ∈ us, u.f0.size ≤ 140737488351232) (hfit : ∀ r ∈ rs, FitR r) (hts : Checked rs → Trees rs ts) (hall : ∀ i, i < 4 → w.cell? ⟨0, i, none⟩ = some (.int .u64 ff64)) :
    Calls Tryd.prog 3 #[.agg #[.slice Au us.length cu, .slice Ar rs.length cr], .string start] w fun e w' => e = .returned (.bool true) ∧ Below w.heap.size w w' := by
  have HU := Aside0.mk hu
  have HCU := Aside0.mk hcu
  have HR := Aside0.mk hr
  have HCR := Aside0.mk hcr
  have HFU := Aside0.mk hfu
  have HFIT := Aside0.mk hfit
  have HTS := Aside0.mk hts
  have HALL := Aside0.mk hall
  clear hu hcu hr hcr hfu hfit hts hall
  go_enter Tryd.func3, Tryd.ntmps3
  go_upto_region 4 with (first
    | ((with_reducible refine gate_dst (N := 2) rfl ?_); refine box_event (N := 2) rfl rfl (cs := #[.slice Au us.length cu, .slice Ar rs.length cr]) (t := 25) ?hr2 ?_; (case hr2 => first | (go_simp; done) | (go_simp; rfl)); intro g2 hg2 w2 hbox hb2; have R2 := Aside0.mk (show RowAt w2 g2 25 [.slice Au us.length cu, .slice Ar rs.length cr] from ⟨_, hbox, rfl⟩); have HG2 := Aside0.mk (show w.heap.size ≤ g2 by rw [hg2]; exact Nat.le_refl _); have HW := Aside0.mk hb2; clear hbox hb2 hg2)
    | (go_at_call 7; (with_reducible refine (works_calls w2 (fun i hi => cell_below (HALL.out i hi) HW.out)).mono ?_); rintro e w3 ⟨rfl, hb⟩; have n1_ := Aside0.mk (R2.out.below hb); have n2_ := Aside0.mk (below_step HW.out hb); clear R2 HW hb; have R2 := n1_; have HW := n2_; clear n1_ n2_; have x0 : w3.cell? ⟨g2, 0, none⟩ = some (.slice Au us.length cu) := R2.out.cell 0; have x1 : w3.cell? ⟨g2, 1, none⟩ = some (.slice Ar rs.length cr) := R2.out.cell 1)
    | (go_at_call 8; have hcall := build_calls us rs start ts Au Ar cu cr w3 (Kd.C_below HU.out HW.out) HCU.out (Kd.C_below HR.out HW.out) HCR.out HFU.out HFIT.out HTS.out (fun i hi => cell_below (HALL.out i hi) HW.out); (with_reducible refine hcall.mono ?_); clear hcall; rintro e w4 ⟨⟨l, A, c, s, at_, code, rfl, hlc, hC, hout⟩, hb⟩; have HC := Aside0.mk hC; have HLC := Aside0.mk hlc; have HOUT := Aside0.mk hout; have n1_ := Aside0.mk (R2.out.below hb); have n2_ := Aside0.mk (below_step HW.out hb); clear R2 HW hb hC hlc hout x0 x1; have R2 := n1_; have HW := n2_; clear n1_ n2_)
    | ((with_reducible refine gate_dst (N := 5) rfl ?_); refine box_event ?hg (N := 5) ?hd (cs := #[.slice none 0 0, .int .i64 0]) (t := 29) ?hr ?_; (case hd => rfl); (case hg => rfl); (case hr => first | (go_simp; done) | (go_simp; rfl)); intro g5 hg5 w5 hbox hb; have R5 := Aside0.mk (show RowAt w5 g5 29 [.slice none 0 0, .int .i64 0] from ⟨_, hbox, rfl⟩); have HG5 := Aside0.mk (show w4.heap.size ≤ g5 ∧ g2 < g5 by rw [hg5]; exact ⟨Nat.le_refl _, R2.out.lt⟩); have HW4 := Aside0.mk hb; have n1_ := Aside0.mk (R2.out.below hb); clear R2 hbox hb hg5; have R2 := n1_; clear n1_)
    | ((with_reducible refine gate_dst (N := 6) rfl ?_); refine box_event ?hg (N := 6) ?hd (cs := #[.int .i64 0, .int .i64 0]) (t := 32) ?hr ?_; (case hd => rfl); (case hg => rfl); (case hr => first | (go_simp; done) | (go_simp; rfl)); intro g6 hg6 w6 hbox hb; have R6 := Aside0.mk (show RowAt w6 g6 32 [.int .i64 0, .int .i64 0] from ⟨_, hbox, rfl⟩); have HG6 := Aside0.mk (show w4.heap.size ≤ g6 ∧ g2 < g6 ∧ g5 < g6 by rw [hg6]; exact ⟨HW4.out.size, R2.out.lt, R5.out.lt⟩); have n1_ := Aside0.mk (R2.out.below hb); have n2_ := Aside0.mk (R5.out.below hb); have n3_ := Aside0.mk (below_step HW4.out hb); clear R2 R5 HW4 hbox hb hg6; have R2 := n1_; have R5 := n2_; have HW4 := n3_; clear n1_ n2_ n3_)
    | ((with_reducible refine gate_store (t := 29) (p := 5) rfl ?_); refine put_event rfl rfl 29 (.tmp 5) (.tmp 14) rfl (g := g5) (off := 0) (u := .agg #[.slice A l.length c, .int .i64 s]) (seg := [.slice A l.length c, .int .i64 s]) rfl rfl R5.out rfl (by kernel_rfl) (Nat.le_refl _) (by simp [Value.oneCell']) ?_; intro w7 hrow hg; have n1_ := Aside0.mk (show RowAt w7 g5 29 [.slice A l.length c, .int .i64 s] from hrow); have n2_ := Aside0.mk (R6.out.grown hg (by have := HG6.out; simp; omega)); have n4_ := Aside0.mk (R2.out.grown hg (by have := HG5.out; simp; omega)); have n3_ := Aside0.mk (pw_below_grown HW4.out _ HW4.out.size hg (fun k hk => by cases hk; exact HG5.out.1)); clear R2 R5 R6 HW4 hrow hg; have R5 := n1_; have R6 := n2_; have HW4 := n3_; have R2 := n4_; clear n1_ n2_ n3_ n4_)
    | ((with_reducible refine gate_store (t := 32) (p := 6) rfl ?_); refine put_event rfl rfl 32 (.tmp 6) (.tmp 15) rfl (g := g6) (off := 0) (u := .agg #[.int .i64 at_, .int .i64 code]) (seg := [.int .i64 at_, .int .i64 code]) rfl rfl R6.out rfl (by kernel_rfl) (Nat.le_refl _) (by simp [Value.oneCell']) ?_; intro w8 hrow hg; have n1_ := Aside0.mk (show RowAt w8 g6 32 [.int .i64 at_, .int .i64 code] from hrow); have n2_ := Aside0.mk (R5.out.grown hg (by have := HG6.out; simp; omega)); have n4_ := Aside0.mk (R2.out.grown hg (by have := HG6.out; simp; omega)); have n3_ := Aside0.mk (pw_below_grown HW4.out _ HW4.out.size hg (fun k hk => by cases hk; exact HG6.out.1)); clear R2 R5 R6 HW4 hrow hg; have R6 := n1_; have R5 := n2_; have HW4 := n3_; have R2 := n4_; clear n1_ n2_ n3_ n4_))
  rcases out_two HFU.out HFIT.out HTS.out HOUT.out with ⟨hl, hs, hcode, i, hi, hi2⟩ | ⟨h1, h2, hbt, hfew⟩
  · subst hl hs hi
    have b1 : (code == 0) = false := beq_eq_false_iff_ne.mpr hcode
    have b2 : (code != 0) = true := bne_iff_ne.mpr hcode
    rw [show ([] : List CR).length = 0 from rfl] at R5
    have x0 : w8.cell? ⟨g2, 0, none⟩ = some (.slice Au us.length cu) := R2.out.cell 0; have x1 : w8.cell? ⟨g2, 1, none⟩ = some (.slice Ar rs.length cr) := R2.out.cell 1; have s0 : w8.cell? ⟨g5, 0, none⟩ = some (.slice A 0 c) := R5.out.cell 0; have s1 : w8.cell? ⟨g5, 1, none⟩ = some (.int .i64 0) := R5.out.cell 1; have f0 : w8.cell? ⟨g6, 0, none⟩ = some (.int .i64 (i : Int)) := R6.out.cell 0; have f1 : w8.cell? ⟨g6, 1, none⟩ = some (.int .i64 code) := R6.out.cell 1
    by_cases h0 : i = 0
    · subst h0
      clear hcode HOUT HC HLC hi2
      go_wp2
      go_ret
      exact ⟨rfl, below_step HW.out HW4.out⟩
    · have q1 : decide ((i : Int) < (rs.length : Int)) = true := decide_eq_true (by omega)
      have q1n : decide (i < rs.length) = true := decide_eq_true (by omega)
      have q2 : ((i : Int) == 0) = false := beq_eq_false_iff_ne.mpr (by omega)
      clear hcode HOUT HC HLC hi2 h0
      go_wp2
      go_ret
      exact ⟨rfl, below_step HW.out HW4.out⟩
  · subst h1 h2
    have hst0 := hbt.st0
    obtain ⟨sn, rfl⟩ : ∃ sn : Nat, s = (sn : Int) := ⟨s.toNat, by omega⟩
    have hst : sn < rs.length := by have := hbt.st1; omega
    obtain ⟨r0, hr0, hr1⟩ := hbt.start
    rw [Int.toNat_natCast] at hr0
    obtain ⟨ad, B1, B2, d1, d2, hA, hra⟩ := rule_at HR.out hr0
    subst hA
    have hix := idx_er ad rs.length cr sn hst
    obtain ⟨p, hp⟩ : ∃ p, ad.add (sn * 3) = p := ⟨_, rfl⟩
    rw [hp] at hra hix
    have HNM := Aside0.mk (show w.cell? p = some (.string start) by rw [← hr1]; exact hra.k0)
    have HBT := Aside0.mk hbt
    rw [hbt.len] at R5
    have hne : (start != start) = false := by rw [bne, beq_bytes, decide_eq_true rfl]; rfl
    have q1 : decide ((rs.length : Int) ≤ (sn : Int)) = false := decide_eq_false (by omega)
    have q1n : decide (rs.length ≤ sn) = false := decide_eq_false (by omega)
    have q3 : decide (16384 < sizeL l) = false := decide_eq_false (by have := hbt.size; omega)
    have nb : (rs.length : Int) ≤ 256 := by omega
    clear hst0 hbt hr0 hr1 hra hp
    have x0 : w8.cell? ⟨g2, 0, none⟩ = some (.slice Au us.length cu) := R2.out.cell 0
    have x1 : w8.cell? ⟨g2, 1, none⟩ = some (.slice (some ad) rs.length cr) := R2.out.cell 1
    have s0 : w8.cell? ⟨g5, 0, none⟩ = some (.slice A rs.length c) := R5.out.cell 0
    have s1 : w8.cell? ⟨g5, 1, none⟩ = some (.int .i64 (sn : Int)) := R5.out.cell 1
    have f0 : w8.cell? ⟨g6, 0, none⟩ = some (.int .i64 0) := R6.out.cell 0
    have f1 : w8.cell? ⟨g6, 1, none⟩ = some (.int .i64 0) := R6.out.cell 1
    have rc0 : w8.cell? p = some (.string start) := cell_below HNM.out (below_step HW.out HW4.out)
    clear HOUT
    go_wp2_with (first
      | (go_at_call 9; obtain ⟨kk, hk⟩ := ccheck_ev l (sn : Int) HBT.out.fit; have hcall : Calls Tryd.prog 9 #[.agg #[.slice A rs.length c, .int .i64 (sn : Int)]] w8 fun e w' => e = .returned (.int .i64 0) ∧ Below w8.heap.size w8 w' := by { have h1 := core_Check.calls kk A c l (sn : Int) 0 w8 (Kd.C_below HC.out HW4.out) HLC.out (by have := hk kk (Nat.le_refl _); rwa [HBT.out.check, if_pos rfl] at this); rwa [HBT.out.len] at h1 }; (with_reducible refine hcall.mono ?_); clear hcall; rintro e w9 ⟨rfl, hb⟩; clear hk; have n1_ := Aside0.mk (R2.out.below hb); have n2_ := Aside0.mk (R5.out.below hb); have n3_ := Aside0.mk (below_step HW4.out hb); (try clear x0); clear R2 R5 HW4 hb x1 s0 s1 rc0; have R2 := n1_; have R5 := n2_; have HW4 := n3_; clear n1_ n2_ n3_; have x1 : w9.cell? ⟨g2, 1, none⟩ = some (.slice (some ad) rs.length cr) := R2.out.cell 1; have s0 : w9.cell? ⟨g5, 0, none⟩ = some (.slice A rs.length c) := R5.out.cell 0; have s1 : w9.cell? ⟨g5, 1, none⟩ = some (.int .i64 (sn : Int)) := R5.out.cell 1; have rc0 : w9.cell? p = some (.string start) := cell_below HNM.out (below_step HW.out HW4.out))
      | (go_at_call 10; obtain ⟨kk, hk⟩ := csize_ev l (sn : Int) HBT.out.fit (by rw [HBT.out.len]; omega); have hcall : Calls Tryd.prog 10 #[.agg #[.slice A rs.length c, .int .i64 (sn : Int)]] w9 fun e w' => e = .returned (.int .i64 (sizeL l)) ∧ Below w9.heap.size w9 w' := by { have h1 := core_Size.calls kk A c l (sn : Int) (sizeL l) w9 (Kd.C_below HC.out HW4.out) HLC.out (hk kk (Nat.le_refl _)); rwa [HBT.out.len] at h1 }; (with_reducible refine hcall.mono ?_); clear hcall; rintro e wa ⟨rfl, hb⟩; clear hk; have n1_ := Aside0.mk (R2.out.below hb); have n2_ := Aside0.mk (R5.out.below hb); have n3_ := Aside0.mk (below_step HW4.out hb); (try clear x0); clear R2 R5 HW4 hb x1 s0 s1 rc0; have R2 := n1_; have R5 := n2_; have HW4 := n3_; clear n1_ n2_ n3_; have x1 : wa.cell? ⟨g2, 1, none⟩ = some (.slice (some ad) rs.length cr) := R2.out.cell 1; have s0 : wa.cell? ⟨g5, 0, none⟩ = some (.slice A rs.length c) := R5.out.cell 0; have s1 : wa.cell? ⟨g5, 1, none⟩ = some (.int .i64 (sn : Int)) := R5.out.cell 1; have rc0 : wa.cell? p = some (.string start) := cell_below HNM.out (below_step HW.out HW4.out)))
    go_loopw [7] (fun v7 wr => ∃ (i : Nat), v7 = .int .i64 i ∧ Aside0 (i ≤ rs.length) ∧ Aside0 (Below wa.heap.size wa wr)) (fun v7 _ => rs.length - (intOf v7).toNat)
    case atStart => exact ⟨0, rfl, ⟨Nat.zero_le _⟩, ⟨Below.refl _ _⟩⟩
    case round =>
      obtain ⟨i, rfl, HI, HWA⟩ := hrel
      have ib : (i : Int) ≤ 256 := by have := HI.out; omega
      have x1' : wr.cell? ⟨g2, 1, none⟩ = some (.slice (some ad) rs.length cr) := cell_below x1 HWA.out
      have s0' : wr.cell? ⟨g5, 0, none⟩ = some (.slice A rs.length c) := cell_below s0 HWA.out
      by_cases ci : i < rs.length
      · have q4 : decide ((i : Int) < (rs.length : Int)) = true := decide_eq_true (by omega)
        have q4n : decide (i < rs.length) = true := decide_eq_true ci
        obtain ⟨r, hr⟩ : ∃ r, rs[i]? = some r := ⟨_, List.getElem?_eq_getElem ci⟩
        obtain ⟨x, hx, hxr⟩ := HBT.out.names i r hr
        obtain ⟨ad', C1, C2, e1, e2, hA, hra⟩ := rule_at HR.out hr
        cases hA
        obtain ⟨adC, D1, e3, hA2, k0, _⟩ := cr_at HC.out hx
        subst hA2
        have hix2 := idx_er ad rs.length cr i ci
        have hix3 := idx_cr adC rs.length c i ci
        obtain ⟨p2, hp2⟩ : ∃ p2, ad.add (i * 3) = p2 := ⟨_, rfl⟩
        obtain ⟨p3, hp3⟩ : ∃ p3, adC.add (i * 2) = p3 := ⟨_, rfl⟩
        have hk := hra.k0
        rw [hp2] at hix2 hk
        rw [hp3] at hix3 k0
        rw [hxr] at k0
        obtain ⟨nm, hnm⟩ : ∃ nm, r.f0 = nm := ⟨_, rfl⟩
        rw [hnm] at k0 hk
        have t0 := cell_below (cell_below hk (below_step HW.out HW4.out)) HWA.out
        have t1 := cell_below (cell_below k0 HW4.out) HWA.out
        have hne2 : (nm != nm) = false := by rw [bne, beq_bytes, decide_eq_true rfl]; rfl
        clear hr hx hxr hra hk k0 hp2 hp3 hnm
        go_upto_region 11 with (fail)
        go_quiet (fail)
        have n1_ := Aside0.mk (below_step HWA.out (pw_below_drewN (Below.refl wr.heap.size wr) nq))
        clear HWA x1' s0' t0 t1
        have HWA := n1_
        clear n1_
        generalize wr.drewN nq = wq at *
        go_wp2
        go_roundw
        case measure => simp [intOf]; omega
        case rel => exact ⟨i + 1, by go_num, ⟨ci⟩, HWA⟩
      · have q4 : decide ((i : Int) < (rs.length : Int)) = false := decide_eq_false (by omega)
        have q4n : decide (i < rs.length) = false := decide_eq_false ci
        go_wp2
        go_ret
        exact ⟨rfl, below_step HW.out (below_step HW4.out HWA.out)⟩
end
end Go.Proofs.YtihiicjnjhideaaDoor.Build
end
section
namespace Go.Proofs.YtihiicjnjhideaaDoorW.PrintWords
open Go.RowKit Go.ChangeShapes Go.WideShapes
/-- What is read at type t is told by the kind d, and meets ok. -/
structure Opens (P : Program) (t : TypeId) {α : Type} (d : Kd α) (ok : α → Prop) : Prop where
  out : ∀ {H : Type} {enc : TypeId × Value → H} {w : World} {base : Nat} {sp : Nat → Bool} {held : Bool} {fuel : Nat} {cs : List Value} {x : DataW H × List MemPlace},
    DataW.trod enc P w base sp held fuel t cs = some x → (∀ n ∈ x.1.weights P t, n ≤ reachBytes) → ∃ a, d.K w a cs ∧ ok a
theorem Opens.imp {P : Program} {t : TypeId} {α : Type} {d : Kd α} {ok ok' : α → Prop} (h : Opens P t d ok) (hi : ∀ a, ok a → ok' a) : Opens P t d ok' :=
  ⟨fun hx hw => let ⟨a, h1, h2⟩ := h.out hx hw; ⟨a, h1, hi a h2⟩⟩
theorem Opens.int {P : Program} {t : TypeId} {k : IntKind} (hu : P.underlying t = some (.int k)) : Opens P t (Kd.int k) (fun n => (Lit.int k n).wf = true) :=
  ⟨fun hx _ => by
    obtain ⟨n, rfl, _, hw⟩ := DataW.trod_int hu hx
    exact ⟨n, rfl, hw⟩⟩
theorem Opens.bool {P : Program} {t : TypeId} (hu : P.underlying t = some .bool) : Opens P t Kd.bool (fun _ => True) :=
  ⟨fun hx _ => by
    obtain ⟨n, rfl, _⟩ := DataW.trod_bool hu hx
    exact ⟨n, rfl, trivial⟩⟩
theorem Opens.string {P : Program} {t : TypeId} (hu : P.underlying t = some .string) : Opens P t Kd.string (fun s => s.size ≤ 140737488351232) :=
  ⟨fun hx hw => by
    obtain ⟨s, rfl, rfl, _⟩ := DataW.trod_string hu hx
    refine ⟨s, rfl, ?_⟩
    have := hw s.data.toList.length (by simp [DataW.weights])
    rwa [Array.length_toList] at this⟩
theorem weights_all_mem {H : Type} {P : Program} {e : TypeId} : ∀ {l : List (DataW H)} {d : DataW H}, d ∈ l → ∀ n ∈ d.weights P e, n ∈ DataW.weightsAll P e l
  | [], _, h, _, _ => by cases h
  | a :: l, d, h, n, hn => by
    simp only [DataW.weightsAll, List.mem_append]
    rcases List.mem_cons.1 h with rfl | h
    · exact .inl hn
    · exact .inr (weights_all_mem h n hn)
theorem cells?_get {w : World} {base : Nat} {a : Addr} {n : Nat} {cs : List Value} (h : w.cells? base a n = some cs) : cs.length = n ∧ ∀ i u, cs[i]? = some u → w.cell? (a.add i) = some u := by
  obtain ⟨_, hl, hc⟩ := World.cells?_some h
  refine ⟨hl, fun i u hu => ?_⟩
  have hi : i < cs.length := (List.getElem?_eq_some_iff.1 hu).1
  rw [hc i (by omega), hu]
/-- A slice of what is told by d. -/
theorem Opens.slice {P : Program} {t e : TypeId} {α : Type} {d : Kd α} {ok : α → Prop} (hu : P.underlying t = some (.slice e)) (h : Opens P e d ok) (hsz : P.cellsOf e = d.sz) {B : Nat} (hB : P.bytesOf e = B) :
    Opens P t (Kd.slice e d) (fun xs => xs.length * B ≤ 140737488351232 ∧ xs.length ≤ 9223372036854775807 ∧ ∀ x ∈ xs, ok x) :=
  ⟨fun {H enc w base sp held fuel cs x} hx hw => by
    rcases DataW.trod_slice hu hx with ⟨rfl, rfl⟩ | ⟨a, len, cap, elems, rest, n, rfl, rfl, rfl, hb, hlc, hcm, hel, hels, hsp, hns⟩
    · exact ⟨[], ⟨none, 0, rfl, Nat.le_refl _, rfl, by simp, fun h => absurd h (Nat.lt_irrefl 0)⟩, by simp⟩
    · have hwt : (elems.length + rest.length) * B ≤ reachBytes := by
        have := hw ((elems.length + rest.length) * B) (by simp [DataW.weights, hu, hB])
        exact this
      have hwe : ∀ y ∈ elems, ∀ n ∈ y.1.weights P e, n ≤ reachBytes := fun y hy n hn => hw n (by
        simp only [DataW.weights, hu, List.mem_cons, List.mem_append]
        exact .inr (.inl (weights_all_mem (List.mem_map_of_mem hy) n hn)))
      have each : ∀ i (hi : i < len), ∃ c z, w.cells? base (a.add (i * P.cellsOf e)) (P.cellsOf e) = some c ∧ d.K w z c ∧ ok z := by
        intro i hi
        have h1 := hels i hi
        rw [List.getElem?_eq_getElem (show i < elems.length by omega)] at h1
        obtain ⟨c, hc, ht⟩ := Option.bind_eq_some_iff.1 h1
        obtain ⟨z, hz, ho⟩ := h.out ht (hwe _ (List.getElem_mem _))
        exact ⟨c, z, hc, hz, ho⟩
      have pick : ∀ m, m ≤ len → ∃ zs : List α, zs.length = m ∧ ∀ i z, zs[i]? = some z → ok z ∧ ∃ c, w.cells? base (a.add (i * P.cellsOf e)) (P.cellsOf e) = some c ∧ d.K w z c := by
        intro m
        induction m with
        | zero => exact fun _ => ⟨[], rfl, fun i z hz => by simp at hz⟩
        | succ m ih =>
          intro hm
          obtain ⟨zs, hl, hz⟩ := ih (by omega)
          obtain ⟨c, z, hc, hk, ho⟩ := each m (by omega)
          refine ⟨zs ++ [z], by simp [hl], fun i y hy => ?_⟩
          rcases Nat.lt_or_ge i zs.length with hi | hi
          · rw [List.getElem?_append_left hi] at hy
            exact hz i y hy
          · have : i = zs.length := by
              have := (List.getElem?_eq_some_iff.1 hy).1
              simp at this
              omega
            subst this
            have hy' : z = y := by simpa using hy
            subst hy'
            rw [hl]
            exact ⟨ho, c, hc, hk⟩
      obtain ⟨zs, hl, hz⟩ := pick len (Nat.le_refl _)
      subst hl
      have hmax : zs.length ≤ 9223372036854775807 := by
        unfold maxLen at hcm
        omega
      refine ⟨zs, ⟨some a, cap, rfl, hlc, rfl, hmax, fun hn => ⟨a, rfl, fun j z hj => ?_⟩⟩, ?_, hmax, fun z hzm => ?_⟩
      · obtain ⟨_, c, hc, hk⟩ := hz j z hj
        obtain ⟨hcl, hcc⟩ := cells?_get hc
        refine ⟨c, by rw [hcl, hsz], hk, fun i u hu => ?_⟩
        have hadd : (a.add (j * P.cellsOf e)).add i = a.add (j * d.sz + i) := by rw [add_add, hsz]
        rw [← hadd]
        exact hcc i u hu
      · rw [← hel]
        exact Nat.le_trans (Nat.mul_le_mul_right _ (Nat.le_add_right _ _)) hwt
      · obtain ⟨i, hi, rfl⟩ := List.mem_iff_getElem.1 hzm
        exact (hz i _ (List.getElem?_eq_getElem hi)).1⟩
/-- The last fields of a struct, laid from cell o on. -/
structure OpensF (P : Program) (o : Nat) (fs : List Field) {α : Type} (d : Kd α) (ok : α → Prop) : Prop where
  out : ∀ {H : Type} {enc : TypeId × Value → H} {w : World} {base : Nat} {sp : Nat → Bool} {held : Bool} {fuel : Nat} {cs : List Value} {xs : List (DataW H × List MemPlace)},
    cs.length = o + d.sz → xs.length = fs.length →
    (∀ (i : Nat) (f : Field), fs[i]? = some f → DataW.trod enc P w base sp held fuel f.type ((cs.drop f.offset).take (P.cellsOf f.type)) = xs[i]?) →
    (∀ n ∈ DataW.weightsEach P (fs.map (·.type)) (xs.map (·.1)), n ≤ reachBytes) → ∃ a, d.K w a (cs.drop o) ∧ ok a
theorem OpensF.one {P : Program} {o : Nat} {f : Field} {α : Type} {d : Kd α} {ok : α → Prop} (ho : f.offset = o) (hc : P.cellsOf f.type = d.sz) (h : Opens P f.type d ok) : OpensF P o [f] d ok := by
  refine ⟨fun {H enc w base sp held fuel cs xs} hl hx hf hw => ?_⟩
  match xs, hx with
  | [x], _ =>
    have h1 := hf 0 f rfl
    rw [List.getElem?_cons_zero, ho, hc, List.take_of_length_le (by rw [List.length_drop]; omega)] at h1
    exact h.out h1 (fun n hn => hw n (by simp [DataW.weightsEach, hn]))
theorem OpensF.cons {P : Program} {o : Nat} {f : Field} {fs : List Field} {α β : Type} {d : Kd α} {ok : α → Prop} {d' : Kd β} {ok' : β → Prop} (ho : f.offset = o) (hc : P.cellsOf f.type = d.sz) (h : Opens P f.type d ok) (hr : OpensF P (o + d.sz) fs d' ok') :
    OpensF P o (f :: fs) (Kd.pair d d') (fun x => ok x.1 ∧ ok' x.2) := by
  refine ⟨fun {H enc w base sp held fuel cs xs} hl hx hf hw => ?_⟩
  have hl' : cs.length = o + d.sz + d'.sz := by rw [hl]; show o + (d.sz + d'.sz) = _; omega
  match xs, hx with
  | x :: xs, hx =>
    have h1 := hf 0 f rfl
    rw [List.getElem?_cons_zero, ho, hc] at h1
    obtain ⟨a, ha, hao⟩ := h.out h1 (fun n hn => hw n (by simp [DataW.weightsEach, hn]))
    obtain ⟨b, hb, hbo⟩ := hr.out (xs := xs) hl' (by simpa using hx) (fun i g hg => by simpa using hf (i + 1) g (by simpa using hg)) (fun n hn => hw n (by simp only [List.map_cons, DataW.weightsEach, List.mem_append]; exact .inr hn))
    refine ⟨(a, b), ⟨_, _, ?_, ha, hb⟩, hao, hbo⟩
    rw [← List.drop_drop]
    exact (List.take_append_drop _ _).symm
/-- A struct. -/
theorem Opens.struct {P : Program} {t : TypeId} {fs : Array Field} {α β : Type} {d : Kd α} {ok : α → Prop} (hu : P.underlying t = some (.struct fs)) (hc : P.cellsOf t = d.sz) (f : β → α) (g : α → β) (hfg : ∀ a, f (g a) = a) (h : OpensF P 0 fs.toList d ok) : Opens P t (Kd.iso d f) (fun b => ok (f b)) :=
  ⟨fun hx hw => by
    obtain ⟨xs, n, rfl, rfl, hl, hn, hf⟩ := DataW.trod_struct hu hx
    obtain ⟨a, ha, hao⟩ := h.out (by rw [hl, hc]; omega) (by simpa using hn) (fun i f hi => hf i f (by simpa using hi)) (fun n hn => hw n (by simpa [DataW.weights, hu] using hn))
    exact ⟨g a, by show d.K _ (f (g a)) _; rw [hfg]; exact ha, by rw [hfg]; exact hao⟩⟩
theorem mapM_cons_some {α β : Type} {f : α → Option β} {a : α} {l : List α} {r : List β} (h : (a :: l).mapM f = some r) : ∃ b r', f a = some b ∧ l.mapM f = some r' ∧ r = b :: r' := by
  rw [List.mapM_cons] at h
  obtain ⟨b, hb, h⟩ := Option.bind_eq_some_iff.1 h
  obtain ⟨r', hr, h⟩ := Option.bind_eq_some_iff.1 h
  exact ⟨b, r', hb, hr, (Option.some.inj h).symm⟩
/-- An array of four numbers. -/
theorem Opens.four {P : Program} {t e : TypeId} {k : IntKind} {β : Type} (hu : P.underlying t = some (.array 4 e)) (he : P.underlying e = some (.int k)) (hce : P.cellsOf e = 1) (hct : P.cellsOf t = 4) (f : β → Int × Int × Int × Int) (g : Int × Int × Int × Int → β) (hfg : ∀ a, f (g a) = a) :
    Opens P t (Kd.iso (Kd.pair (Kd.int k) (Kd.pair (Kd.int k) (Kd.pair (Kd.int k) (Kd.int k)))) f) (fun b => (Lit.int k (f b).1).wf = true ∧ (Lit.int k (f b).2.1).wf = true ∧ (Lit.int k (f b).2.2.1).wf = true ∧ (Lit.int k (f b).2.2.2).wf = true) :=
  ⟨fun {H enc w base sp held fuel cs x} hx hw => by
    cases fuel with
    | zero => simp [DataW.trod] at hx
    | succ fuel =>
      unfold DataW.trod at hx
      rw [hu] at hx
      simp only [hct] at hx
      split at hx
      case isFalse => cases hx
      rename_i hl
      match cs, hl with
      | [c0, c1, c2, c3], _ =>
        obtain ⟨xs, hxs, rfl⟩ := Option.map_eq_some_iff.1 hx
        rw [show List.range 4 = [0, 1, 2, 3] from rfl] at hxs
        obtain ⟨y0, r0, h0, hxs, _⟩ := mapM_cons_some hxs
        obtain ⟨y1, r1, h1, hxs, _⟩ := mapM_cons_some hxs
        obtain ⟨y2, r2, h2, hxs, _⟩ := mapM_cons_some hxs
        obtain ⟨y3, r3, h3, hxs, _⟩ := mapM_cons_some hxs
        simp only [hce] at h0 h1 h2 h3
        obtain ⟨n0, e0, _, w0⟩ := DataW.trod_int he h0
        obtain ⟨n1, e1, _, w1⟩ := DataW.trod_int he h1
        obtain ⟨n2, e2, _, w2⟩ := DataW.trod_int he h2
        obtain ⟨n3, e3, _, w3⟩ := DataW.trod_int he h3
        simp at e0 e1 e2 e3
        subst e0 e1 e2 e3
        refine ⟨g (n0, n1, n2, n3), ?_, by rw [hfg]; exact ⟨w0, w1, w2, w3⟩⟩
        show (Kd.pair _ _).K w (f (g (n0, n1, n2, n3))) _
        rw [hfg]
        exact ⟨[_], [_, _, _], rfl, rfl, [_], [_, _], rfl, rfl, [_], [_], rfl, rfl, rfl⟩⟩
end Go.Proofs.YtihiicjnjhideaaDoorW.PrintWords
end
section
namespace Go.Proofs.YtihiicjnjhideaaDoor.Core
open Go.RowKit Go.ChangeShapes Go.WideShapes Go.Proofs.YtihiicjnjhideaaDoorW.PrintWords Go.Proofs.YtihiicjnjhideaaDoor.PAll Go.Proofs.YtihiicjnjhideaaDoor.Names
set_option linter.unusedVariables false
set_option maxRecDepth 100000
theorem oClass : Opens Tryd.prog 49 k49 (fun b => (Lit.int .u64 b.f0).wf = true ∧ (Lit.int .u64 b.f1).wf = true ∧ (Lit.int .u64 b.f2).wf = true ∧ (Lit.int .u64 b.f3).wf = true) :=
  Opens.four Tryd.underlying49 Tryd.underlying47 (by kernel_rfl) (by kernel_rfl) (fun x : Class => (x.f0, x.f1, x.f2, x.f3)) (fun a => ⟨a.1, a.2.1, a.2.2.1, a.2.2.2⟩) (fun a => rfl)
/-- A node of what came in. -/
def NodeOk (b : Node) : Prop := (Lit.int .i64 b.f0).wf = true ∧ ((Lit.int .u64 b.f1.f0).wf = true ∧ (Lit.int .u64 b.f1.f1).wf = true ∧ (Lit.int .u64 b.f1.f2).wf = true ∧ (Lit.int .u64 b.f1.f3).wf = true) ∧ (Lit.int .i64 b.f2).wf = true ∧ b.f3.size ≤ 140737488351232
end Go.Proofs.YtihiicjnjhideaaDoor.Core
end
section
namespace Go.Proofs.YtihiicjnjhideaaDoor.Build
open Go.RowKit Go.ChangeShapes Go.WideShapes Go.Proofs.YtihiicjnjhideaaDoorW.PrintWords Go.Proofs.YtihiicjnjhideaaDoor.PAll Go.Proofs.YtihiicjnjhideaaDoor.Core
set_option linter.unusedVariables false
set_option maxRecDepth 100000
abbrev GU := S79
theorem oEN : Opens Tryd.prog 51 k51 (fun b => (Lit.int .i64 b.f0).wf = true ∧ (Lit.int .i64 b.f1).wf = true ∧ b.f2.size ≤ 140737488351232 ∧ True ∧ ((Lit.int .u64 b.f4.f0).wf = true ∧ (Lit.int .u64 b.f4.f1).wf = true ∧ (Lit.int .u64 b.f4.f2).wf = true ∧ (Lit.int .u64 b.f4.f3).wf = true) ∧ (Lit.int .i64 b.f5).wf = true ∧ (Lit.int .i64 b.f6).wf = true) :=
  Opens.struct Tryd.underlying51 (by kernel_rfl) (fun x : EN => (x.f0, x.f1, x.f2, x.f3, x.f4, x.f5, x.f6)) (fun a => ⟨a.1, a.2.1, a.2.2.1, a.2.2.2.1, a.2.2.2.2.1, a.2.2.2.2.2.1, a.2.2.2.2.2.2⟩) (fun a => rfl)
    (OpensF.cons rfl (by kernel_rfl) (Opens.int Tryd.underlying3) (OpensF.cons rfl (by kernel_rfl) (Opens.int Tryd.underlying3) (OpensF.cons rfl (by kernel_rfl) (Opens.string Tryd.underlying9) (OpensF.cons rfl (by kernel_rfl) (Opens.bool Tryd.underlying4) (OpensF.cons rfl (by kernel_rfl) oClass (OpensF.cons rfl (by kernel_rfl) (Opens.int Tryd.underlying3) (OpensF.one rfl (by kernel_rfl) (Opens.int Tryd.underlying3))))))))
theorem oExpr : Opens Tryd.prog 38 (Kd.slice 51 k51) (fun xs => xs.length * 88 ≤ 140737488351232 ∧ xs.length ≤ 9223372036854775807 ∧ ∀ x ∈ xs, x.f2.size ≤ 140737488351232) :=
  (Opens.slice Tryd.underlying38 oEN (by kernel_rfl) (by kernel_rfl)).imp (fun a h => ⟨h.1, h.2.1, fun x hx => (h.2.2 x hx).2.2.1⟩)
theorem oParams : Opens Tryd.prog 36 (Kd.slice 9 Kd.string) (fun xs => xs.length * 16 ≤ 140737488351232 ∧ xs.length ≤ 9223372036854775807 ∧ ∀ x ∈ xs, x.size ≤ 140737488351232) :=
  Opens.slice Tryd.underlying36 (Opens.string Tryd.underlying9) (by kernel_rfl) (by kernel_rfl)
theorem oGRule : Opens Tryd.prog 40 k40 FitR :=
  (Opens.struct Tryd.underlying40 (by kernel_rfl) (fun x : ER => (x.f0, x.f1, x.f2)) (fun a => ⟨a.1, a.2.1, a.2.2⟩) (fun a => rfl)
    (OpensF.cons rfl (by kernel_rfl) (Opens.string Tryd.underlying9) (OpensF.cons rfl (by kernel_rfl) oParams (OpensF.one rfl (by kernel_rfl) oExpr)))).imp (fun a h => ⟨h.1, h.2.1.2.2, h.2.2.2.2, by have h9 : a.f2.length * 88 ≤ 140737488351232 := h.2.2.1; omega⟩)
theorem oGRules : Opens Tryd.prog 23 (Kd.slice 40 k40) (fun xs => xs.length * 64 ≤ 140737488351232 ∧ xs.length ≤ 9223372036854775807 ∧ ∀ x ∈ xs, FitR x) :=
  Opens.slice Tryd.underlying23 oGRule (by kernel_rfl) (by kernel_rfl)
theorem oUse : Opens Tryd.prog 79 k79 (fun b => b.f0.size ≤ 140737488351232 ∧ b.f1.size ≤ 140737488351232) :=
  Opens.struct Tryd.underlying79 (by kernel_rfl) (fun x : GU => (x.f0, x.f1)) (fun a => ⟨a.1, a.2⟩) (fun a => rfl)
    (OpensF.cons rfl (by kernel_rfl) (Opens.string Tryd.underlying9) (OpensF.one rfl (by kernel_rfl) (Opens.string Tryd.underlying9)))
theorem oUses : Opens Tryd.prog 22 (Kd.slice 79 k79) (fun xs => xs.length * 32 ≤ 140737488351232 ∧ xs.length ≤ 9223372036854775807 ∧ ∀ x ∈ xs, x.f0.size ≤ 140737488351232 ∧ x.f1.size ≤ 140737488351232) :=
  Opens.slice Tryd.underlying22 oUse (by kernel_rfl) (by kernel_rfl)
theorem oGram : Opens Tryd.prog 25 (Kd.iso (Kd.pair (Kd.slice 79 k79) (Kd.slice 40 k40)) (fun x : List GU × List ER => (x.1, x.2))) (fun x => (x.1.length * 32 ≤ 140737488351232 ∧ x.1.length ≤ 9223372036854775807 ∧ ∀ u ∈ x.1, u.f0.size ≤ 140737488351232 ∧ u.f1.size ≤ 140737488351232) ∧ (x.2.length * 64 ≤ 140737488351232 ∧ x.2.length ≤ 9223372036854775807 ∧ ∀ r ∈ x.2, FitR r)) :=
  Opens.struct Tryd.underlying25 (by kernel_rfl) (fun x : List GU × List ER => (x.1, x.2)) (fun a => a) (fun a => rfl)
    (OpensF.cons rfl (by kernel_rfl) oUses (OpensF.one rfl (by kernel_rfl) oGRules))
/-- An argument that is a grammar. -/
theorem open_gram {H : Type} {enc : TypeId × Value → H} {W : World} {base : Nat} {r : Reach} {b0 : Nat} {sp : Nat → Bool} {held : Bool} {v : Value} {d : DataW H} {p : List MemPlace}
    (hval : Value.okWide Tryd.prog W r b0 25 v) (h : DataW.Trod enc Tryd.prog W base sp held 25 v d p) (hw : ∀ n ∈ d.weights Tryd.prog 25, n ≤ reachBytes) :
    ∃ (Au : Option Addr) (cu : Nat) (us : List GU) (Ar : Option Addr) (cr : Nat) (rs : List ER), v = .agg #[.slice Au us.length cu, .slice Ar rs.length cr] ∧ Kd.C k79 W Au us.length us ∧ us.length ≤ cu ∧ Kd.C k40 W Ar rs.length rs ∧ rs.length ≤ cr ∧ (∀ u ∈ us, u.f0.size ≤ 140737488351232) ∧ ∀ r ∈ rs, FitR r := by
  simp only [Value.okWide, Tryd.underlying25] at hval
  obtain ⟨cs, rfl, _, _⟩ := hval
  obtain ⟨fuel, hf⟩ := h
  obtain ⟨x, ⟨c0, c1, he, ⟨A, c, rfl, hl, hC⟩, ⟨A', c', rfl, hl', hC'⟩⟩, ho⟩ := oGram.out hf hw
  refine ⟨A, c, x.1, A', c', x.2, ?_, hC, hl, hC', hl', fun u hu => (ho.1.2.2 u hu).1, ho.2.2.2⟩
  obtain ⟨cs⟩ := cs
  simp [Value.cells] at he
  rw [he]
end Go.Proofs.YtihiicjnjhideaaDoor.Build
end
