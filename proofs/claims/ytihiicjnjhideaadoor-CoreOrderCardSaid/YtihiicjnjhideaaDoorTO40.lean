/- Parts of the proof of coreOrder: OrderWalk. No condition beyond each lemma's own. -/
import Derived.ChangeKeysEq
import Derived.Test.YtihiicjnjhideaaDoorTO38
import Derived.Test.YtihiicjnjhideaaDoorTO39
section
namespace Go.Proofs.YtihiicjnjhideaaDoor.Build
open Go.RowKit Go.Proofs.YtihiicjnjhideaaDoorW.PrintWords Go.Proofs.YtihiicjnjhideaaDoor.PAll Go.Proofs.YtihiicjnjhideaaDoor.Core Go.Proofs.YtihiicjnjhideaaDoor.Names
set_option linter.unusedVariables false
set_option linter.unusedSimpArgs false
/-- Rules whose cells read, in a world that stays, as rules. -/
def kF (w : World) : Kd ER where
 sz := 3
 E := []
 K := fun _ x cs => kER.K w x cs
 M := fun _ _ _ x cs => kER.K w x cs
 K_len := fun h => kER.K_len h
 K_one := fun h => kER.K_one h
 K_below := fun _ h => h
 K_of_M := fun h => h
 M_mono := fun _ h => h
 M_bound := fun h => h
 M_move := fun _ h => h
 M_lower := fun _ h => h
theorem kF_C {w W : World} {A : Option Addr} {n : Nat} {l : List ER} (h : (kF w).C W A n l) (hb : Below w.heap.size w W) : Kd.C kER W A n l := ReadsRow.imp_ h (Below.refl _ _) (fun _ _ hp => kER.K_below hb hp)
theorem kF_of {w W : World} {A : Option Addr} {n : Nat} {l : List ER} (h : Kd.C kER w A n l) (hb : Below w.heap.size w W) : (kF w).C W A n l := ReadsRow.imp_ h hb (fun _ _ hp => hp)
theorem rows_new {w : World} (W : World) (base : Nat) (hb : base ≤ W.heap.size) : Kd.R (kF w) 40 (W.alloc (.cells #[] 40)) base (fun _ => True) (.slice (some ⟨W.heap.size, 0, none⟩) 0 0) [] :=
 ⟨fun _ _ => trivial, [], World.ownsRow_lit W #[] 0 hb (by decide) rfl, ⟨rfl, fun j p hj => by simp at hj⟩⟩
theorem rows_ne {w W : World} {base g : Nat} {v : Value} {l : List ER} {cs : List Value} (h : Kd.R (kF w) 40 W base (fun _ => True) v l) (hr : RowAt W g 25 cs) : some g ≠ v.ownBlock := fun e => by
 obtain ⟨inner, hi⟩ := Kd.R_own h
 obtain ⟨c0, e0⟩ := own_typed hi g e.symm
 obtain ⟨cur, e1, _⟩ := hr
 rw [e1] at e0
 injection e0 with e0
 injection e0 with _ e0
 exact absurd e0 (by decide)
theorem rows_put {w W W' : World} {base g : Nat} {v : Value} {l : List ER} {cs : List Value} (h : Kd.R (kF w) 40 W base (fun _ => True) v l) (hr : RowAt W g 25 cs) (hg : W.grownBy W' (some g)) : Kd.R (kF w) 40 W' base (fun _ => True) v l :=
 Kd.R_step (ok := fun k => v.ownBlock = some k) ⟨fun k hk => hk, h.2⟩ (fun k hk hlt => hg.block k hlt (fun e2 => rows_ne h hr (by injection e2 with e2; rw [← e2]; exact hk.symm))) |>.imp (fun _ _ _ => trivial) id
/-- A store of what stands there. -/
theorem same_below {w w' : World} {g : Nat} {e : TypeId} {cs : List Value} (hg : w.grownBy w' (some g)) (h : RowAt w g e cs) (h' : RowAt w' g e cs) : Below w.heap.size w w' := by
 obtain ⟨c1, e1, r1⟩ := h
 obtain ⟨c2, e2, r2⟩ := h'
 have hc : c1 = c2 := Array.toList_inj.1 (r1.trans r2.symm)
 subst hc
 exact ⟨hg.os, hg.tape, hg.output, hg.size, fun i hi => by
  by_cases hig : i = g
  ·rw [hig, e1, e2]
  ·exact hg.block i hi (fun e => hig (by injection e))⟩
theorem laid_clean {rs : List ER} {ts : List T} {L : List (List CN)} (hc : Checked rs) (ht : Trees rs ts) (hk : ∀ r ∈ rs, knownR (namesOf rs) r) (hL : layR (placeN (namesOf rs)) 16384 ts = some L) : ∀ b ∈ L, ∀ y ∈ b, cleanB y rs.length = true := fun b hb => by
 have hR := layR_right (S := namesOf rs) (fun t hm => by
  obtain ⟨i, hi⟩ := List.getElem?_of_mem hm
  obtain ⟨r, hr⟩ : ∃ r, rs[i]? = some r := ⟨_, List.getElem?_eq_getElem (by have := (List.getElem?_eq_some_iff.1 hi).1; rw [ht.len] at this; exact this)⟩
  have h1 := ht.at_ i r t hr hi
  refine ⟨h1.1, fun x hx => ?_⟩
  rw [h1.2] at hx
  exact ⟨(hc.good r (List.mem_of_getElem? hr)).body.may x hx, hk r (List.mem_of_getElem? hr) x hx⟩) hL
 have hS : ((namesOf rs).length : Int) = rs.length := by unfold namesOf; rw [List.length_map]
 have := body_clean (right_body (hR b hb))
 rwa [hS] at this
theorem phi_range {n k : Nat} (z : Int) (h : 0 < n) : 0 ≤ phi n k z ∧ phi n k z < n := by
 unfold phi
 have := Nat.mod_lt (z.toNat + n - k) h
 omega
/-- A core node's cells at an address. -/
structure CNAt (w : World) (p : Addr) (x : CN) : Prop where
 k0 : w.cell? p = some (.int .i64 x.f0)
 k1 : w.cell? ⟨p.block, p.off + 1, none⟩ = some (.int .u64 x.f1.f0)
 k2 : w.cell? ⟨p.block, p.off + 2, none⟩ = some (.int .u64 x.f1.f1)
 k3 : w.cell? ⟨p.block, p.off + 3, none⟩ = some (.int .u64 x.f1.f2)
 k4 : w.cell? ⟨p.block, p.off + 4, none⟩ = some (.int .u64 x.f1.f3)
 k5 : w.cell? ⟨p.block, p.off + 5, none⟩ = some (.int .i64 x.f2)
 k6 : w.cell? ⟨p.block, p.off + 6, none⟩ = some (.string x.f3)
theorem cna_at {w : World} {A : Option Addr} {n i : Nat} {l : List CN} {x : CN} (h : Kd.C kCN w A n l) (hx : l[i]? = some x) : ∃ ad, A = some ad ∧ CNAt w (ad.add (i * 7)) x := by
 have hi : i < n := by have := (List.getElem?_eq_some_iff.1 hx).1; rw [h.1] at this; exact this
 obtain ⟨ad, e1, h0, h1, h2, h3, h4, h5, h6⟩ := at_T55 h (i : Int) (by omega) (by omega)
 have hr : rd_T55 l (i : Int) = x := by
  show l.getD (i : Int).toNat _ = x
  rw [Int.toNat_natCast, List.getD_eq_getElem?_getD, hx]
  rfl
 rw [hr] at h0 h1 h2 h3 h4 h5 h6
 rw [Int.toNat_natCast] at h0 h1 h2 h3 h4 h5 h6
 exact ⟨ad, e1, h0, h1, h2, h3, h4, h5, h6⟩
theorem CNAt.below {w w' : World} {p : Addr} {x : CN} (h : CNAt w p x) (hb : Below w.heap.size w w') : CNAt w' p x :=
 ⟨cell_below h.k0 hb, cell_below h.k1 hb, cell_below h.k2 hb, cell_below h.k3 hb, cell_below h.k4 hb, cell_below h.k5 hb, cell_below h.k6 hb⟩
theorem trees_rot {rs : List ER} {ts : List T} {k : Nat} (h : Trees rs ts) (hk : k < rs.length) : Trees (rot k rs) (rot k ts) := by
 have hl := h.len
 refine ⟨by rw [rot_len (by omega), rot_len (by omega), hl], fun i r t hr ht => ?_⟩
 have hi : i < rs.length := by have := (List.getElem?_eq_some_iff.1 hr).1; rwa [rot_len (by omega)] at this
 rw [rot_get hk hi] at hr
 rw [rot_get (by omega) (by omega), hl] at ht
 exact h.at_ _ r t hr ht
/-- An answer: a fault, or what was built, with its reasons. -/
theorem out_sort {us : List EU} {rs : List ER} {start : ByteArray} {ts : List T} {l : List CR} {s at_ code : Int} (h : Out us rs start ts l s at_ code) :
  (code ≠ 0) ∨ (at_ = 0 ∧ code = 0 ∧ ∃ L, l = mkC (namesOf rs) L ∧ s = placeN (namesOf rs) start ∧ Ev (fun k => script_Check.f k us rs) 0 ∧ Ev (fun k => macro_Flat.f k us rs) true ∧ (namesOf rs).Nodup ∧ (∀ r ∈ rs, knownR (namesOf rs) r) ∧ start ∈ namesOf rs ∧ layR (placeN (namesOf rs)) 16384 ts = some L) := by
 cases h with
 | shape v h hv => exact .inl (by decide)
 | params h => exact .inl (by decide)
 | twice i r hr h => exact .inl (by decide)
 | unknown i r hr h => exact .inl (by decide)
 | start h => exact .inl (by decide)
 | budget i hi h => exact .inl (by decide)
 | built L h1 h2 h3 h4 h5 h6 => exact .inr ⟨rfl, rfl, L, rfl, rfl, h1, h2, h3, h4, h5, h6⟩
theorem class_eq (d : Nat) (a b c e : Int) (w : World) : Sem.run Tryd.prog (Op.equalIn (d + 2) 49 (.agg #[.int .u64 a, .int .u64 b, .int .u64 c, .int .u64 e]) (.agg #[.int .u64 a, .int .u64 b, .int .u64 c, .int .u64 e])) w = .ok true w := by
 have hu : Tryd.prog.underlying 49 = some (.array 4 47) := by kernel_rfl
 have hp : Tryd.prog.underlying 47 = some (.int .u64) := by kernel_rfl
 obtain ⟨i, hi⟩ : ∃ i, Tryd.prog.info? 47 = some i := Option.isSome_iff_exists.mp (by kernel_rfl)
 have hc : Tryd.prog.cellsOf 47 = 1 := by kernel_rfl
 rw [run_equalIn_array w (d + 1) _ _ hu hi, hc, show List.range 4 = [0, 1, 2, 3] from rfl]
 have hk : Tryd.prog.plainKey 47 = true := by kernel_rfl
 have hpart : ∀ (xs : Array Value) (k : Nat) (v : Value) (w : World), xs[k]? = some v → (part 47 xs k).run Tryd.prog w = .ok v w := fun xs k v w h => run_part_plain w hk h
 simp [Op.eqItems, hpart, run_equalIn_int, hp]
section
variable (us : List EU) (rs : List ER) (start : ByteArray) (turn : Int) (ts : List T) (Au Ar : Option Addr) (cu cr : Nat) (w : World)
set_option maxHeartbeats 16000000 in
set_option maxRecDepth 100000 in
theorem order_calls (hu : Kd.C kEU w Au us.length us) (hcu : us.length ≤ cu) (hr : Kd.C kER w Ar rs.length rs) (hcr : rs.length ≤ cr) (hfu : ∀ u ∈ us, u.f0.size ≤ 140737488351232) (hfit : ∀ r ∈ rs, FitR r) (hts : Checked rs → Trees rs ts) (hall : ∀ i, i < 4 → w.cell? ⟨0, i, none⟩ = some (.int .u64 ff64)) :
  Calls Tryd.prog 5 #[.agg #[.slice Au us.length cu, .slice Ar rs.length cr], .string start, .int .i64 turn] w fun e w' => e = .returned (.bool true) ∧ Below w.heap.size w w' := by
 have HU := aK hu
 have HCU := aK hcu
 have HR := aK hr
 have HCR := aK hcr
 have HFU := aK hfu
 have HFIT := aK hfit
 have HTS := aK hts
 have HALL := aK hall
 clear hu hcu hr hcr hfu hfit hts hall
 go_enter Tryd.func5, Tryd.ntmps5
 go_upto_region 4 with (first
  | ((with_reducible refine gate_dst (N := 3) rfl ?_); refine box_event (N := 3) rfl rfl (cs := #[.slice Au us.length cu, .slice Ar rs.length cr]) (t := 25) ?hr2 ?_; (case hr2 => first | (go_simp; done) | (go_simp; rfl)); intro g2 hg2 w2 hbox hb2; have R2 := aK (show RowAt w2 g2 25 [.slice Au us.length cu, .slice Ar rs.length cr] from ⟨_, hbox, rfl⟩); have HG2 := aK (show w.heap.size ≤ g2 by rw [hg2]; exact Nat.le_refl _); have HW := aK hb2; clear hbox hb2 hg2)
  | (go_at_call 7; (with_reducible refine (works_calls w2 (fun i hi => cell_below (HALL.out i hi) HW.out)).mono ?_); rintro e w3 ⟨rfl, hb⟩; have n1_ := aK (R2.out.below hb); have n2_ := aK (below_step HW.out hb); clear R2 HW hb; have R2 := n1_; have HW := n2_; clear n1_ n2_; have x0 : w3.cell? ⟨g2, 0, none⟩ = some (.slice Au us.length cu) := R2.out.cell 0; have x1 : w3.cell? ⟨g2, 1, none⟩ = some (.slice Ar rs.length cr) := R2.out.cell 1)
  | (go_at_call 8; have hcall := build_calls us rs start ts Au Ar cu cr w3 (Kd.C_below HU.out HW.out) HCU.out (Kd.C_below HR.out HW.out) HCR.out HFU.out HFIT.out HTS.out (fun i hi => cell_below (HALL.out i hi) HW.out); (with_reducible refine hcall.mono ?_); clear hcall; rintro e w4 ⟨⟨l, A, c, s, at_, code, rfl, hlc, hC, hout⟩, hb⟩; have HC := aK hC; have HLC := aK hlc; have HOUT := aK hout; have n1_ := aK (R2.out.below hb); have n2_ := aK (below_step HW.out hb); clear R2 HW hb hC hlc hout x0 x1; have R2 := n1_; have HW := n2_; clear n1_ n2_)
  | ((with_reducible refine gate_dst (N := 7) rfl ?_); refine box_event ?hg (N := 7) ?hd (cs := #[.slice none 0 0, .int .i64 0]) (t := 29) ?hr ?_; (case hd => rfl); (case hg => rfl); (case hr => first | (go_simp; done) | (go_simp; rfl)); intro g5 hg5 w5 hbox hb; have R5 := aK (show RowAt w5 g5 29 [.slice none 0 0, .int .i64 0] from ⟨_, hbox, rfl⟩); have HG5 := aK (show w4.heap.size ≤ g5 ∧ g2 < g5 by rw [hg5]; exact ⟨Nat.le_refl _, R2.out.lt⟩); have HW4 := aK hb; have n1_ := aK (R2.out.below hb); clear R2 hbox hb hg5; have R2 := n1_; clear n1_)
  | ((with_reducible refine gate_dst (N := 8) rfl ?_); refine box_event ?hg (N := 8) ?hd (cs := #[.int .i64 0, .int .i64 0]) (t := 32) ?hr ?_; (case hd => rfl); (case hg => rfl); (case hr => first | (go_simp; done) | (go_simp; rfl)); intro g6 hg6 w6 hbox hb; have R6 := aK (show RowAt w6 g6 32 [.int .i64 0, .int .i64 0] from ⟨_, hbox, rfl⟩); have HG6 := aK (show w4.heap.size ≤ g6 ∧ g2 < g6 ∧ g5 < g6 by rw [hg6]; exact ⟨HW4.out.size, R2.out.lt, R5.out.lt⟩); have n1_ := aK (R2.out.below hb); have n2_ := aK (R5.out.below hb); have n3_ := aK (below_step HW4.out hb); clear R2 R5 HW4 hbox hb hg6; have R2 := n1_; have R5 := n2_; have HW4 := n3_; clear n1_ n2_ n3_)
  | ((with_reducible refine gate_store (t := 29) (p := 7) rfl ?_); refine put_event rfl rfl 29 (.tmp 7) (.tmp 24) rfl (g := g5) (off := 0) (u := .agg #[.slice A l.length c, .int .i64 s]) (seg := [.slice A l.length c, .int .i64 s]) rfl rfl R5.out rfl (by kernel_rfl) (Nat.le_refl _) (by simp [Value.oneCell']) ?_; intro w7 hrow hg; have n1_ := aK (show RowAt w7 g5 29 [.slice A l.length c, .int .i64 s] from hrow); have n2_ := aK (R6.out.grown hg (by have := HG6.out; simp; omega)); have n4_ := aK (R2.out.grown hg (by have := HG5.out; simp; omega)); have n3_ := aK (pw_below_grown HW4.out _ HW4.out.size hg (fun k hk => by cases hk; exact HG5.out.1)); clear R2 R5 R6 HW4 hrow hg; have R5 := n1_; have R6 := n2_; have HW4 := n3_; have R2 := n4_; clear n1_ n2_ n3_ n4_)
  | ((with_reducible refine gate_store (t := 32) (p := 8) rfl ?_); refine put_event rfl rfl 32 (.tmp 8) (.tmp 25) rfl (g := g6) (off := 0) (u := .agg #[.int .i64 at_, .int .i64 code]) (seg := [.int .i64 at_, .int .i64 code]) rfl rfl R6.out rfl (by kernel_rfl) (Nat.le_refl _) (by simp [Value.oneCell']) ?_; intro w8 hrow hg; have n1_ := aK (show RowAt w8 g6 32 [.int .i64 at_, .int .i64 code] from hrow); have n2_ := aK (R5.out.grown hg (by have := HG6.out; simp; omega)); have n4_ := aK (R2.out.grown hg (by have := HG6.out; simp; omega)); have n3_ := aK (pw_below_grown HW4.out _ HW4.out.size hg (fun k hk => by cases hk; exact HG6.out.1)); clear R2 R5 R6 HW4 hrow hg; have R6 := n1_; have R5 := n2_; have HW4 := n3_; have R2 := n4_; clear n1_ n2_ n3_ n4_))
 rcases out_sort HOUT.out with hcode | ⟨ha, hc, L, hl, hs, o1, o2, o3, o4, o5, o6⟩
 ·have b1 : (code == 0) = false := beq_eq_false_iff_ne.mpr hcode
  have b2 : (code != 0) = true := bne_iff_ne.mpr hcode
  have x0 : w8.cell? ⟨g2, 0, none⟩ = some (.slice Au us.length cu) := R2.out.cell 0; have x1 : w8.cell? ⟨g2, 1, none⟩ = some (.slice Ar rs.length cr) := R2.out.cell 1; have s0 : w8.cell? ⟨g5, 0, none⟩ = some (.slice A l.length c) := R5.out.cell 0; have s1 : w8.cell? ⟨g5, 1, none⟩ = some (.int .i64 s) := R5.out.cell 1; have f0 : w8.cell? ⟨g6, 0, none⟩ = some (.int .i64 at_) := R6.out.cell 0; have f1 : w8.cell? ⟨g6, 1, none⟩ = some (.int .i64 code) := R6.out.cell 1
  clear hcode HOUT HC HLC
  go_wp2
  go_ret
  exact ⟨rfl, below_step HW.out HW4.out⟩
 ·subst ha hc
  obtain ⟨vv, hv1, hv2⟩ := check_any us rs HFU.out HFIT.out
  have hck := hv2 (hv1.det o1)
  have htr := HTS.out hck
  have hn1 := hck.pos
  have hn2 := hck.few
  obtain ⟨n, hn⟩ : ∃ n, rs.length = n := ⟨_, rfl⟩
  have hu0 : 0 ≤ IntKind.u64.wrap turn := by simp [IntKind.wrap, IntKind.signed, IntKind.bits]; omega
  obtain ⟨tu, htu⟩ : ∃ tu : Nat, IntKind.u64.wrap turn = (tu : Int) := ⟨(IntKind.u64.wrap turn).toNat, by omega⟩
  clear hu0
  obtain ⟨k, hk⟩ : ∃ k, tu % n = k := ⟨_, rfl⟩
  have hkn : k < n := by rw [← hk]; exact Nat.mod_lt _ (by omega)
  have hu1 : IntKind.u64.wrap (n : Int) = (n : Int) := by simp [IntKind.wrap, IntKind.signed, IntKind.bits]; omega
  have hu2 : (tu : Int).tmod (n : Int) = (k : Int) := by rw [Int.tmod_eq_emod_of_nonneg (by omega)]; omega
  have hu3 : IntKind.u64.wrap (k : Int) = (k : Int) := by simp [IntKind.wrap, IntKind.signed, IntKind.bits]; omega
  have hu4 : IntKind.i64.wrap (k : Int) = (k : Int) := IntWalk.i64_in _ (by omega)
  have n0 : ((n : Int) == 0) = false := beq_eq_false_iff_ne.mpr (by omega)
  have nb : (n : Int) ≤ 256 := by omega
  have kb : (k : Int) ≤ 256 := by omega
  have hout2 := fun (l' : List CR) (s' at_ code : Int) (h : Out [] (rot k rs) start (rot k ts) l' s' at_ code) => out_rot HFU.out HFIT.out htr (by omega) o1 o2 o3 o4 o5 o6 h
  have HOUT2 := aK hout2
  have HCK := aK hck
  have HTR := aK htr
  have HKN := aK hkn
  have HLEQ := aK hl
  have HSEQ := aK hs
  have HBT := aK (built_right hck htr o3 o4 o5 o6)
  have HNN := aK hn
  have HLL := aK (show L.length = n by rw [layR_len o6, htr.len, hn])
  have HCLN := aK (show ∀ b ∈ L, ∀ y ∈ b, cleanB y n = true by have := laid_clean hck htr o4 o6; rwa [hn] at this)
  have hlen : l.length = n := by rw [hl]; exact HBT.out.len.trans hn
  rw [hlen] at R5
  rw [hn] at R2
  have HLEN := aK hlen
  clear hout2 hck htr o1 o2 o3 o4 o5 o6 hv1 hv2 hk hl hs HOUT hn1 hn2 hlen
  have x0 : w8.cell? ⟨g2, 0, none⟩ = some (.slice Au us.length cu) := R2.out.cell 0
  have x1 : w8.cell? ⟨g2, 1, none⟩ = some (.slice Ar n cr) := R2.out.cell 1
  have s0 : w8.cell? ⟨g5, 0, none⟩ = some (.slice A n c) := R5.out.cell 0
  have s1 : w8.cell? ⟨g5, 1, none⟩ = some (.int .i64 s) := R5.out.cell 1
  have f0 : w8.cell? ⟨g6, 0, none⟩ = some (.int .i64 0) := R6.out.cell 0
  have f1 : w8.cell? ⟨g6, 1, none⟩ = some (.int .i64 0) := R6.out.cell 1
  clear hn
  go_upto_region 8 with (fail)
  have hcf := cut_from (P := Tryd.prog) 23 40 .i64 Tryd.underlying23 rfl 3 (by kernel_rfl) Ar n cr (k : Int) (by omega) (by omega)
  have hct := cut_to (P := Tryd.prog) 23 40 .i64 Tryd.underlying23 rfl Ar n cr (k : Int) (by omega) (by omega) (by have := HCR.out; have := HNN.out; omega)
  rw [Int.toNat_natCast] at hcf hct
  have hd := Kd.C_drop (k := kF w) (m := k) (c := cr) (kF_of HR.out (Below.refl _ _)) (by have := HNN.out; omega) HCR.out
  have ht := Kd.C_take (k := kF w) (m := k) (kF_of HR.out (Below.refl _ _)) (by have := HNN.out; omega)
  rw [List.length_drop, HNN.out] at hd
  rw [List.length_take, HNN.out, Nat.min_eq_left (by omega)] at ht
  change (kF w).C w (if cr = k then Ar else Ar.map (·.add (k * 3))) (n - k) (rs.drop k) at hd
  generalize (if cr = k then Ar else Ar.map (·.add (k * 3))) = A' at *
  have HDR := aK hd
  have HTK := aK ht
  have HRB := aK (show rs.length ≤ 256 by rw [HNN.out]; omega)
  have HCT := aK hct
  have HCF := aK hcf
  clear hd ht hct hcf
  go_cut [11] (fun v11 wc => ∃ (gx : Nat) (V : Value), v11 = .pointer (some ⟨gx, 0, none⟩) ∧ Aside0 (RowAt wc gx 25 [.slice none 0 0, V]) ∧ Aside0 (Kd.R (kF w) 40 wc w8.heap.size (fun _ => True) V (rot k rs)) ∧ Aside0 (Below w8.heap.size w8 wc))
  case first =>
   refine wp_region_held_drew (S := fun W => Below w8.heap.size w8 W) (by kernel_rfl) (below_drew (Below.refl _ _)) (fun hH => ?_)
   generalize w8.drew = w9 at *
   refine wpAnyH_take (i := 1) (oi := _) (v := .pointer (some ⟨g2, 1, none⟩)) rfl (by kernel_rfl) (by kernel_rfl) (by kernel_rfl) (fun _ _ _ h => h) (Or.inl ⟨by rfl, fun w hw => by go_simp⟩) hH ?_; simp only [List.getElem_toArray, List.getElem_cons_zero, List.getElem_cons_succ, Act.put, List.setIfInBounds_toArray, List.set_cons_zero, List.set_cons_succ]
   refine wpAnyH_take (i := 2) (oi := _) (v := .slice Ar n cr) rfl (by kernel_rfl) (by kernel_rfl) (by kernel_rfl) (fun _ _ _ h => h) (Or.inl ⟨by rfl, fun w hw => by (have z := cell_below x1 hw; go_simp)⟩) hH ?_; simp only [List.getElem_toArray, List.getElem_cons_zero, List.getElem_cons_succ, Act.put, List.setIfInBounds_toArray, List.set_cons_zero, List.set_cons_succ]
   refine wpAnyH_take (i := 3) (oi := _) (v := .int .i64 (k : Int)) rfl (by kernel_rfl) (by kernel_rfl) (by kernel_rfl) (fun _ _ _ h => h) (Or.inl ⟨by rfl, fun w hw => by go_simp⟩) hH ?_; simp only [List.getElem_toArray, List.getElem_cons_zero, List.getElem_cons_succ, Act.put, List.setIfInBounds_toArray, List.set_cons_zero, List.set_cons_succ]
   refine wpAnyH_take (i := 4) (oi := _) (v := .slice A' (n - k) (cr - k)) rfl (by kernel_rfl) (by kernel_rfl) (by kernel_rfl) (fun _ _ _ h => h) (Or.inl ⟨by rfl, fun w hw => by (have z := HCF.out w; go_simp)⟩) hH ?_; simp only [List.getElem_toArray, List.getElem_cons_zero, List.getElem_cons_succ, Act.put, List.setIfInBounds_toArray, List.set_cons_zero, List.set_cons_succ]
   refine wpAnyH_take (i := 6) (oi := _) (v := .pointer (some ⟨g2, 1, none⟩)) rfl (by kernel_rfl) (by kernel_rfl) (by kernel_rfl) (fun _ _ _ h => h) (Or.inl ⟨by rfl, fun w hw => by go_simp⟩) hH ?_; simp only [List.getElem_toArray, List.getElem_cons_zero, List.getElem_cons_succ, Act.put, List.setIfInBounds_toArray, List.set_cons_zero, List.set_cons_succ]
   refine wpAnyH_take (i := 7) (oi := _) (v := .slice Ar n cr) rfl (by kernel_rfl) (by kernel_rfl) (by kernel_rfl) (fun _ _ _ h => h) (Or.inl ⟨by rfl, fun w hw => by (have z := cell_below x1 hw; go_simp)⟩) hH ?_; simp only [List.getElem_toArray, List.getElem_cons_zero, List.getElem_cons_succ, Act.put, List.setIfInBounds_toArray, List.set_cons_zero, List.set_cons_succ]
   refine wpAnyH_take (i := 8) (oi := _) (v := .int .i64 (k : Int)) rfl (by kernel_rfl) (by kernel_rfl) (by kernel_rfl) (fun _ _ _ h => h) (Or.inl ⟨by rfl, fun w hw => by go_simp⟩) hH ?_; simp only [List.getElem_toArray, List.getElem_cons_zero, List.getElem_cons_succ, Act.put, List.setIfInBounds_toArray, List.set_cons_zero, List.set_cons_succ]
   refine wpAnyH_take (i := 9) (oi := _) (v := .slice Ar k cr) rfl (by kernel_rfl) (by kernel_rfl) (by kernel_rfl) (fun _ _ _ h => h) (Or.inl ⟨by rfl, fun w hw => by (have z := HCT.out w; go_simp)⟩) hH ?_; simp only [List.getElem_toArray, List.getElem_cons_zero, List.getElem_cons_succ, Act.put, List.setIfInBounds_toArray, List.set_cons_zero, List.set_cons_succ]
   refine wpAnyH_ready (rs := [0, 12]) (by kernel_rfl) (by simp) ?_; refine AllReadyH.cons (o := _) rfl (fun K hK => ?_) (AllReadyH.cons (o := _) rfl (fun K hK => ?_) AllReadyH.nil)
   ·(refine rstep_value (v := .slice (some ⟨w9.heap.size, 0, none⟩) 0 0) (w' := w9.alloc (.cells #[] 40)) (by rfl) (by first | (go_simp; done) | (go_simp; rfl)) ?_; have hb := below_alloc (Below.refl w9.heap.size w9) (.cells #[] 40); have HV := aK (rows_new (w := w) w9 w8.heap.size hH.size); (try (have n1_ := aK (HX.out.below hb); clear HX; have HX := n1_; clear n1_)); have hH2 := below_step hH hb; clear hH hb; have hH := hH2; clear hH2; generalize w9.alloc (.cells #[] 40) = wa at *; generalize w9.heap.size = g0 at *; obtain ⟨V, hV⟩ : ∃ V, Value.slice (some ⟨g0, 0, none⟩) 0 0 = V := ⟨_, rfl⟩; rw [hV] at HV ⊢; clear hV; refine hK.out _ _ hH (fun _ => ?_); clear hK K; simp only [List.getElem_toArray, List.getElem_cons_zero, List.getElem_cons_succ, Act.put, List.setIfInBounds_toArray, List.set_cons_zero, List.set_cons_succ])
    refine wpAnyH_ready (rs := [5, 12]) (by kernel_rfl) (by simp) ?_; refine AllReadyH.cons (o := _) rfl (fun K hK => ?_) (AllReadyH.cons (o := _) rfl (fun K hK => ?_) AllReadyH.nil)
    ·(refine Kd.R_append_rows_step (kF w) (Rr := fun x cs => kER.K w x cs) (w0 := w8) w8.heap.size (by rfl) (.tmp 42) (.tmp 46) 23 40 (.agg #[.string (⟨#[]⟩ : ByteArray), .slice none 0 0, .slice none 0 0]) 64 rfl Tryd.underlying23 (by kernel_rfl) rfl (show 0 < 3 by decide) (by decide) V [] _ _ _ _ (fun _ => True) (fun _ => False) rfl rfl HV.out (Kd.C_below HDR.out (below_step (below_step HW.out HW4.out) hH)) (fun x cs h => h) (fun k hk => hk.elim) (fun _ _ => trivial) hH hH.size (by have := HRB.out; simp; omega) ?_; intro V2 wb hR hb2 hg hat; (try (have n1_ := aK (HX.out.grown hg (rows_ne HV.out HX.out))); clear HX; have HX := n1_; clear n1_); clear HV hH hg hat; have HV := aK hR; have hH := hb2; clear hR hb2; (try clear V); generalize V2 = V at *; clear V2; refine hK.out _ _ hH (fun _ => ?_); clear hK K; simp only [List.getElem_toArray, List.getElem_cons_zero, List.getElem_cons_succ, Act.put, List.setIfInBounds_toArray, List.set_cons_zero, List.set_cons_succ])
     refine wpAnyH_ready (rs := [10, 12]) (by kernel_rfl) (by simp) ?_; refine AllReadyH.cons (o := _) rfl (fun K hK => ?_) (AllReadyH.cons (o := _) rfl (fun K hK => ?_) AllReadyH.nil)
     ·(refine Kd.R_append_rows_step (kF w) (Rr := fun x cs => kER.K w x cs) (w0 := w8) w8.heap.size (by rfl) (.tmp 47) (.tmp 51) 23 40 (.agg #[.string (⟨#[]⟩ : ByteArray), .slice none 0 0, .slice none 0 0]) 64 rfl Tryd.underlying23 (by kernel_rfl) rfl (show 0 < 3 by decide) (by decide) V ([] ++ rs.drop k) _ _ _ _ (fun _ => True) (fun _ => False) rfl rfl HV.out (Kd.C_below HTK.out (below_step (below_step HW.out HW4.out) hH)) (fun x cs h => h) (fun k hk => hk.elim) (fun _ _ => trivial) hH hH.size (by have := HRB.out; simp; omega) ?_; intro V2 wc hR hb2 hg hat; (try (have n1_ := aK (HX.out.grown hg (rows_ne HV.out HX.out))); clear HX; have HX := n1_; clear n1_); clear HV hH hg hat; have HV := aK hR; have hH := hb2; clear hR hb2; (try clear V); generalize V2 = V at *; clear V2; refine hK.out _ _ hH (fun _ => ?_); clear hK K; simp only [List.getElem_toArray, List.getElem_cons_zero, List.getElem_cons_succ, Act.put, List.setIfInBounds_toArray, List.set_cons_zero, List.set_cons_succ])
      refine wpAnyH_take (i := 11) (oi := _) (v := .agg #[.slice none 0 0, V]) rfl (by kernel_rfl) (by kernel_rfl) (by kernel_rfl) (fun _ _ _ h => h) (Or.inl ⟨by rfl, fun w hw => by (obtain ⟨Av, cv, hve⟩ := Kd.R_slice HV.out; subst hve; go_simp)⟩) hH ?_; simp only [List.getElem_toArray, List.getElem_cons_zero, List.getElem_cons_succ, Act.put, List.setIfInBounds_toArray, List.set_cons_zero, List.set_cons_succ]
      refine wpAnyH_ready (rs := [12]) (by kernel_rfl) (by simp) ?_; refine AllReadyH.cons (o := _) rfl (fun K hK => ?_) AllReadyH.nil
      (refine rstep_value (v := .pointer (some ⟨wc.heap.size, 0, none⟩)) (w' := wc.alloc (.cells #[.slice none 0 0, .slice none 0 0] 25)) (by rfl) (by first | (go_simp; done) | (go_simp; rfl)) ?_; have hb := below_alloc (Below.refl wc.heap.size wc) (.cells #[.slice none 0 0, .slice none 0 0] 25); have HX := aK (show RowAt (wc.alloc (.cells #[.slice none 0 0, .slice none 0 0] 25)) wc.heap.size 25 [.slice none 0 0, .slice none 0 0] from ⟨_, heap_alloc_new _ _, rfl⟩); have HGX := aK (show w8.heap.size ≤ wc.heap.size from hH.size); (try (have n1_ := aK (Kd.R_below HV.out hb); clear HV; have HV := n1_; clear n1_)); have hH2 := below_step hH hb; clear hH hb; have hH := hH2; clear hH2; generalize wc.alloc (.cells #[.slice none 0 0, .slice none 0 0] 25) = wd at *; generalize wc.heap.size = gx at *; refine hK.out _ _ hH (fun _ => ?_); clear hK K; simp only [List.getElem_toArray, List.getElem_cons_zero, List.getElem_cons_succ, Act.put, List.setIfInBounds_toArray, List.set_cons_zero, List.set_cons_succ])
      (refine wpAnyH_ready (rs := [13]) (by kernel_rfl) (by simp) ?_; refine AllReadyH.cons (o := _) rfl (fun K hK => ?_) AllReadyH.nil; refine rstep_store (by rfl) 25 (.tmp 11) (.tmp 53) rfl (g := gx) (off := 0) (u := .agg #[.slice none 0 0, V]) (seg := [.slice none 0 0, V]) rfl rfl HX.out rfl (by kernel_rfl) (Nat.le_refl _) (by intro q hq; rcases List.mem_cons.1 hq with rfl | hq; (· rfl); (· rw [List.mem_singleton.1 hq]; exact (Kd.R_val HV.out).2)) ?_; intro we hrow hg; have hH2 := pw_below_grown hH _ hH.size hg (fun q hq => by cases hq; exact HGX.out); have HV2 := aK (rows_put HV.out HX.out hg); clear hH; have hH := hH2; clear hH2; refine hK.out _ _ hH (fun _ => ?_); clear hK K; simp only [List.getElem_toArray, List.getElem_cons_zero, List.getElem_cons_succ, Act.put, List.setIfInBounds_toArray, List.set_cons_zero, List.set_cons_succ]; refine wpAnyH_done (by kernel_rfl) ?_ _; go_wp2; go_meet; (case rel => exact ⟨gx, V, rfl, ⟨hrow⟩, HV2, ⟨hH⟩⟩))
     ·(refine rstep_value (v := .pointer (some ⟨wb.heap.size, 0, none⟩)) (w' := wb.alloc (.cells #[.slice none 0 0, .slice none 0 0] 25)) (by rfl) (by first | (go_simp; done) | (go_simp; rfl)) ?_; have hb := below_alloc (Below.refl wb.heap.size wb) (.cells #[.slice none 0 0, .slice none 0 0] 25); have HX := aK (show RowAt (wb.alloc (.cells #[.slice none 0 0, .slice none 0 0] 25)) wb.heap.size 25 [.slice none 0 0, .slice none 0 0] from ⟨_, heap_alloc_new _ _, rfl⟩); have HGX := aK (show w8.heap.size ≤ wb.heap.size from hH.size); (try (have n1_ := aK (Kd.R_below HV.out hb); clear HV; have HV := n1_; clear n1_)); have hH2 := below_step hH hb; clear hH hb; have hH := hH2; clear hH2; generalize wb.alloc (.cells #[.slice none 0 0, .slice none 0 0] 25) = wc at *; generalize wb.heap.size = gx at *; refine hK.out _ _ hH (fun _ => ?_); clear hK K; simp only [List.getElem_toArray, List.getElem_cons_zero, List.getElem_cons_succ, Act.put, List.setIfInBounds_toArray, List.set_cons_zero, List.set_cons_succ])
      refine wpAnyH_ready (rs := [10]) (by kernel_rfl) (by simp) ?_; refine AllReadyH.cons (o := _) rfl (fun K hK => ?_) AllReadyH.nil
      (refine Kd.R_append_rows_step (kF w) (Rr := fun x cs => kER.K w x cs) (w0 := w8) w8.heap.size (by rfl) (.tmp 47) (.tmp 51) 23 40 (.agg #[.string (⟨#[]⟩ : ByteArray), .slice none 0 0, .slice none 0 0]) 64 rfl Tryd.underlying23 (by kernel_rfl) rfl (show 0 < 3 by decide) (by decide) V ([] ++ rs.drop k) _ _ _ _ (fun _ => True) (fun _ => False) rfl rfl HV.out (Kd.C_below HTK.out (below_step (below_step HW.out HW4.out) hH)) (fun x cs h => h) (fun k hk => hk.elim) (fun _ _ => trivial) hH hH.size (by have := HRB.out; simp; omega) ?_; intro V2 wd hR hb2 hg hat; (try (have n1_ := aK (HX.out.grown hg (rows_ne HV.out HX.out))); clear HX; have HX := n1_; clear n1_); clear HV hH hg hat; have HV := aK hR; have hH := hb2; clear hR hb2; (try clear V); generalize V2 = V at *; clear V2; refine hK.out _ _ hH (fun _ => ?_); clear hK K; simp only [List.getElem_toArray, List.getElem_cons_zero, List.getElem_cons_succ, Act.put, List.setIfInBounds_toArray, List.set_cons_zero, List.set_cons_succ])
      refine wpAnyH_take (i := 11) (oi := _) (v := .agg #[.slice none 0 0, V]) rfl (by kernel_rfl) (by kernel_rfl) (by kernel_rfl) (fun _ _ _ h => h) (Or.inl ⟨by rfl, fun w hw => by (obtain ⟨Av, cv, hve⟩ := Kd.R_slice HV.out; subst hve; go_simp)⟩) hH ?_; simp only [List.getElem_toArray, List.getElem_cons_zero, List.getElem_cons_succ, Act.put, List.setIfInBounds_toArray, List.set_cons_zero, List.set_cons_succ]
      (refine wpAnyH_ready (rs := [13]) (by kernel_rfl) (by simp) ?_; refine AllReadyH.cons (o := _) rfl (fun K hK => ?_) AllReadyH.nil; refine rstep_store (by rfl) 25 (.tmp 11) (.tmp 53) rfl (g := gx) (off := 0) (u := .agg #[.slice none 0 0, V]) (seg := [.slice none 0 0, V]) rfl rfl HX.out rfl (by kernel_rfl) (Nat.le_refl _) (by intro q hq; rcases List.mem_cons.1 hq with rfl | hq; (· rfl); (· rw [List.mem_singleton.1 hq]; exact (Kd.R_val HV.out).2)) ?_; intro we hrow hg; have hH2 := pw_below_grown hH _ hH.size hg (fun q hq => by cases hq; exact HGX.out); have HV2 := aK (rows_put HV.out HX.out hg); clear hH; have hH := hH2; clear hH2; refine hK.out _ _ hH (fun _ => ?_); clear hK K; simp only [List.getElem_toArray, List.getElem_cons_zero, List.getElem_cons_succ, Act.put, List.setIfInBounds_toArray, List.set_cons_zero, List.set_cons_succ]; refine wpAnyH_done (by kernel_rfl) ?_ _; go_wp2; go_meet; (case rel => exact ⟨gx, V, rfl, ⟨hrow⟩, HV2, ⟨hH⟩⟩))
    ·(refine rstep_value (v := .pointer (some ⟨wa.heap.size, 0, none⟩)) (w' := wa.alloc (.cells #[.slice none 0 0, .slice none 0 0] 25)) (by rfl) (by first | (go_simp; done) | (go_simp; rfl)) ?_; have hb := below_alloc (Below.refl wa.heap.size wa) (.cells #[.slice none 0 0, .slice none 0 0] 25); have HX := aK (show RowAt (wa.alloc (.cells #[.slice none 0 0, .slice none 0 0] 25)) wa.heap.size 25 [.slice none 0 0, .slice none 0 0] from ⟨_, heap_alloc_new _ _, rfl⟩); have HGX := aK (show w8.heap.size ≤ wa.heap.size from hH.size); (try (have n1_ := aK (Kd.R_below HV.out hb); clear HV; have HV := n1_; clear n1_)); have hH2 := below_step hH hb; clear hH hb; have hH := hH2; clear hH2; generalize wa.alloc (.cells #[.slice none 0 0, .slice none 0 0] 25) = wb at *; generalize wa.heap.size = gx at *; refine hK.out _ _ hH (fun _ => ?_); clear hK K; simp only [List.getElem_toArray, List.getElem_cons_zero, List.getElem_cons_succ, Act.put, List.setIfInBounds_toArray, List.set_cons_zero, List.set_cons_succ])
     refine wpAnyH_ready (rs := [5]) (by kernel_rfl) (by simp) ?_; refine AllReadyH.cons (o := _) rfl (fun K hK => ?_) AllReadyH.nil
     (refine Kd.R_append_rows_step (kF w) (Rr := fun x cs => kER.K w x cs) (w0 := w8) w8.heap.size (by rfl) (.tmp 42) (.tmp 46) 23 40 (.agg #[.string (⟨#[]⟩ : ByteArray), .slice none 0 0, .slice none 0 0]) 64 rfl Tryd.underlying23 (by kernel_rfl) rfl (show 0 < 3 by decide) (by decide) V [] _ _ _ _ (fun _ => True) (fun _ => False) rfl rfl HV.out (Kd.C_below HDR.out (below_step (below_step HW.out HW4.out) hH)) (fun x cs h => h) (fun k hk => hk.elim) (fun _ _ => trivial) hH hH.size (by have := HRB.out; simp; omega) ?_; intro V2 wc hR hb2 hg hat; (try (have n1_ := aK (HX.out.grown hg (rows_ne HV.out HX.out))); clear HX; have HX := n1_; clear n1_); clear HV hH hg hat; have HV := aK hR; have hH := hb2; clear hR hb2; (try clear V); generalize V2 = V at *; clear V2; refine hK.out _ _ hH (fun _ => ?_); clear hK K; simp only [List.getElem_toArray, List.getElem_cons_zero, List.getElem_cons_succ, Act.put, List.setIfInBounds_toArray, List.set_cons_zero, List.set_cons_succ])
     refine wpAnyH_ready (rs := [10]) (by kernel_rfl) (by simp) ?_; refine AllReadyH.cons (o := _) rfl (fun K hK => ?_) AllReadyH.nil
     (refine Kd.R_append_rows_step (kF w) (Rr := fun x cs => kER.K w x cs) (w0 := w8) w8.heap.size (by rfl) (.tmp 47) (.tmp 51) 23 40 (.agg #[.string (⟨#[]⟩ : ByteArray), .slice none 0 0, .slice none 0 0]) 64 rfl Tryd.underlying23 (by kernel_rfl) rfl (show 0 < 3 by decide) (by decide) V ([] ++ rs.drop k) _ _ _ _ (fun _ => True) (fun _ => False) rfl rfl HV.out (Kd.C_below HTK.out (below_step (below_step HW.out HW4.out) hH)) (fun x cs h => h) (fun k hk => hk.elim) (fun _ _ => trivial) hH hH.size (by have := HRB.out; simp; omega) ?_; intro V2 wd hR hb2 hg hat; (try (have n1_ := aK (HX.out.grown hg (rows_ne HV.out HX.out))); clear HX; have HX := n1_; clear n1_); clear HV hH hg hat; have HV := aK hR; have hH := hb2; clear hR hb2; (try clear V); generalize V2 = V at *; clear V2; refine hK.out _ _ hH (fun _ => ?_); clear hK K; simp only [List.getElem_toArray, List.getElem_cons_zero, List.getElem_cons_succ, Act.put, List.setIfInBounds_toArray, List.set_cons_zero, List.set_cons_succ])
     refine wpAnyH_take (i := 11) (oi := _) (v := .agg #[.slice none 0 0, V]) rfl (by kernel_rfl) (by kernel_rfl) (by kernel_rfl) (fun _ _ _ h => h) (Or.inl ⟨by rfl, fun w hw => by (obtain ⟨Av, cv, hve⟩ := Kd.R_slice HV.out; subst hve; go_simp)⟩) hH ?_; simp only [List.getElem_toArray, List.getElem_cons_zero, List.getElem_cons_succ, Act.put, List.setIfInBounds_toArray, List.set_cons_zero, List.set_cons_succ]
     (refine wpAnyH_ready (rs := [13]) (by kernel_rfl) (by simp) ?_; refine AllReadyH.cons (o := _) rfl (fun K hK => ?_) AllReadyH.nil; refine rstep_store (by rfl) 25 (.tmp 11) (.tmp 53) rfl (g := gx) (off := 0) (u := .agg #[.slice none 0 0, V]) (seg := [.slice none 0 0, V]) rfl rfl HX.out rfl (by kernel_rfl) (Nat.le_refl _) (by intro q hq; rcases List.mem_cons.1 hq with rfl | hq; (· rfl); (· rw [List.mem_singleton.1 hq]; exact (Kd.R_val HV.out).2)) ?_; intro we hrow hg; have hH2 := pw_below_grown hH _ hH.size hg (fun q hq => by cases hq; exact HGX.out); have HV2 := aK (rows_put HV.out HX.out hg); clear hH; have hH := hH2; clear hH2; refine hK.out _ _ hH (fun _ => ?_); clear hK K; simp only [List.getElem_toArray, List.getElem_cons_zero, List.getElem_cons_succ, Act.put, List.setIfInBounds_toArray, List.set_cons_zero, List.set_cons_succ]; refine wpAnyH_done (by kernel_rfl) ?_ _; go_wp2; go_meet; (case rel => exact ⟨gx, V, rfl, ⟨hrow⟩, HV2, ⟨hH⟩⟩))
   ·(refine rstep_value (v := .pointer (some ⟨w9.heap.size, 0, none⟩)) (w' := w9.alloc (.cells #[.slice none 0 0, .slice none 0 0] 25)) (by rfl) (by first | (go_simp; done) | (go_simp; rfl)) ?_; have hb := below_alloc (Below.refl w9.heap.size w9) (.cells #[.slice none 0 0, .slice none 0 0] 25); have HX := aK (show RowAt (w9.alloc (.cells #[.slice none 0 0, .slice none 0 0] 25)) w9.heap.size 25 [.slice none 0 0, .slice none 0 0] from ⟨_, heap_alloc_new _ _, rfl⟩); have HGX := aK (show w8.heap.size ≤ w9.heap.size from hH.size); (try (have n1_ := aK (Kd.R_below HV.out hb); clear HV; have HV := n1_; clear n1_)); have hH2 := below_step hH hb; clear hH hb; have hH := hH2; clear hH2; generalize w9.alloc (.cells #[.slice none 0 0, .slice none 0 0] 25) = wa at *; generalize w9.heap.size = gx at *; refine hK.out _ _ hH (fun _ => ?_); clear hK K; simp only [List.getElem_toArray, List.getElem_cons_zero, List.getElem_cons_succ, Act.put, List.setIfInBounds_toArray, List.set_cons_zero, List.set_cons_succ])
    refine wpAnyH_ready (rs := [0]) (by kernel_rfl) (by simp) ?_; refine AllReadyH.cons (o := _) rfl (fun K hK => ?_) AllReadyH.nil
    (refine rstep_value (v := .slice (some ⟨wa.heap.size, 0, none⟩) 0 0) (w' := wa.alloc (.cells #[] 40)) (by rfl) (by first | (go_simp; done) | (go_simp; rfl)) ?_; have hb := below_alloc (Below.refl wa.heap.size wa) (.cells #[] 40); have HV := aK (rows_new (w := w) wa w8.heap.size hH.size); (try (have n1_ := aK (HX.out.below hb); clear HX; have HX := n1_; clear n1_)); have hH2 := below_step hH hb; clear hH hb; have hH := hH2; clear hH2; generalize wa.alloc (.cells #[] 40) = wb at *; generalize wa.heap.size = g0 at *; obtain ⟨V, hV⟩ : ∃ V, Value.slice (some ⟨g0, 0, none⟩) 0 0 = V := ⟨_, rfl⟩; rw [hV] at HV ⊢; clear hV; refine hK.out _ _ hH (fun _ => ?_); clear hK K; simp only [List.getElem_toArray, List.getElem_cons_zero, List.getElem_cons_succ, Act.put, List.setIfInBounds_toArray, List.set_cons_zero, List.set_cons_succ])
    refine wpAnyH_ready (rs := [5]) (by kernel_rfl) (by simp) ?_; refine AllReadyH.cons (o := _) rfl (fun K hK => ?_) AllReadyH.nil
    (refine Kd.R_append_rows_step (kF w) (Rr := fun x cs => kER.K w x cs) (w0 := w8) w8.heap.size (by rfl) (.tmp 42) (.tmp 46) 23 40 (.agg #[.string (⟨#[]⟩ : ByteArray), .slice none 0 0, .slice none 0 0]) 64 rfl Tryd.underlying23 (by kernel_rfl) rfl (show 0 < 3 by decide) (by decide) V [] _ _ _ _ (fun _ => True) (fun _ => False) rfl rfl HV.out (Kd.C_below HDR.out (below_step (below_step HW.out HW4.out) hH)) (fun x cs h => h) (fun k hk => hk.elim) (fun _ _ => trivial) hH hH.size (by have := HRB.out; simp; omega) ?_; intro V2 wc hR hb2 hg hat; (try (have n1_ := aK (HX.out.grown hg (rows_ne HV.out HX.out))); clear HX; have HX := n1_; clear n1_); clear HV hH hg hat; have HV := aK hR; have hH := hb2; clear hR hb2; (try clear V); generalize V2 = V at *; clear V2; refine hK.out _ _ hH (fun _ => ?_); clear hK K; simp only [List.getElem_toArray, List.getElem_cons_zero, List.getElem_cons_succ, Act.put, List.setIfInBounds_toArray, List.set_cons_zero, List.set_cons_succ])
    refine wpAnyH_ready (rs := [10]) (by kernel_rfl) (by simp) ?_; refine AllReadyH.cons (o := _) rfl (fun K hK => ?_) AllReadyH.nil
    (refine Kd.R_append_rows_step (kF w) (Rr := fun x cs => kER.K w x cs) (w0 := w8) w8.heap.size (by rfl) (.tmp 47) (.tmp 51) 23 40 (.agg #[.string (⟨#[]⟩ : ByteArray), .slice none 0 0, .slice none 0 0]) 64 rfl Tryd.underlying23 (by kernel_rfl) rfl (show 0 < 3 by decide) (by decide) V ([] ++ rs.drop k) _ _ _ _ (fun _ => True) (fun _ => False) rfl rfl HV.out (Kd.C_below HTK.out (below_step (below_step HW.out HW4.out) hH)) (fun x cs h => h) (fun k hk => hk.elim) (fun _ _ => trivial) hH hH.size (by have := HRB.out; simp; omega) ?_; intro V2 wd hR hb2 hg hat; (try (have n1_ := aK (HX.out.grown hg (rows_ne HV.out HX.out))); clear HX; have HX := n1_; clear n1_); clear HV hH hg hat; have HV := aK hR; have hH := hb2; clear hR hb2; (try clear V); generalize V2 = V at *; clear V2; refine hK.out _ _ hH (fun _ => ?_); clear hK K; simp only [List.getElem_toArray, List.getElem_cons_zero, List.getElem_cons_succ, Act.put, List.setIfInBounds_toArray, List.set_cons_zero, List.set_cons_succ])
    refine wpAnyH_take (i := 11) (oi := _) (v := .agg #[.slice none 0 0, V]) rfl (by kernel_rfl) (by kernel_rfl) (by kernel_rfl) (fun _ _ _ h => h) (Or.inl ⟨by rfl, fun w hw => by (obtain ⟨Av, cv, hve⟩ := Kd.R_slice HV.out; subst hve; go_simp)⟩) hH ?_; simp only [List.getElem_toArray, List.getElem_cons_zero, List.getElem_cons_succ, Act.put, List.setIfInBounds_toArray, List.set_cons_zero, List.set_cons_succ]
    (refine wpAnyH_ready (rs := [13]) (by kernel_rfl) (by simp) ?_; refine AllReadyH.cons (o := _) rfl (fun K hK => ?_) AllReadyH.nil; refine rstep_store (by rfl) 25 (.tmp 11) (.tmp 53) rfl (g := gx) (off := 0) (u := .agg #[.slice none 0 0, V]) (seg := [.slice none 0 0, V]) rfl rfl HX.out rfl (by kernel_rfl) (Nat.le_refl _) (by intro q hq; rcases List.mem_cons.1 hq with rfl | hq; (· rfl); (· rw [List.mem_singleton.1 hq]; exact (Kd.R_val HV.out).2)) ?_; intro we hrow hg; have hH2 := pw_below_grown hH _ hH.size hg (fun q hq => by cases hq; exact HGX.out); have HV2 := aK (rows_put HV.out HX.out hg); clear hH; have hH := hH2; clear hH2; refine hK.out _ _ hH (fun _ => ?_); clear hK K; simp only [List.getElem_toArray, List.getElem_cons_zero, List.getElem_cons_succ, Act.put, List.setIfInBounds_toArray, List.set_cons_zero, List.set_cons_succ]; refine wpAnyH_done (by kernel_rfl) ?_ _; go_wp2; go_meet; (case rel => exact ⟨gx, V, rfl, ⟨hrow⟩, HV2, ⟨hH⟩⟩))
  case rest =>
   obtain ⟨gx, V, rfl, HX, HV, HW9⟩ := hcut
   obtain ⟨A3, c3, hV, hcap3, hC3⟩ := Kd.R_reads HV.out
   subst hV
   have hrl : (rot k rs).length = n := by rw [rot_len (by have := HNN.out; omega), HNN.out]
   have hbw := below_step HW.out HW4.out
   have hcall := build_calls [] (rot k rs) start (rot k ts) none A3 0 c3 wc (Kd.C_nil _ _) (Nat.le_refl _) (kF_C hC3 (below_step hbw HW9.out)) hcap3 (by simp) (fun r hr => HFIT.out r (rot_mem.1 hr)) (fun _ => trees_rot HTR.out (by have := HNN.out; omega)) (fun i hi => cell_below (HALL.out i hi) (below_step hbw HW9.out))
   rw [hrl] at hcall HX
   change Calls Tryd.prog _ #[.agg #[.slice none 0 0, .slice A3 n c3], .string start] wc _ at hcall
   have HCALL := aK hcall
   have n1_ := aK (R5.out.below HW9.out)
   have n2_ := aK (R6.out.below HW9.out)
   have n3_ := aK (below_step HW4.out HW9.out)
   clear R5 R6 R2 HW4 HW9 hcall hbw hcap3 hC3 x0 x1 s0 s1 f0 f1 HV HDR HTK HCF HCT hrl
   have R5 := n1_
   have R6 := n2_
   have HW4 := n3_
   clear n1_ n2_ n3_
   have y0 : wc.cell? ⟨gx, 0, none⟩ = some (.slice none 0 0) := HX.out.cell 0
   have y1 : wc.cell? ⟨gx, 1, none⟩ = some (.slice A3 n c3) := HX.out.cell 1
   go_upto_region 10 with (first
    | (go_at_call 8; (with_reducible refine HCALL.out.mono ?_); rintro e w10 ⟨⟨l2, A4, c4, s2, at2, code2, rfl, hlc2, hC2, hout2⟩, hb⟩; obtain ⟨ha2, hc2, hl2, hs2⟩ := HOUT2.out _ _ _ _ hout2; subst ha2; subst hc2; have HC2 := aK hC2; have HLC2 := aK hlc2; have HL2 := aK hl2; have HS2 := aK hs2; have n1_ := aK (R5.out.below hb); have n2_ := aK (R6.out.below hb); have n3_ := aK (below_step HW4.out hb); clear R5 R6 HW4 HX y0 y1 hb hC2 hlc2 hout2 hl2 hs2 HCALL; have R5 := n1_; have R6 := n2_; have HW4 := n3_; clear n1_ n2_ n3_)
    | ((with_reducible refine gate_dst (N := 12) rfl ?_); refine box_event ?hg (N := 12) ?hd (cs := #[.slice none 0 0, .int .i64 0]) (t := 29) ?hr ?_; (case hd => rfl); (case hg => rfl); (case hr => first | (go_simp; done) | (go_simp; rfl)); intro g12 hg12 w11 hbox hb; have R12 := aK (show RowAt w11 g12 29 [.slice none 0 0, .int .i64 0] from ⟨_, hbox, rfl⟩); have HG12 := aK (show w10.heap.size ≤ g12 ∧ g5 < g12 ∧ g6 < g12 by rw [hg12]; exact ⟨Nat.le_refl _, R5.out.lt, R6.out.lt⟩); have HW10 := aK hb; have n1_ := aK (R5.out.below hb); have n2_ := aK (R6.out.below hb); clear R5 R6 hbox hb hg12; have R5 := n1_; have R6 := n2_; clear n1_ n2_)
    | ((with_reducible refine gate_store (t := 29) (p := 12) rfl ?_); refine put_event rfl rfl 29 (.tmp 12) (.tmp 58) rfl (g := g12) (off := 0) (u := .agg #[.slice A4 l2.length c4, .int .i64 s2]) (seg := [.slice A4 l2.length c4, .int .i64 s2]) rfl rfl R12.out rfl (by kernel_rfl) (Nat.le_refl _) (by simp [Value.oneCell']) ?_; intro w12 hrow hg; have n1_ := aK (show RowAt w12 g12 29 [.slice A4 l2.length c4, .int .i64 s2] from hrow); have n2_ := aK (R6.out.grown hg (by have := HG12.out; simp; omega)); have n4_ := aK (R5.out.grown hg (by have := HG12.out; simp; omega)); have n3_ := aK (pw_below_grown HW10.out _ HW10.out.size hg (fun k hk => by cases hk; exact HG12.out.1)); clear R12 R5 R6 HW10 hrow hg; have R12 := n1_; have R6 := n2_; have HW10 := n3_; have R5 := n4_; clear n1_ n2_ n3_ n4_)
    | ((with_reducible refine gate_store (t := 32) (p := 8) rfl ?_); refine put_event rfl rfl 32 (.tmp 8) (.tmp 59) rfl (g := g6) (off := 0) (u := .agg #[.int .i64 0, .int .i64 0]) (seg := [.int .i64 0, .int .i64 0]) rfl rfl R6.out rfl (by kernel_rfl) (Nat.le_refl _) (by simp [Value.oneCell']) ?_; intro w13 hrow hg; have n1_ := aK (show RowAt w13 g6 32 [.int .i64 0, .int .i64 0] from hrow); have n2_ := aK (R5.out.grown hg (by have := HG6.out; simp; omega)); have n4_ := aK (R12.out.grown hg (by have := HG12.out; simp; omega)); have n5_ := aK (below_step HW10.out (same_below hg R6.out hrow)); clear R5 R6 R12 HW10 hrow hg; have HW10 := n5_; clear n5_; have R6 := n1_; have R5 := n2_; have R12 := n4_; clear n1_ n2_ n4_))
   have hst0 := HBT.out.st0
   have hst1 := HBT.out.st1
   rw [← HSEQ.out] at hst0 hst1
   obtain ⟨sN, hsN⟩ : ∃ sN : Nat, s = (sN : Int) := ⟨s.toNat, by omega⟩
   have hs2 := HS2.out
   rw [← HSEQ.out, HNN.out] at hs2
   have hr2 := phi_range (n := n) (k := k) s (by omega)
   have hbk := phi_back hkn hst0 (by have := HNN.out; omega)
   rw [← hs2] at hr2 hbk
   obtain ⟨s2N, hs2N⟩ : ∃ s2N : Nat, s2 = (s2N : Int) := ⟨s2.toNat, by omega⟩
   rw [hs2N] at hr2 hbk R12
   rw [hsN] at hbk R5
   have hl2 : l2.length = n := by rw [HL2.out, List.length_zipWith, rot_len (by have := HKN.out; unfold namesOf; rw [List.length_map, HNN.out]; omega), rot_len (by rw [List.length_map, HLL.out]; omega), List.length_map, HLL.out]; unfold namesOf; rw [List.length_map, HNN.out, Nat.min_self]
   have hsb : (sN : Int) ≤ 256 := by have := HNN.out; omega
   have hsb2 : (s2N : Int) ≤ 256 := by omega
   have hwA : IntKind.i64.wrap ((s2N : Int) + (k : Int)) = (s2N : Int) + (k : Int) := IntWalk.i64_in _ (by omega)
   have hwB : IntKind.i64.wrap (sN : Int) = (sN : Int) := IntWalk.i64_in _ (by omega)
   rw [hl2] at R12
   have HL2N := aK hl2
   have d0 : w13.cell? ⟨g12, 0, none⟩ = some (.slice A4 n c4) := R12.out.cell 0
   have d1 : w13.cell? ⟨g12, 1, none⟩ = some (.int .i64 (s2N : Int)) := R12.out.cell 1
   have s0 : w13.cell? ⟨g5, 0, none⟩ = some (.slice A n c) := R5.out.cell 0
   have s1 : w13.cell? ⟨g5, 1, none⟩ = some (.int .i64 (sN : Int)) := R5.out.cell 1
   have f0 : w13.cell? ⟨g6, 0, none⟩ = some (.int .i64 0) := R6.out.cell 0
   have f1 : w13.cell? ⟨g6, 1, none⟩ = some (.int .i64 0) := R6.out.cell 1
   clear hst0 hst1 hs2 hr2 hs2N hsN hl2
   have n1 : ¬ (n : Int) = 0 := by omega
   have n2 : ¬ n = 0 := by omega
   go_region_held3 (fun w' => w'.cell? ⟨g12, 0, none⟩ = some (.slice A4 n c4) ∧ w'.cell? ⟨g12, 1, none⟩ = some (.int .i64 (s2N : Int)) ∧ w'.cell? ⟨g5, 1, none⟩ = some (.int .i64 (sN : Int)) ∧ w'.cell? ⟨g6, 0, none⟩ = some (.int .i64 0) ∧ w'.cell? ⟨g6, 1, none⟩ = some (.int .i64 0) ∧ Below w13.heap.size w13 w')
    ((refine ⟨?_, ?_, ?_, ?_, ?_, ?_⟩ <;> first | assumption | exact below_drew (Below.refl _ _)))
    (fail)
   have hq0 := below_drew (Below.refl w13.heap.size w13)
   generalize w13.drew = wq at *
   have HQ4 := aK (below_step HW4.out (below_step HW10.out hq0))
   have HQ10 := aK (below_step HW10.out hq0)
   have HD0 := aK (cell_below d0 hq0)
   have HS0 := aK (cell_below s0 hq0)
   clear d0 d1 s0 s1 f0 f1 hq0 hbk hwA hwB hsb hsb2 htu hu1 hu2 hu3 hu4 n0 R5 R6 R12
   go_wp2
   go_loopw [13] (fun v13 wr => ∃ (i : Nat), v13 = .int .i64 i ∧ Aside0 (i ≤ n) ∧ Aside0 (Below wq.heap.size wq wr)) (fun v13 _ => n - (intOf v13).toNat)
   case atStart => exact ⟨0, rfl, ⟨Nat.zero_le _⟩, ⟨Below.refl _ _⟩⟩
   case round =>
    obtain ⟨i, rfl, HI, HR1⟩ := hrel
    have ib : (i : Int) ≤ 256 := by have := HI.out; omega
    by_cases ci : i < n
    ·have q1 : decide ((i : Int) < (n : Int)) = true := decide_eq_true (by omega)
     have q1n : decide (i < n) = true := decide_eq_true ci
     obtain ⟨j, hj⟩ : ∃ j, (i + k) % n = j := ⟨_, rfl⟩
     have hjn : j < n := by rw [← hj]; exact Nat.mod_lt _ (by omega)
     obtain ⟨b, hb⟩ : ∃ b, L[j]? = some b := ⟨_, List.getElem?_eq_getElem (by rw [HLL.out]; exact hjn)⟩
     have hSn : (namesOf rs).length = n := by unfold namesOf; rw [List.length_map, HNN.out]
     obtain ⟨x1, hx1⟩ : ∃ x, (namesOf rs)[j]? = some x := ⟨_, List.getElem?_eq_getElem (by omega)⟩
     have hlj : l[j]? = some ⟨x1, b⟩ := by rw [HLEQ.out]; exact mkC_get hx1 hb
     have hl2i : l2[i]? = some ⟨x1, mapB (phi n k) b⟩ := by
      rw [HL2.out, HNN.out]
      refine mkC_get ?_ ?_
      ·rw [rot_get (by omega) (by omega), hSn, hj]; exact hx1
      ·rw [rot_get (by rw [List.length_map, HLL.out]; omega) (by rw [List.length_map, HLL.out]; omega), List.length_map, HLL.out, hj, List.getElem?_map, hb]; rfl
     obtain ⟨adc, D1, e1, hA, _, k1, kcap, kC⟩ := cr_at HC.out hlj
     subst hA
     obtain ⟨add, D2, e2, hA4, _, m1, mcap, mC⟩ := cr_at HC2.out hl2i
     subst hA4
     have hlm : (mapB (phi n k) b).length = b.length := List.length_map ..
     rw [hlm] at m1 mcap mC
     have hix1 := idx_cr add n c4 i ci
     have hix2 := idx_cr adc n c j hjn
     obtain ⟨p1, hp1⟩ : ∃ p, add.add (i * 2) = p := ⟨_, rfl⟩
     obtain ⟨p2, hp2⟩ : ∃ p, adc.add (j * 2) = p := ⟨_, rfl⟩
     rw [hp1] at hix1 m1
     rw [hp2] at hix2 k1
     have t1 : wr.cell? ⟨p1.block, p1.off + 1, none⟩ = some (.slice D2 b.length e2) := cell_below (cell_below m1 HQ10.out) HR1.out
     have t2 : wr.cell? ⟨p2.block, p2.off + 1, none⟩ = some (.slice D1 b.length e1) := cell_below (cell_below k1 HQ4.out) HR1.out
     have d0 := cell_below HD0.out HR1.out
     have s0 := cell_below HS0.out HR1.out
     have HCX := aK (show Kd.C kCN wq D2 b.length (mapB (phi n k) b) from Kd.C_below mC HQ10.out)
     have HCY := aK (show Kd.C kCN wq D1 b.length b from Kd.C_below kC HQ4.out)
     have HCB := aK (HCLN.out b (List.mem_of_getElem? hb))
     have hwi : IntKind.i64.wrap ((i : Int) + (k : Int)) = (i : Int) + (k : Int) := IntWalk.i64_in _ (by omega)
     have hmi : ((i : Int) + (k : Int)).tmod (n : Int) = (j : Int) := by rw [Int.tmod_eq_emod_of_nonneg (by omega)]; exact_mod_cast hj
     have jb : (j : Int) ≤ 256 := by omega
     have hwj : IntKind.i64.wrap (j : Int) = (j : Int) := IntWalk.i64_in _ (by omega)
     have hbl := HBT.out.fit
     have bb : (b.length : Int) ≤ 140737488351232 := by
      have h9 := ((HBT.out.fit).body ⟨x1, b⟩ (by rw [← HLEQ.out]; exact List.mem_of_getElem? hlj)).2.1
      have h9' : b.length ≤ 140737488351232 := h9
      omega
     clear hb hx1 hlj hl2i k1 kcap kC m1 mcap mC hp1 hp2 hlm hSn hj hbl
     go_upto_region 16 with (fail)
     go_quiet (fail)
     have HR2 := aK (below_step HR1.out (pw_below_drewN (Below.refl wr.heap.size wr) nq))
     clear HR1 t1 t2 d0 s0
     generalize wr.drewN nq = wr2 at *
     clear hix1 hix2 hwi hmi hwj
     go_wp2
     go_loopw [16] (fun v16 wr => ∃ (q : Nat), v16 = .int .i64 q ∧ Aside0 (q ≤ b.length) ∧ Aside0 (Below wq.heap.size wq wr)) (fun v16 _ => b.length - (intOf v16).toNat)
     case atStart => exact ⟨0, rfl, ⟨Nat.zero_le _⟩, HR2⟩
     case round =>
      clear HR2
      obtain ⟨q, rfl, HQL, HR2⟩ := hrel
      have qb : (q : Int) ≤ 140737488351232 := by have := HQL.out; omega
      by_cases cq : q < b.length
      ·have q2 : decide ((q : Int) < (b.length : Int)) = true := decide_eq_true (by omega)
       have q2n : decide (q < b.length) = true := decide_eq_true cq
       obtain ⟨y, hy⟩ : ∃ y, b[q]? = some y := ⟨_, List.getElem?_eq_getElem cq⟩
       have hcl := HCB.out y (List.mem_of_getElem? hy)
       have htb := turn_back hkn hcl
       obtain ⟨ay, ey, hny⟩ := cna_at HCY.out hy
       subst ey
       obtain ⟨ax, ex, hnx⟩ := cna_at HCX.out (show (mapB (phi n k) b)[q]? = some (mapN (phi n k) y) by rw [List.getElem?_map, hy]; rfl)
       subst ex
       have hix1 := idx_cn ax b.length e2 q cq
       have hix2 := idx_cn ay b.length e1 q cq
       obtain ⟨px, hpx⟩ : ∃ p, ax.add (q * 7) = p := ⟨_, rfl⟩
       obtain ⟨py, hpy⟩ : ∃ p, ay.add (q * 7) = p := ⟨_, rfl⟩
       rw [hpx] at hix1 hnx
       rw [hpy] at hix2 hny
       have HNY := aK hny
       have hx2 := hnx.below HR2.out
       have hse : (y.f3 == y.f3) = true := by rw [beq_bytes, decide_eq_true rfl]
       by_cases c2 : y.f0 = 2
       ·have hm : mapN (phi n k) y = { y with f2 := phi n k y.f2 } := if_pos c2
        rw [hm] at hx2
        have hr3 := clean_rule hcl c2
        have hb3 := phi_back hkn hr3.1 hr3.2
        have hr4 := phi_range (n := n) (k := k) y.f2 (by omega)
        obtain ⟨ph, hph⟩ : ∃ ph : Int, phi n k y.f2 = ph := ⟨_, rfl⟩
        obtain ⟨yf, hyf⟩ : ∃ yf : Int, y.f2 = yf := ⟨_, rfl⟩
        rw [hyf] at hph hb3 hr3 hr4
        rw [hph] at hb3 hr4
        obtain ⟨z0, z1, z2, z3, z4, z5, z6⟩ := hx2
        have z0' : wr.cell? px = some (.int .i64 2) := z0.trans (by show some (Value.int .i64 y.f0) = _; rw [c2])
        have z5' : wr.cell? ⟨px.block, px.off + 5, none⟩ = some (.int .i64 ph) := z5.trans (by show some (Value.int .i64 (phi n k y.f2)) = _; rw [hyf, hph])
        have hwp : IntKind.i64.wrap (ph + (k : Int)) = ph + (k : Int) := IntWalk.i64_in _ (by omega)
        have hwy : IntKind.i64.wrap yf = yf := IntWalk.i64_in _ (by omega)
        have HYF := aK hyf
        have HC2F := aK c2
        clear z0 z5 hy hcl htb hny hnx hm hpx hpy hyf hph c2 hr3 hr4
        go_upto_region 25 with (first
         | ((with_reducible refine gate_dst (N := 17) rfl ?_); refine box_event ?hg (N := 17) ?hd (cs := #[.int .i64 0, .int .u64 0, .int .u64 0, .int .u64 0, .int .u64 0, .int .i64 0, .string (⟨#[]⟩ : ByteArray)]) (t := 55) ?hr ?_; (case hd => rfl); (case hg => rfl); (case hr => first | (go_simp; done) | (go_simp; rfl)); intro g17 hg17 wa hbox hb; have RZ := aK (show RowAt wa g17 55 (nodeCells z55) from ⟨_, hbox, rfl⟩); have HGZ := aK (show wq.heap.size ≤ g17 by rw [hg17]; exact HR2.out.size); have n1_ := aK (below_step HR2.out hb); clear HR2 hbox hb hg17; have HR2 := n1_; clear n1_)
         | ((with_reducible refine gate_store (t := 55) (p := 17) rfl ?_); refine put_event rfl rfl 55 (.tmp 17) (.tmp 116) rfl (g := g17) (off := 0) (u := .agg #[.int .i64 2, .int .u64 y.f1.f0, .int .u64 y.f1.f1, .int .u64 y.f1.f2, .int .u64 y.f1.f3, .int .i64 ph, .string y.f3]) (seg := [.int .i64 2, .int .u64 y.f1.f0, .int .u64 y.f1.f1, .int .u64 y.f1.f2, .int .u64 y.f1.f3, .int .i64 ph, .string y.f3]) rfl rfl RZ.out rfl (by kernel_rfl) (Nat.le_refl _) (by simp [Value.oneCell']) ?_; intro wb hrow hg; have n1_ := aK (show RowAt wb g17 55 [.int .i64 2, .int .u64 y.f1.f0, .int .u64 y.f1.f1, .int .u64 y.f1.f2, .int .u64 y.f1.f3, .int .i64 ph, .string y.f3] from hrow); have n2_ := aK (pw_below_grown HR2.out _ HR2.out.size hg (fun k hk => by cases hk; exact HGZ.out)); clear RZ HR2 hrow hg; have RZ := n1_; have HR2 := n2_; clear n1_ n2_; have v0 : wb.cell? ⟨g17, 0, none⟩ = some (.int .i64 2) := RZ.out.cell 0; have v5 : wb.cell? ⟨g17, 5, none⟩ = some (.int .i64 ph) := RZ.out.cell 5)
         | ((with_reducible refine gate_store (t := 3) (p := 126) rfl ?_); refine put_event rfl rfl 3 (.tmp 126) (.tmp 125) rfl (g := g17) (off := 5) (u := .int .i64 yf) (seg := [.int .i64 yf]) rfl rfl RZ.out rfl (by kernel_rfl) (show 5 + 1 ≤ 7 by decide) (by simp [Value.oneCell']) ?_; intro wc2 hrow hg; have n1_ := aK (show RowAt wc2 g17 55 [.int .i64 2, .int .u64 y.f1.f0, .int .u64 y.f1.f1, .int .u64 y.f1.f2, .int .u64 y.f1.f3, .int .i64 yf, .string y.f3] from hrow); have n2_ := aK (pw_below_grown HR2.out _ HR2.out.size hg (fun k hk => by cases hk; exact HGZ.out)); clear RZ HR2 hrow hg v0 v5; have RZ := n1_; have HR2 := n2_; clear n1_ n2_))
        obtain ⟨k0, k1, k2, k3, k4, k5, k6⟩ := HNY.out.below HR2.out
        rw [HC2F.out] at k0
        rw [HYF.out] at k5
        have r0 : wc2.cell? ⟨g17, 0, none⟩ = some (.int .i64 2) := RZ.out.cell 0
        have r1 : wc2.cell? ⟨g17, 1, none⟩ = some (.int .u64 y.f1.f0) := RZ.out.cell 1
        have r2 : wc2.cell? ⟨g17, 2, none⟩ = some (.int .u64 y.f1.f1) := RZ.out.cell 2
        have r3 : wc2.cell? ⟨g17, 3, none⟩ = some (.int .u64 y.f1.f2) := RZ.out.cell 3
        have r4 : wc2.cell? ⟨g17, 4, none⟩ = some (.int .u64 y.f1.f3) := RZ.out.cell 4
        have r5 : wc2.cell? ⟨g17, 5, none⟩ = some (.int .i64 yf) := RZ.out.cell 5
        have r6 : wc2.cell? ⟨g17, 6, none⟩ = some (.string y.f3) := RZ.out.cell 6
        have hce : ∀ W : World, Sem.run Tryd.prog (Op.equalIn 9999 49 (.agg #[.int .u64 y.f1.f0, .int .u64 y.f1.f1, .int .u64 y.f1.f2, .int .u64 y.f1.f3]) (.agg #[.int .u64 y.f1.f0, .int .u64 y.f1.f1, .int .u64 y.f1.f2, .int .u64 y.f1.f3])) W = .ok true W := fun W => class_eq 9997 y.f1.f0 y.f1.f1 y.f1.f2 y.f1.f3 W
        go_region_held3 (fun w' => w'.cell? ⟨g17, 0, none⟩ = some (.int .i64 2) ∧ w'.cell? ⟨g17, 1, none⟩ = some (.int .u64 y.f1.f0) ∧ w'.cell? ⟨g17, 2, none⟩ = some (.int .u64 y.f1.f1) ∧ w'.cell? ⟨g17, 3, none⟩ = some (.int .u64 y.f1.f2) ∧ w'.cell? ⟨g17, 4, none⟩ = some (.int .u64 y.f1.f3) ∧ w'.cell? ⟨g17, 5, none⟩ = some (.int .i64 yf) ∧ w'.cell? ⟨g17, 6, none⟩ = some (.string y.f3) ∧ w'.cell? py = some (.int .i64 2) ∧ w'.cell? ⟨py.block, py.off + 1, none⟩ = some (.int .u64 y.f1.f0) ∧ w'.cell? ⟨py.block, py.off + 2, none⟩ = some (.int .u64 y.f1.f1) ∧ w'.cell? ⟨py.block, py.off + 3, none⟩ = some (.int .u64 y.f1.f2) ∧ w'.cell? ⟨py.block, py.off + 4, none⟩ = some (.int .u64 y.f1.f3) ∧ w'.cell? ⟨py.block, py.off + 5, none⟩ = some (.int .i64 yf) ∧ w'.cell? ⟨py.block, py.off + 6, none⟩ = some (.string y.f3) ∧ Below wc2.heap.size wc2 w')
         ((refine ⟨?_, ?_, ?_, ?_, ?_, ?_, ?_, ?_, ?_, ?_, ?_, ?_, ?_, ?_, ?_⟩ <;> first | assumption | exact below_drew (Below.refl _ _)))
         (fail)
        have n1_ := aK (below_step HR2.out (below_drew (Below.refl wc2.heap.size wc2)))
        clear hce HR2 k0 k1 k2 k3 k4 k5 k6 r0 r1 r2 r3 r4 r5 r6 RZ
        have HR2 := n1_
        clear n1_
        generalize wc2.drew = wz at *
        go_wp2
        go_roundw
        case measure => simp [intOf]; omega
        case rel => exact ⟨q + 1, by go_num, ⟨cq⟩, HR2⟩
       ·have hm : mapN (phi n k) y = y := if_neg c2
        rw [hm] at hx2
        obtain ⟨z0, z1, z2, z3, z4, z5, z6⟩ := hx2
        have b2 : (y.f0 == 2) = false := beq_eq_false_iff_ne.mpr c2
        clear hy hcl htb hny hnx hm hpx hpy c2
        go_upto_region 25 with (first
         | ((with_reducible refine gate_dst (N := 17) rfl ?_); refine box_event ?hg (N := 17) ?hd (cs := #[.int .i64 0, .int .u64 0, .int .u64 0, .int .u64 0, .int .u64 0, .int .i64 0, .string (⟨#[]⟩ : ByteArray)]) (t := 55) ?hr ?_; (case hd => rfl); (case hg => rfl); (case hr => first | (go_simp; done) | (go_simp; rfl)); intro g17 hg17 wa hbox hb; have RZ := aK (show RowAt wa g17 55 (nodeCells z55) from ⟨_, hbox, rfl⟩); have HGZ := aK (show wq.heap.size ≤ g17 by rw [hg17]; exact HR2.out.size); have n1_ := aK (below_step HR2.out hb); clear HR2 hbox hb hg17; have HR2 := n1_; clear n1_)
         | ((with_reducible refine gate_store (t := 55) (p := 17) rfl ?_); refine put_event rfl rfl 55 (.tmp 17) (.tmp 116) rfl (g := g17) (off := 0) (u := .agg #[.int .i64 y.f0, .int .u64 y.f1.f0, .int .u64 y.f1.f1, .int .u64 y.f1.f2, .int .u64 y.f1.f3, .int .i64 y.f2, .string y.f3]) (seg := [.int .i64 y.f0, .int .u64 y.f1.f0, .int .u64 y.f1.f1, .int .u64 y.f1.f2, .int .u64 y.f1.f3, .int .i64 y.f2, .string y.f3]) rfl rfl RZ.out rfl (by kernel_rfl) (Nat.le_refl _) (by simp [Value.oneCell']) ?_; intro wb hrow hg; have n1_ := aK (show RowAt wb g17 55 [.int .i64 y.f0, .int .u64 y.f1.f0, .int .u64 y.f1.f1, .int .u64 y.f1.f2, .int .u64 y.f1.f3, .int .i64 y.f2, .string y.f3] from hrow); have n2_ := aK (pw_below_grown HR2.out _ HR2.out.size hg (fun k hk => by cases hk; exact HGZ.out)); clear RZ HR2 hrow hg; have RZ := n1_; have HR2 := n2_; clear n1_ n2_; have v0 : wb.cell? ⟨g17, 0, none⟩ = some (.int .i64 y.f0) := RZ.out.cell 0; have v5 : wb.cell? ⟨g17, 5, none⟩ = some (.int .i64 y.f2) := RZ.out.cell 5))
        obtain ⟨k0, k1, k2, k3, k4, k5, k6⟩ := HNY.out.below HR2.out
        have r0 : wb.cell? ⟨g17, 0, none⟩ = some (.int .i64 y.f0) := RZ.out.cell 0
        have r1 : wb.cell? ⟨g17, 1, none⟩ = some (.int .u64 y.f1.f0) := RZ.out.cell 1
        have r2 : wb.cell? ⟨g17, 2, none⟩ = some (.int .u64 y.f1.f1) := RZ.out.cell 2
        have r3 : wb.cell? ⟨g17, 3, none⟩ = some (.int .u64 y.f1.f2) := RZ.out.cell 3
        have r4 : wb.cell? ⟨g17, 4, none⟩ = some (.int .u64 y.f1.f3) := RZ.out.cell 4
        have r5 : wb.cell? ⟨g17, 5, none⟩ = some (.int .i64 y.f2) := RZ.out.cell 5
        have r6 : wb.cell? ⟨g17, 6, none⟩ = some (.string y.f3) := RZ.out.cell 6
        have hce : ∀ W : World, Sem.run Tryd.prog (Op.equalIn 9999 49 (.agg #[.int .u64 y.f1.f0, .int .u64 y.f1.f1, .int .u64 y.f1.f2, .int .u64 y.f1.f3]) (.agg #[.int .u64 y.f1.f0, .int .u64 y.f1.f1, .int .u64 y.f1.f2, .int .u64 y.f1.f3])) W = .ok true W := fun W => class_eq 9997 y.f1.f0 y.f1.f1 y.f1.f2 y.f1.f3 W
        go_region_held3 (fun w' => w'.cell? ⟨g17, 0, none⟩ = some (.int .i64 y.f0) ∧ w'.cell? ⟨g17, 1, none⟩ = some (.int .u64 y.f1.f0) ∧ w'.cell? ⟨g17, 2, none⟩ = some (.int .u64 y.f1.f1) ∧ w'.cell? ⟨g17, 3, none⟩ = some (.int .u64 y.f1.f2) ∧ w'.cell? ⟨g17, 4, none⟩ = some (.int .u64 y.f1.f3) ∧ w'.cell? ⟨g17, 5, none⟩ = some (.int .i64 y.f2) ∧ w'.cell? ⟨g17, 6, none⟩ = some (.string y.f3) ∧ w'.cell? py = some (.int .i64 y.f0) ∧ w'.cell? ⟨py.block, py.off + 1, none⟩ = some (.int .u64 y.f1.f0) ∧ w'.cell? ⟨py.block, py.off + 2, none⟩ = some (.int .u64 y.f1.f1) ∧ w'.cell? ⟨py.block, py.off + 3, none⟩ = some (.int .u64 y.f1.f2) ∧ w'.cell? ⟨py.block, py.off + 4, none⟩ = some (.int .u64 y.f1.f3) ∧ w'.cell? ⟨py.block, py.off + 5, none⟩ = some (.int .i64 y.f2) ∧ w'.cell? ⟨py.block, py.off + 6, none⟩ = some (.string y.f3) ∧ Below wb.heap.size wb w')
         ((refine ⟨?_, ?_, ?_, ?_, ?_, ?_, ?_, ?_, ?_, ?_, ?_, ?_, ?_, ?_, ?_⟩ <;> first | assumption | exact below_drew (Below.refl _ _)))
         (fail)
        have n1_ := aK (below_step HR2.out (below_drew (Below.refl wb.heap.size wb)))
        clear hce HR2 k0 k1 k2 k3 k4 k5 k6 r0 r1 r2 r3 r4 r5 r6 RZ
        have HR2 := n1_
        clear n1_
        generalize wb.drew = wz at *
        go_wp2
        go_roundw
        case measure => simp [intOf]; omega
        case rel => exact ⟨q + 1, by go_num, ⟨cq⟩, HR2⟩
      ·have q2 : decide ((q : Int) < (b.length : Int)) = false := decide_eq_false (by omega)
       have q2n : decide (q < b.length) = false := decide_eq_false cq
       go_wp2
       go_roundw
       case measure => simp [intOf]; omega
       case rel => exact ⟨i + 1, by go_num, ⟨ci⟩, HR2⟩
    ·have q1 : decide ((i : Int) < (n : Int)) = false := decide_eq_false (by omega)
     have q1n : decide (i < n) = false := decide_eq_false ci
     go_wp2
     go_ret
     exact ⟨rfl, below_step HW.out (below_step HQ4.out HR1.out)⟩
end
end Go.Proofs.YtihiicjnjhideaaDoor.Build
end
