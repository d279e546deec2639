/- Parts of the proof of coreOrder: BuildMain, BuildAll. No condition beyond each lemma's own. -/
import Derived.StillTailTactics
import Derived.Test.YtihiicjnjhideaaDoorTO30
section
namespace Go.Proofs.YtihiicjnjhideaaDoor.Build
open Go.RowKit Go.Proofs.YtihiicjnjhideaaDoorW.PrintWords Go.Proofs.YtihiicjnjhideaaDoor.PAll Go.Proofs.YtihiicjnjhideaaDoor.Core
set_option linter.unusedVariables false
set_option linter.unusedSimpArgs false
/-- The builder and its map. -/
structure BMp (w : World) (gb gm : Nat) (left : Int) (S : List ByteArray) : Prop where
 row : RowAt w gb 66 [.map (some gm), .int .i64 left]
 mp : MapAt Value.string w gm (numbered S)
/-- A block behind all boxes. -/
structure Far (w0 : World) (g2 g4 g5 gb g : Nat) : Prop where
 base : w0.heap.size ≤ g
 h2 : g2 < g
 h4 : g4 < g
 h5 : g5 < g
 hb : gb < g
theorem RowAt.not_map {w : World} {g gm : Nat} {e : TypeId} {cs : List Value} {l : List (ByteArray × Value)} (h : RowAt w g e cs) (hm : MapAt Value.string w gm l) : gm ≠ g := fun e2 => by
 obtain ⟨cur, h1, _⟩ := h
 obtain ⟨es, ck, h2, _⟩ := hm
 rw [e2, h1] at h2
 injection h2 with h2
 cases h2
section
variable {w0 w w' : World} {us : List EU} {rs : List ER} {Au Ar : Option Addr} {cu cr g2 g4 g5 gb gm g : Nat} {left : Int} {S : List ByteArray}
theorem BMp.next (h : BMp w gb gm left S) (hb : Below w.heap.size w w') : BMp w' gb gm left S := ⟨h.row.below hb, h.mp.below hb⟩
theorem BMp.far (h : BMp w gb gm left S) (h1 : gb < g) (h2 : gm ≠ g) (hg : w.grownBy w' (some g)) : BMp w' gb gm left S := ⟨h.row.grown hg (by simp; omega), h.mp.grown hg (by simp; omega)⟩
theorem BS.far (h : BS w0 w us rs Au Ar cu cr g2 g4 g5) (hf : Far w0 g2 g4 g5 gb g) (hg : w.grownBy w' (some g)) : BS w0 w' us rs Au Ar cu cr g2 g4 g5 := h.other hg hf.base (by have := hf.h2; omega) (by have := hf.h4; omega) (by have := hf.h5; omega)
end
/-- A rule's cells at an address, and its body. -/
structure RuleAt (w : World) (p : Addr) (r : ER) (A1 A2 : Option Addr) (c1 c2 : Nat) : Prop where
 k0 : w.cell? p = some (.string r.f0)
 k1 : w.cell? ⟨p.block, p.off + 1, none⟩ = some (.slice A1 r.f1.length c1)
 k2 : w.cell? ⟨p.block, p.off + 2, none⟩ = some (.slice A2 r.f2.length c2)
 cap : r.f2.length ≤ c2
 body : Kd.C kEN w A2 r.f2.length r.f2
theorem rule_at {w : World} {A : Option Addr} {n i : Nat} {rs : List ER} {r : ER} (h : Kd.C kER w A n rs) (hx : rs[i]? = some r) : ∃ ad A1 A2 c1 c2, A = some ad ∧ RuleAt w (ad.add (i * 3)) r A1 A2 c1 c2 := by
 have hi : i < n := by have := (List.getElem?_eq_some_iff.1 hx).1; rw [h.1] at this; exact this
 obtain ⟨ad, A1, c1, A2, c2, e1, h0, h1, h2, h3, h4, h5, h6⟩ := at_T40 h (i : Int) (by omega) (by omega)
 have hr : rd_T40 rs (i : Int) = r := by
  show rs.getD (i : Int).toNat _ = r
  rw [Int.toNat_natCast, List.getD_eq_getElem?_getD, hx]
  rfl
 rw [hr] at h0 h1 h2 h3 h4 h5 h6
 rw [Int.toNat_natCast] at h0 h1 h2
 exact ⟨ad, A1, A2, c1, c2, e1, h0, h1, h2, h5, h6⟩
theorem RuleAt.below {w w' : World} {p : Addr} {r : ER} {A1 A2 : Option Addr} {c1 c2 : Nat} (h : RuleAt w p r A1 A2 c1 c2) (hb : Below w.heap.size w w') : RuleAt w' p r A1 A2 c1 c2 := by
 have hl := World.block_lt_of_cell? w _ h.k0
 have hk : ∀ k, w'.cell? ⟨p.block, k, none⟩ = w.cell? ⟨p.block, k, none⟩ := fun k => World.cell?_of_block (a := ⟨p.block, k, none⟩) (hb.block _ hl)
 exact ⟨(World.cell?_of_block (a := p) (hb.block _ hl)).trans h.k0, (hk _).trans h.k1, (hk _).trans h.k2, h.cap, Kd.C_below h.body hb⟩
theorem idx_er (ad : Addr) (n m i : Nat) (hi : i < n) (W : World) : (Instr.indexAt 23 (.slice (some ad) n m) (.int .i64 (i : Int))).run Tryd.prog W = .ok (.pointer (some (ad.add (i * 3)))) W := by
 have h1 : (0 : Int) ≤ (i : Int) ∧ (i : Int) < (n : Int) := by omega
 have hs : (sizeOf 40).run Tryd.prog W = .ok 3 W := by kernel_rfl
 simp only [Instr.indexAt, asIntOf, Sem.run_bind, Sem.run_pure, Result.andThen_ok, run_underlying Tryd.underlying23, if_pos h1, hs, Int.toNat_natCast]
theorem names_take_succ {rs : List ER} {i : Nat} {r : ER} (h : rs[i]? = some r) : namesOf (rs.take (i + 1)) = namesOf (rs.take i) ++ [r.f0] := by
 unfold namesOf
 rw [List.take_add_one, h, List.map_append]
 rfl
theorem names_take_len {rs : List ER} {i : Nat} (h : i ≤ rs.length) : (namesOf (rs.take i)).length = i := by
 unfold namesOf
 rw [List.length_map, List.length_take]
 omega
theorem nodup_snoc {κ : Type} {S : List κ} {x : κ} (h : S.Nodup) (hx : x ∉ S) : (S ++ [x]).Nodup := by
 rw [List.nodup_append]
 refine ⟨h, by simp, fun a ha b hb e => hx ?_⟩
 rw [List.mem_singleton.1 hb] at e
 rw [← e]
 exact ha
/-- The rules built so far. -/
structure CRs (w0 w : World) (g19 : Nat) (u : Value) (first : Int) (k : Nat) (P : List (ByteArray × Value)) (L : List (List CN)) : Prop where
 box : RowAt w g19 29 [u, .int .i64 first]
 own : w.ownsRow w0.heap.size 44 2 u k (P.flatMap fun p => [.string p.1, p.2])
 bods : Bods w (P.map (·.2)) L
theorem CRs.next {w0 w w' : World} {g19 k : Nat} {u : Value} {first : Int} {P : List (ByteArray × Value)} {L : List (List CN)} (h : CRs w0 w g19 u first k P L) (hb : Below w.heap.size w w') : CRs w0 w' g19 u first k P L := ⟨h.box.below hb, own_kept h.own (fun k e => hb.block k (own_lt h.own k e)), h.bods.below hb⟩
theorem bods_put {w w' : World} {g : Nat} {e : TypeId} {vs : List Value} {L : List (List CN)} {cs : List Value} (h : Bods w vs L) (hr : RowAt w g e cs) (he : e ≠ 55) (hg : w.grownBy w' (some g)) : Bods w' vs L := ⟨h.1, fun j v l h1 h2 => own_put (h.2 j v l h1 h2) hr he hg⟩
theorem own_put2 {w w' : World} {b n s g : Nat} {e e' : TypeId} {u : Value} {xs cs : List Value} (h : w.ownsRow b e s u n xs) (hr : RowAt w g e' cs) (he : e' ≠ e) (hg : w.grownBy w' (some g)) : w'.ownsRow b e s u n xs := own_kept h (fun k hk => hg.block k (own_lt h k hk) (fun e2 => by
 obtain ⟨c0, e0⟩ := own_typed h k hk
 obtain ⟨cur, e1, _⟩ := hr
 injection e2 with e2
 rw [e2, e1] at e0
 injection e0 with e0
 injection e0 with _ e0
 exact he e0))
theorem CRs.put {w0 w w' : World} {g19 k g : Nat} {u : Value} {first : Int} {P : List (ByteArray × Value)} {L : List (List CN)} {e : TypeId} {cs : List Value} (h : CRs w0 w g19 u first k P L) (hr : RowAt w g e cs) (h1 : e ≠ 55) (h2 : e ≠ 44) (hne : g19 ≠ g) (hg : w.grownBy w' (some g)) : CRs w0 w' g19 u first k P L :=
 ⟨h.box.grown hg (by simp; omega), own_put2 h.own hr h2 hg, bods_put h.bods hr h1 hg⟩
theorem flat_snoc (P : List (ByteArray × Value)) (q : ByteArray × Value) : ((P ++ [q]).flatMap fun p => [Value.string p.1, p.2]) = (P.flatMap fun p => [Value.string p.1, p.2]) ++ [.string q.1, q.2] := by simp
theorem layR_step {NM : ByteArray → Int} {ts : List T} {k : Nat} {t : T} {L : List (List CN)} (ht : ts[k]? = some t) (hL : layR NM 16384 (ts.take k) = some L) : layR NM 16384 (ts.take (k + 1)) = (ruleL (16384 - (L.flatten.length : Int)) NM t).bind fun l => some (L ++ [l]) := by
 rw [List.take_add_one, ht]
 show layR NM 16384 (ts.take k ++ [t]) = _
 rw [layR_snoc, hL]
 rfl
theorem BS.row {w0 w w' : World} {us : List EU} {rs : List ER} {Au Ar : Option Addr} {cu cr g2 g4 g5 n : Nat} {u : Value} {xs : List Value} (h : BS w0 w us rs Au Ar cu cr g2 g4 g5) (ho : w.ownsRow w0.heap.size 44 2 u n xs) {row : Option Nat} (hg : w.grownBy w' row) (hrow : ∀ k, row = some k → u.ownBlock = some k) : BS w0 w' us rs Au Ar cu cr g2 g4 g5 :=
 ⟨grown_row_other ho h.gi (by decide) hg hrow, grown_row_other ho h.c4 (by decide) hg hrow, grown_row_other ho h.c5 (by decide) hg hrow, pw_below_grown h.below row h.below.size hg (fun k hk => own_base ho k (hrow k hk))⟩
theorem BMp.rowC {w w' : World} {b gb gm n : Nat} {left : Int} {S : List ByteArray} {u : Value} {xs : List Value} (h : BMp w gb gm left S) (ho : w.ownsRow b 44 2 u n xs) {row : Option Nat} (hg : w.grownBy w' row) (hrow : ∀ k, row = some k → u.ownBlock = some k) : BMp w' gb gm left S :=
 ⟨grown_row_other ho h.row (by decide) hg hrow, h.mp.grown hg (fun e2 => by
  obtain ⟨c0, e0⟩ := own_typed ho gm (hrow gm e2.symm)
  obtain ⟨es, ck, h2, _⟩ := h.mp
  rw [e0] at h2
  injection h2 with h2
  cases h2)⟩
theorem flat_len_snoc (L : List (List CN)) (l : List CN) : (L ++ [l]).flatten.length = L.flatten.length + l.length := by rw [List.flatten_append, List.length_append]; simp
theorem flat2 : ∀ (P : List (ByteArray × Value)) (j i : Nat) (q : ByteArray × Value), P[j]? = some q → i < 2 → (P.flatMap fun p => [Value.string p.1, p.2])[j * 2 + i]? = [Value.string q.1, q.2][i]?
 | [], j, i, q, h, _ => by simp at h
 | p :: P, 0, i, q, h, hi => by
  have : p = q := by simpa using h
  subst this
  rw [List.flatMap_cons, Nat.zero_mul, Nat.zero_add, List.getElem?_append_left (by simpa using hi)]
 | p :: P, j + 1, i, q, h, hi => by
  rw [List.flatMap_cons, List.getElem?_append_right (by simp; omega), show (j + 1) * 2 + i - [Value.string p.1, p.2].length = j * 2 + i by simp; omega]
  exact flat2 P j i q (by simpa using h) hi
theorem flat2_len (P : List (ByteArray × Value)) : (P.flatMap fun p => [Value.string p.1, p.2]).length = P.length * 2 := by
 induction P with
 | nil => rfl
 | cons p P ih => rw [List.flatMap_cons, List.length_append, ih, List.length_cons]; simp; omega
/-- The rules built read as rules. -/
theorem crs_C {w : World} {b k c : Nat} {A : Option Addr} {P : List (ByteArray × Value)} {L : List (List CN)} (h : w.ownsRow b 44 2 (.slice A k c) k (P.flatMap fun p => [.string p.1, p.2])) (hb : Bods w (P.map (·.2)) L) (hk : k ≤ 1048576) : Kd.C kCR w A k (List.zipWith (fun x l => (⟨x, l⟩ : CR)) (P.map (·.1)) L) ∧ k ≤ c := by
 have hl : P.length = k := by have := h.1; rw [flat2_len] at this; omega
 have hL : L.length = k := by rw [← hb.1, List.length_map, hl]
 have hz : (List.zipWith (fun x l => (⟨x, l⟩ : CR)) (P.map (·.1)) L).length = k := by rw [List.length_zipWith, List.length_map, hl, hL, Nat.min_self]
 refine ⟨⟨hz, by omega, fun hp => ?_⟩, ?_⟩
 ·rcases h.2 with ⟨hv, _⟩ | ⟨g, cap, cur, hv, _⟩
  ·cases hv; omega
  ·cases hv
   refine ⟨_, rfl, fun j x hj => ?_⟩
   have hj2 : j < k := by have := (List.getElem?_eq_some_iff.1 hj).1; omega
   obtain ⟨q, hq⟩ : ∃ q, P[j]? = some q := ⟨_, List.getElem?_eq_getElem (by omega)⟩
   obtain ⟨l, hl0⟩ : ∃ l, L[j]? = some l := ⟨_, List.getElem?_eq_getElem (by omega)⟩
   have hx : x = ⟨q.1, l⟩ := by
    rw [List.getElem?_zipWith, List.getElem?_map, hq, hl0] at hj
    simpa using hj.symm
   subst hx
   have hbod := hb.2 j q.2 l (by rw [List.getElem?_map, hq]; rfl) hl0
   obtain ⟨Av, cv, hve, hcv, hC⟩ := hbod.reads
   refine ⟨[.string q.1, q.2], rfl, by rw [hve]; exact k44_mk w ⟨q.1, l⟩ hcv hC, fun i u hu => ?_⟩
   have hi : i < 2 := by have := (List.getElem?_eq_some_iff.1 hu).1; simpa using this
   exact h.cells (g := g) rfl (j * 2 + i) u (by rw [flat2 P j i q hq hi]; exact hu)
 ·rcases h.2 with ⟨hv, _⟩ | ⟨g, cap, cur, hv, _, hh⟩
  ·cases hv; exact Nat.le_refl _
  ·cases hv; obtain ⟨h1, h2, h3⟩ := hh; omega
theorem known_next {S : List ByteArray} {l : List EN} {j : Nat} {x : EN} (h : ∀ (q : Nat) (y : EN), q < j → l[q]? = some y → y.f0 = 4 → y.f2 ∈ S) (hx : l[j]? = some x) (h2 : x.f0 = 4 → x.f2 ∈ S) : ∀ (q : Nat) (y : EN), q < j + 1 → l[q]? = some y → y.f0 = 4 → y.f2 ∈ S := fun q y hq hy => by
 rcases Nat.lt_or_ge q j with h1 | h1
 ·exact h q y h1 hy
 ·rw [show q = j by omega, hx] at hy
  cases hy
  exact h2
theorem known_all {S : List ByteArray} {r : ER} {j : Nat} (h : ∀ (q : Nat) (y : EN), q < j → r.f2[q]? = some y → y.f0 = 4 → y.f2 ∈ S) (hj : r.f2.length ≤ j) : knownR S r := fun x hx => by
 obtain ⟨q, hq⟩ := List.getElem?_of_mem hx
 exact h q x (by have := (List.getElem?_eq_some_iff.1 hq).1; omega) hq
theorem rule_next {S : List ByteArray} {rs : List ER} {i : Nat} {r : ER} (h : ∀ (j : Nat) (r : ER), j < i → rs[j]? = some r → knownR S r) (hr : rs[i]? = some r) (h2 : knownR S r) : ∀ (j : Nat) (r : ER), j < i + 1 → rs[j]? = some r → knownR S r := fun j y hj hy => by
 rcases Nat.lt_or_ge j i with h1 | h1
 ·exact h j y h1 hy
 ·rw [show j = i by omega, hr] at hy
  cases hy
  exact h2
theorem nodes_ge : ∀ {rs : List ER} {r : ER}, r ∈ rs → r.f2.length ≤ nodesOf rs
 | s :: rs, r, h => by
  rw [nodesOf]
  rcases List.mem_cons.1 h with rfl | h
  ·omega
  ·have := nodes_ge h; omega
theorem body_few {rs : List ER} {r : ER} (h : Checked rs) (hr : r ∈ rs) : r.f2.length ≤ 4096 := Nat.le_trans (nodes_ge hr) h.nodes
section
variable (us : List EU) (rs : List ER) (start : ByteArray) (ts : List T) (Au Ar : Option Addr) (cu cr : Nat) (w0 : World)
set_option maxHeartbeats 16000000 in
set_option maxRecDepth 100000 in
theorem build_main (hu : Kd.C kEU w0 Au us.length us) (hcu : us.length ≤ cu) (hr : Kd.C kER w0 Ar rs.length rs) (hcr : rs.length ≤ cr) (hv : Ev (fun k => script_Check.f k us rs) 0) (hf : Ev (fun k => macro_Flat.f k us rs) true) (hck : Checked rs) (hfit : ∀ r ∈ rs, FitR r) (hts : Trees rs ts) (hall : ∀ i, i < 4 → w0.cell? ⟨0, i, none⟩ = some (.int .u64 ff64)) :
  Calls Tryd.prog 8 #[.agg #[.slice Au us.length cu, .slice Ar rs.length cr], .string start] w0 fun e w' => BuildE w0 w' us rs start ts e ∧ Below w0.heap.size w0 w' := by
 have HU := aK hu
 have HCU := aK hcu
 have HR := aK hr
 have HCR := aK hcr
 have HCH := aK hck
 have HFIT := aK hfit
 have HTS := aK hts
 have HALL := aK hall
 clear hts hall
 obtain ⟨v, hve⟩ : ∃ v : Int, v = 0 := ⟨_, rfl⟩
 rw [← hve] at hv
 have HCK := aK hv
 have HFL := aK hf
 have HVE := aK hve
 have b0 : (v != 0) = false := by rw [hve]; rfl
 have b1 : (v == 0) = true := by rw [hve]; rfl
 have rb : (rs.length : Int) ≤ 256 := by have := hck.few; omega
 clear hu hcu hr hcr hv hf hve hck hfit
 go_enter Tryd.func8, Tryd.ntmps8
 go_wp2_with (first
  | ((with_reducible refine gate_dst (N := 2) rfl ?_); refine box_event (N := 2) rfl rfl (cs := #[.slice Au us.length cu, .slice Ar rs.length cr]) (t := 25) ?hr2 ?_; (case hr2 => first | (go_simp; done) | (go_simp; rfl)); intro g2 hg2 w2 hbox hb2; have H2 := aK (show RowAt w2 g2 25 [.slice Au us.length cu, .slice Ar rs.length cr] from ⟨_, hbox, rfl⟩); have HG2 := aK (show w0.heap.size ≤ g2 by rw [hg2]; exact Nat.le_refl _); have HW := aK hb2; clear hbox hb2 hg2)
  | ((with_reducible refine gate_dst (N := 4) rfl ?_); refine box_event (N := 4) rfl rfl (cs := #[.slice none 0 0, .int .i64 0]) (t := 29) ?hr2 ?_; (case hr2 => first | (go_simp; done) | (go_simp; rfl)); intro g4 hg4 w3 hbox hb3; have H4 := aK (show RowAt w3 g4 29 [.slice none 0 0, .int .i64 0] from ⟨_, hbox, rfl⟩); have HG4 := aK (show w0.heap.size ≤ g4 ∧ g2 < g4 by rw [hg4]; exact ⟨HW.out.size, H2.out.lt⟩); have n1_ := aK (H2.out.below hb3); have n2_ := aK (below_step HW.out hb3); clear H2 HW hbox hb3 hg4; have H2 := n1_; have HW := n2_; clear n1_ n2_)
  | ((with_reducible refine gate_dst (N := 5) rfl ?_); refine box_event (N := 5) rfl rfl (cs := #[.int .i64 0, .int .i64 0]) (t := 32) ?hr2 ?_; (case hr2 => first | (go_simp; done) | (go_simp; rfl)); intro g5 hg5 w4 hbox hb4; have H5 := aK (show RowAt w4 g5 32 [.int .i64 0, .int .i64 0] from ⟨_, hbox, rfl⟩); have HG := aK (show BG w0 g2 g4 g5 by rw [hg5]; exact ⟨HG2.out, HG4.out.1, HW.out.size, by have := HG4.out; omega, by have := H2.out.lt; omega, by have := H4.out.lt; omega⟩); have HS : Aside0 (BS w0 w4 us rs Au Ar cu cr g2 g4 g5) := ⟨⟨H2.out.below hb4, H4.out.below hb4, H5.out, below_step HW.out hb4⟩⟩; clear H2 H4 H5 HG2 HG4 HW hbox hb4 hg5; have x0 : w4.cell? ⟨g2, 0, none⟩ = some (.slice Au us.length cu) := HS.out.gi.cell 0; have x1 : w4.cell? ⟨g2, 1, none⟩ = some (.slice Ar rs.length cr) := HS.out.gi.cell 1)
  | (go_at_call 16; obtain ⟨kk, hk⟩ := HCK.out; have hcall := script_Check.calls kk Au cu us Ar cr rs v w4 (Kd.C_below HU.out HS.out.below) HCU.out (Kd.C_below HR.out HS.out.below) HCR.out (hk kk (Nat.le_refl _)); (with_reducible refine hcall.mono ?_); clear hcall; rintro e w5 ⟨rfl, hb5⟩; have n1_ := aK (HS.out.next hb5); clear HS x0 x1 hb5 hk; have HS := n1_; clear n1_; have x0 : w5.cell? ⟨g2, 0, none⟩ = some (.slice Au us.length cu) := HS.out.gi.cell 0; have x1 : w5.cell? ⟨g2, 1, none⟩ = some (.slice Ar rs.length cr) := HS.out.gi.cell 1)
  | (go_at_call 17; obtain ⟨kk, hk⟩ := HFL.out; have hcall := macro_Flat.calls kk Au cu us Ar cr rs true w5 (Kd.C_below HU.out HS.out.below) HCU.out (Kd.C_below HR.out HS.out.below) HCR.out (hk kk (Nat.le_refl _)); (with_reducible refine hcall.mono ?_); clear hcall; rintro e w6 ⟨rfl, hb5⟩; have n1_ := aK (HS.out.next hb5); clear HS x0 x1 hb5 hk; have HS := n1_; clear n1_; have x0 : w6.cell? ⟨g2, 0, none⟩ = some (.slice Au us.length cu) := HS.out.gi.cell 0; have x1 : w6.cell? ⟨g2, 1, none⟩ = some (.slice Ar rs.length cr) := HS.out.gi.cell 1)
  | ((with_reducible refine gate_dst (N := 34) rfl ?_); refine map_event Value.string rfl 64 rfl ?_; intro gm hgm w7 hm hb7; have HM := aK (show MapAt Value.string w7 gm (numbered (namesOf (rs.take 0))) from hm); have HGM := aK (show w0.heap.size ≤ gm ∧ g2 < gm ∧ g4 < gm ∧ g5 < gm by rw [hgm]; exact ⟨HS.out.below.size, HS.out.gi.lt, HS.out.c4.lt, HS.out.c5.lt⟩); have n1_ := aK (HS.out.next hb7); clear HS x0 x1 hm hb7 hgm; have HS := n1_; clear n1_)
  | ((with_reducible refine gate_dst (N := 36) rfl ?_); refine box_event (N := 36) rfl rfl (cs := #[.map (some gm), .int .i64 16384]) (t := 66) ?hr2 ?_; (case hr2 => first | (go_simp; done) | (go_simp; rfl)); intro gb hgb w8 hbox hb8; have HGB := aK (show gm < gb by rw [hgb]; exact HM.out.lt); have HB := aK (show BMp w8 gb gm 16384 (namesOf (rs.take 0)) from ⟨⟨_, hbox, rfl⟩, HM.out.below hb8⟩); have n1_ := aK (HS.out.next hb8); clear HS HM hbox hb8 hgb; have HS := n1_; clear n1_; have x0 : w8.cell? ⟨g2, 0, none⟩ = some (.slice Au us.length cu) := HS.out.gi.cell 0; have x1 : w8.cell? ⟨g2, 1, none⟩ = some (.slice Ar rs.length cr) := HS.out.gi.cell 1))
 clear b0 b1 x0 x1
 have HND := aK (show (namesOf (rs.take 0)).Nodup from List.nodup_nil)
 go_loopw [40] (fun v40 wr => ∃ (i : Nat), v40 = .int .i64 i ∧ Aside0 (i ≤ rs.length) ∧ Aside0 ((namesOf (rs.take i)).Nodup) ∧ Aside0 (BS w0 wr us rs Au Ar cu cr g2 g4 g5) ∧ Aside0 (BMp wr gb gm 16384 (namesOf (rs.take i)))) (fun v40 _ => rs.length - (intOf v40).toNat)
 case atStart => exact ⟨0, rfl, ⟨Nat.zero_le _⟩, HND, HS, HB⟩
 case round =>
  clear HND HS HB
  obtain ⟨i, rfl, HI, HND, HS, HB⟩ := hrel
  have ib : (i : Int) ≤ 256 := by have := HI.out; omega
  by_cases ci : i < rs.length
  ·have q1 : decide ((i : Int) < (rs.length : Int)) = true := decide_eq_true (by omega)
   have q1n : decide (i < rs.length) = true := decide_eq_true ci
   obtain ⟨r, hr⟩ : ∃ r, rs[i]? = some r := ⟨_, List.getElem?_eq_getElem ci⟩
   obtain ⟨ad, A1, A2, c1, c2, hA, hra⟩ := rule_at HR.out hr
   subst hA
   have hix := idx_er ad rs.length cr i ci
   obtain ⟨p, hp⟩ : ∃ p, ad.add (i * 3) = p := ⟨_, rfl⟩
   rw [hp] at hra hix
   obtain ⟨r0, r1, r2, _, _⟩ := hra.below HS.out.below
   have HRI := aK hr
   clear hr hra hp
   go_upto_region 9 with (first
    | ((with_reducible refine gate_dst (N := 8) rfl ?_); refine box_event (N := 8) rfl rfl (cs := #[.string (⟨#[]⟩ : ByteArray), .slice none 0 0, .slice none 0 0]) (t := 40) ?hr2 ?_; (case hr2 => first | (go_simp; done) | (go_simp; rfl)); intro g8 hg8 wa hbox hba; have H8 := aK (show RowAt wa g8 40 [.string (⟨#[]⟩ : ByteArray), .slice none 0 0, .slice none 0 0] from ⟨_, hbox, rfl⟩); have HG8 := aK (show Far w0 g2 g4 g5 gb g8 by rw [hg8]; exact ⟨HS.out.below.size, HS.out.gi.lt, HS.out.c4.lt, HS.out.c5.lt, HB.out.row.lt⟩); have n1_ := aK (HS.out.next hba); have n2_ := aK (HB.out.next hba); clear HS HB hbox hba hg8 r0 r1 r2; have HS := n1_; have HB := n2_; clear n1_ n2_)
    | ((with_reducible refine gate_store (t := 40) (p := 8) rfl ?_); refine put_event rfl rfl 40 (.tmp 8) (.tmp 44) rfl (g := g8) (off := 0) (u := .agg #[.string r.f0, .slice A1 r.f1.length c1, .slice A2 r.f2.length c2]) (seg := [.string r.f0, .slice A1 r.f1.length c1, .slice A2 r.f2.length c2]) rfl rfl H8.out rfl (by kernel_rfl) (Nat.le_refl _) (by simp [Value.oneCell']) ?_; intro wb hrow hg; have n0_ := aK (show RowAt wb g8 40 [.string r.f0, .slice A1 r.f1.length c1, .slice A2 r.f2.length c2] from hrow); have n1_ := aK (HS.out.far HG8.out hg); have n2_ := aK (HB.out.far HG8.out.hb (RowAt.not_map H8.out HB.out.mp) hg); clear HS HB H8 hrow hg; have HS := n1_; have HB := n2_; have H8 := n0_; clear n0_ n1_ n2_; have s0 : wb.cell? ⟨g8, 0, none⟩ = some (.string r.f0) := H8.out.cell 0; have s2 : wb.cell? ⟨g8, 2, none⟩ = some (.slice A2 r.f2.length c2) := H8.out.cell 2; have y0 : wb.cell? ⟨gb, 0, none⟩ = some (.map (some gm)) := HB.out.row.cell 0))
   by_cases hin : r.f0 ∈ namesOf (rs.take i)
   ·have hlk : ∀ n, (Instr.lookup 64 (.map (some gm)) (.string r.f0) true).run Tryd.prog (wb.drewN n) = .ok (.tuple #[.int .i64 (placeN (namesOf (rs.take i)) r.f0), .bool true]) (wb.drewN n) := fun n => by
     have := name_look gm r.f0 _ _ (HB.out.next (pw_below_drewN (Below.refl wb.heap.size wb) n)).mp
     rwa [inD_yes hin] at this
    have HIN := aK hin
    clear hin
    go_quiet (fail)
    clear hlk
    have n1_ := aK (HS.out.next (pw_below_drewN (Below.refl _ _) nq)); have n2_ := aK (HB.out.next (pw_below_drewN (Below.refl _ _) nq)); have n3_ := aK (H8.out.below (pw_below_drewN (Below.refl _ _) nq)); clear HS HB H8 s0 s2 y0; have HS := n1_; have HB := n2_; have H8 := n3_; clear n1_ n2_ n3_; generalize wb.drewN nq = wc at *; have s0 : wc.cell? ⟨g8, 0, none⟩ = some (.string r.f0) := H8.out.cell 0; have s2 : wc.cell? ⟨g8, 2, none⟩ = some (.slice A2 r.f2.length c2) := H8.out.cell 2; have y0 : wc.cell? ⟨gb, 0, none⟩ = some (.map (some gm)) := HB.out.row.cell 0
    go_wp2_with (first
     | ((with_reducible refine gate_store (t := 29) (p := 4) rfl ?_); refine put_event rfl rfl 29 (.tmp 4) (.tmp 56) rfl (g := g4) (off := 0) (u := .agg #[.slice none 0 0, .int .i64 0]) (seg := [.slice none 0 0, .int .i64 0]) rfl rfl HS.out.c4 rfl (by kernel_rfl) (Nat.le_refl _) (by simp [Value.oneCell']) ?_; intro wa hrow hg; have n1_ := aK (HS.out.put4 HG.out hrow hg); clear HS hrow hg; have HS := n1_; clear n1_)
     | ((with_reducible refine gate_store (t := 32) (p := 5) rfl ?_); refine put_event rfl rfl 32 (.tmp 5) (.tmp 58) rfl (g := g5) (off := 0) (u := .agg #[.int .i64 ((i : Int)), .int .i64 (90)]) (seg := [.int .i64 ((i : Int)), .int .i64 (90)]) rfl rfl HS.out.c5 rfl (by kernel_rfl) (Nat.le_refl _) (by simp [Value.oneCell']) ?_; intro wb hrow hg; have H5 := aK (show RowAt wb g5 32 [.int .i64 ((i : Int)), .int .i64 (90)] from hrow); have H4 := aK (HS.out.c4.grown hg (by have := HG.out.h45; simp; omega)); have HW := aK (pw_below_grown HS.out.below _ HS.out.below.size hg (fun k hk => by cases hk; exact HG.out.b5)); clear HS hrow hg; have z0 : wb.cell? ⟨g4, 0, none⟩ = some (.slice none 0 0) := H4.out.cell 0; have z1 : wb.cell? ⟨g4, 1, none⟩ = some (.int .i64 0) := H4.out.cell 1; have z2 : wb.cell? ⟨g5, 0, none⟩ = some (.int .i64 ((i : Int))) := H5.out.cell 0; have z3 : wb.cell? ⟨g5, 1, none⟩ = some (.int .i64 (90)) := H5.out.cell 1))
    refine bodyPost_ret (v := .tuple #[.agg #[.slice none 0 0, .int .i64 0], .agg #[.int .i64 ((i : Int)), .int .i64 (90)]]) (by simp [results, Tryd.results8, go_sem, z0, z1, z2, z3]) rfl ?_
    exact ⟨BuildE.fault (.twice i r HRI.out HIN.out), HW.out⟩
   ·have hlk : ∀ n, (Instr.lookup 64 (.map (some gm)) (.string r.f0) true).run Tryd.prog (wb.drewN n) = .ok (.tuple #[.int .i64 (placeN (namesOf (rs.take i)) r.f0), .bool false]) (wb.drewN n) := fun n => by
     have := name_look gm r.f0 _ _ (HB.out.next (pw_below_drewN (Below.refl wb.heap.size wb) n)).mp
     rwa [inD_no hin] at this
    have HIN := aK hin
    clear hin
    go_quiet (fail)
    clear hlk
    have n1_ := aK (HS.out.next (pw_below_drewN (Below.refl _ _) nq)); have n2_ := aK (HB.out.next (pw_below_drewN (Below.refl _ _) nq)); have n3_ := aK (H8.out.below (pw_below_drewN (Below.refl _ _) nq)); clear HS HB H8 s0 s2 y0; have HS := n1_; have HB := n2_; have H8 := n3_; clear n1_ n2_ n3_; generalize wb.drewN nq = wc at *; have s0 : wc.cell? ⟨g8, 0, none⟩ = some (.string r.f0) := H8.out.cell 0; have s2 : wc.cell? ⟨g8, 2, none⟩ = some (.slice A2 r.f2.length c2) := H8.out.cell 2; have y0 : wc.cell? ⟨gb, 0, none⟩ = some (.map (some gm)) := HB.out.row.cell 0
    go_wp2
    go_still_tail 7, (by kernel_rfl)
    change wpList _ _ _ _ _ wc.drew
    have n1_ := aK (HS.out.next (below_drew (Below.refl _ _)))
    have n2_ := aK (HB.out.next (below_drew (Below.refl _ _)))
    clear HS HB H8 s0 s2 y0
    have HS := n1_
    have HB := n2_
    clear n1_ n2_
    generalize wc.drew = wd at *
    obtain ⟨we, hr9, hm9, hg9⟩ := map_update_new (P := Tryd.prog) str_kind Tryd.underlying64 HB.out.mp r.f0 (.int .i64 (i : Int)) (by rw [numbered_keys]; exact HIN.out)
    refine wpList_mute (w' := we) rfl (by go_simp) ?_
    have n1_ := aK (HS.out.other hg9 HGM.out.1 (by have := HGM.out; omega) (by have := HGM.out; omega) (by have := HGM.out; omega))
    have n2_ := aK (show BMp we gb gm 16384 (namesOf (rs.take (i + 1))) from ⟨HB.out.row.grown hg9 (by have := HGB.out; simp; omega), by rw [names_take_succ HRI.out, numbered_snoc, names_take_len HI.out]; exact hm9⟩)
    have n3_ := aK (show (namesOf (rs.take (i + 1))).Nodup by rw [names_take_succ HRI.out]; exact nodup_snoc HND.out HIN.out)
    clear HS HB HND hr9 hm9 hg9
    have HS := n1_
    have HB := n2_
    have HND := n3_
    clear n1_ n2_ n3_
    go_wp2
    go_roundw
    case measure => simp [intOf]; omega
    case rel => exact ⟨i + 1, by go_num, ⟨ci⟩, HND, HS, HB⟩
  ·have q1 : decide ((i : Int) < (rs.length : Int)) = false := decide_eq_false (by omega)
   have q1n : decide (i < rs.length) = false := decide_eq_false ci
   obtain rfl : i = rs.length := by have := HI.out; omega
   rw [List.take_length] at HND HB
   have HK := aK (show ∀ (j : Nat) (r : ER), j < 0 → rs[j]? = some r → knownR (namesOf rs) r from fun j r hj => absurd hj (Nat.not_lt_zero j))
   have x0 : wr.cell? ⟨g2, 0, none⟩ = some (.slice Au us.length cu) := HS.out.gi.cell 0
   have x1 : wr.cell? ⟨g2, 1, none⟩ = some (.slice Ar rs.length cr) := HS.out.gi.cell 1
   go_wp2
   clear x0 x1
   go_loopw [70] (fun v70 wr => ∃ (i : Nat), v70 = .int .i64 i ∧ Aside0 (i ≤ rs.length) ∧ Aside0 (∀ (j : Nat) (r : ER), j < i → rs[j]? = some r → knownR (namesOf rs) r) ∧ Aside0 (BS w0 wr us rs Au Ar cu cr g2 g4 g5) ∧ Aside0 (BMp wr gb gm 16384 (namesOf rs))) (fun v70 _ => rs.length - (intOf v70).toNat)
   case atStart => exact ⟨0, rfl, ⟨Nat.zero_le _⟩, HK, HS, HB⟩
   case round =>
    clear HK HS HB ci HI ib q1 q1n
    obtain ⟨i, rfl, HI, HK, HS, HB⟩ := hrel
    have ib : (i : Int) ≤ 256 := by have := HI.out; omega
    by_cases ci : i < rs.length
    ·have q1 : decide ((i : Int) < (rs.length : Int)) = true := decide_eq_true (by omega)
     have q1n : decide (i < rs.length) = true := decide_eq_true ci
     obtain ⟨r, hr⟩ : ∃ r, rs[i]? = some r := ⟨_, List.getElem?_eq_getElem ci⟩
     obtain ⟨ad, A1, A2, c1, c2, hA, hra⟩ := rule_at HR.out hr
     subst hA
     have hix := idx_er ad rs.length cr i ci
     obtain ⟨p, hp⟩ : ∃ p, ad.add (i * 3) = p := ⟨_, rfl⟩
     rw [hp] at hra hix
     have HBODY := aK hra.body
     obtain ⟨r0, r1, r2, _, _⟩ := hra.below HS.out.below
     have HRI := aK hr
     have lb : (r.f2.length : Int) ≤ 4096 := by have := body_few HCH.out (List.mem_of_getElem? hr); omega
     clear hr hra hp
     go_wp2_with (first
      | ((with_reducible refine gate_dst (N := 12) rfl ?_); refine box_event (N := 12) rfl rfl (cs := #[.string (⟨#[]⟩ : ByteArray), .slice none 0 0, .slice none 0 0]) (t := 40) ?hr2 ?_; (case hr2 => first | (go_simp; done) | (go_simp; rfl)); intro g8 hg8 wa hbox hba; have H8 := aK (show RowAt wa g8 40 [.string (⟨#[]⟩ : ByteArray), .slice none 0 0, .slice none 0 0] from ⟨_, hbox, rfl⟩); have HG8 := aK (show Far w0 g2 g4 g5 gb g8 by rw [hg8]; exact ⟨HS.out.below.size, HS.out.gi.lt, HS.out.c4.lt, HS.out.c5.lt, HB.out.row.lt⟩); have n1_ := aK (HS.out.next hba); have n2_ := aK (HB.out.next hba); clear HS HB hbox hba hg8 r0 r1 r2; have HS := n1_; have HB := n2_; clear n1_ n2_)
      | ((with_reducible refine gate_store (t := 40) (p := 12) rfl ?_); refine put_event rfl rfl 40 (.tmp 12) (.tmp 74) rfl (g := g8) (off := 0) (u := .agg #[.string r.f0, .slice A1 r.f1.length c1, .slice A2 r.f2.length c2]) (seg := [.string r.f0, .slice A1 r.f1.length c1, .slice A2 r.f2.length c2]) rfl rfl H8.out rfl (by kernel_rfl) (Nat.le_refl _) (by simp [Value.oneCell']) ?_; intro wb hrow hg; have n0_ := aK (show RowAt wb g8 40 [.string r.f0, .slice A1 r.f1.length c1, .slice A2 r.f2.length c2] from hrow); have n1_ := aK (HS.out.far HG8.out hg); have n2_ := aK (HB.out.far HG8.out.hb (RowAt.not_map H8.out HB.out.mp) hg); clear HS HB H8 hrow hg; have HS := n1_; have HB := n2_; have H8 := n0_; clear n0_ n1_ n2_; have s0 : wb.cell? ⟨g8, 0, none⟩ = some (.string r.f0) := H8.out.cell 0; have s2 : wb.cell? ⟨g8, 2, none⟩ = some (.slice A2 r.f2.length c2) := H8.out.cell 2; have y0 : wb.cell? ⟨gb, 0, none⟩ = some (.map (some gm)) := HB.out.row.cell 0))
     clear H8 s0 s2 y0
     have HJ := aK (show ∀ (q : Nat) (x : EN), q < 0 → r.f2[q]? = some x → x.f0 = 4 → x.f2 ∈ namesOf rs from fun q x hq => absurd hq (Nat.not_lt_zero q))
     go_loopw [78] (fun v78 wr => ∃ (j : Nat), v78 = .int .i64 j ∧ Aside0 (j ≤ r.f2.length) ∧ Aside0 (∀ (q : Nat) (x : EN), q < j → r.f2[q]? = some x → x.f0 = 4 → x.f2 ∈ namesOf rs) ∧ Aside0 (BS w0 wr us rs Au (some ad) cu cr g2 g4 g5) ∧ Aside0 (BMp wr gb gm 16384 (namesOf rs))) (fun v78 _ => r.f2.length - (intOf v78).toNat)
     case atStart => exact ⟨0, rfl, ⟨Nat.zero_le _⟩, HJ, HS, HB⟩
     case round =>
      clear HJ HS HB
      obtain ⟨j, rfl, HJL, HJ, HS, HB⟩ := hrel
      have jb : (j : Int) ≤ 4096 := by have := HJL.out; omega
      by_cases cj : j < r.f2.length
      ·have q2 : decide ((j : Int) < (r.f2.length : Int)) = true := decide_eq_true (by omega)
       have q2n : decide (j < r.f2.length) = true := decide_eq_true cj
       obtain ⟨x, hx⟩ : ∃ x, r.f2[j]? = some x := ⟨_, List.getElem?_eq_getElem cj⟩
       obtain ⟨ad2, hA2, _⟩ := HBODY.out.2.2 (by omega)
       subst hA2
       have hix2 := idx_en ad2 r.f2.length c2 j cj
       have hna := (node_at HBODY.out hx).below HS.out.below
       obtain ⟨p2, hp2⟩ : ∃ p2, ad2.add (j * 10) = p2 := ⟨_, rfl⟩
       rw [hp2] at hna hix2
       obtain ⟨x0, x1, x2, x3, x4, x5, x6, x7, x8, x9⟩ := hna
       have HXJ := aK hx
       clear hx hp2
       go_upto_region 20 with (first
        | ((with_reducible refine gate_dst (N := 14) rfl ?_); refine box_event ?hg (N := 14) ?hd (cs := #[.int .i64 0, .int .i64 0, .string (⟨#[]⟩ : ByteArray), .bool false, .int .u64 0, .int .u64 0, .int .u64 0, .int .u64 0, .int .i64 0, .int .i64 0]) (t := 51) ?hr ?_; (case hd => rfl); (case hg => rfl); (case hr => first | (go_simp; done) | (go_simp; rfl)); intro g14 hg14 wa hbox hba; have H14 := aK (show RowAt wa g14 51 zCells from ⟨_, hbox, rfl⟩); have HG14 := aK (show Far w0 g2 g4 g5 gb g14 by rw [hg14]; exact ⟨HS.out.below.size, HS.out.gi.lt, HS.out.c4.lt, HS.out.c5.lt, HB.out.row.lt⟩); have n1_ := aK (HS.out.next hba); have n2_ := aK (HB.out.next hba); clear HS HB hbox hba hg14 x0 x1 x2 x3 x4 x5 x6 x7 x8 x9; have HS := n1_; have HB := n2_; clear n1_ n2_)
        | ((with_reducible refine gate_store (t := 51) (p := 14) rfl ?_); refine put_event rfl rfl 51 (.tmp 14) (.tmp 81) rfl (g := g14) (off := 0) (u := .agg (enCells x).toArray) (seg := enCells x) rfl rfl H14.out rfl (by kernel_rfl) (Nat.le_refl _) (en_one x) ?_; intro wb hrow hg; have n0_ := aK (show RowAt wb g14 51 (enCells x) from hrow); have n1_ := aK (HS.out.far HG14.out hg); have n2_ := aK (HB.out.far HG14.out.hb (RowAt.not_map H14.out HB.out.mp) hg); clear HS HB H14 hrow hg; have HS := n1_; have HB := n2_; have H14 := n0_; clear n0_ n1_ n2_; have s0 : wb.cell? ⟨g14, 0, none⟩ = some (.int .i64 x.f0) := H14.out.cell 0; have s2 : wb.cell? ⟨g14, 2, none⟩ = some (.string x.f2) := H14.out.cell 2; have y0 : wb.cell? ⟨gb, 0, none⟩ = some (.map (some gm)) := HB.out.row.cell 0))
       have hlk : ∀ n, (Instr.lookup 64 (.map (some gm)) (.string x.f2) true).run Tryd.prog (wb.drewN n) = .ok (.tuple #[.int .i64 (placeN (namesOf rs) x.f2), .bool (inD (namesOf rs) x.f2)]) (wb.drewN n) := fun n => name_look gm x.f2 _ _ (HB.out.next (pw_below_drewN (Below.refl wb.heap.size wb) n)).mp
       go_quiet (fail)
       clear hlk
       have n1_ := aK (HS.out.next (pw_below_drewN (Below.refl _ _) nq)); have n2_ := aK (HB.out.next (pw_below_drewN (Below.refl _ _) nq)); have n3_ := aK (H14.out.below (pw_below_drewN (Below.refl _ _) nq)); clear HS HB H14 s0 s2 y0; have HS := n1_; have HB := n2_; have H14 := n3_; clear n1_ n2_ n3_; generalize wb.drewN nq = wc at *; have s0 : wc.cell? ⟨g14, 0, none⟩ = some (.int .i64 x.f0) := H14.out.cell 0
       by_cases c4 : x.f0 = 4
       ·have b4 : (x.f0 == 4) = true := beq_iff_eq.mpr c4
        by_cases hin : x.f2 ∈ namesOf rs
        ·rw [inD_yes hin]
         have HJ2 := aK (known_next HJ.out HXJ.out (fun _ => hin))
         clear hin c4
         go_wp2
         go_roundw
         case measure => simp [intOf]; omega
         case rel => exact ⟨j + 1, by go_num, ⟨cj⟩, HJ2, HS, HB⟩
        ·rw [inD_no hin]
         have HUN := aK (show ¬ knownR (namesOf rs) r from fun h => hin (h x (List.mem_of_getElem? HXJ.out) c4))
         clear hin c4
         go_wp2_with (first
          | ((with_reducible refine gate_store (t := 29) (p := 4) rfl ?_); refine put_event rfl rfl 29 (.tmp 4) (.tmp 99) rfl (g := g4) (off := 0) (u := .agg #[.slice none 0 0, .int .i64 0]) (seg := [.slice none 0 0, .int .i64 0]) rfl rfl HS.out.c4 rfl (by kernel_rfl) (Nat.le_refl _) (by simp [Value.oneCell']) ?_; intro wa hrow hg; have n1_ := aK (HS.out.put4 HG.out hrow hg); clear HS hrow hg; have HS := n1_; clear n1_)
          | ((with_reducible refine gate_store (t := 32) (p := 5) rfl ?_); refine put_event rfl rfl 32 (.tmp 5) (.tmp 101) rfl (g := g5) (off := 0) (u := .agg #[.int .i64 ((i : Int)), .int .i64 (91)]) (seg := [.int .i64 ((i : Int)), .int .i64 (91)]) rfl rfl HS.out.c5 rfl (by kernel_rfl) (Nat.le_refl _) (by simp [Value.oneCell']) ?_; intro wb hrow hg; have H5 := aK (show RowAt wb g5 32 [.int .i64 ((i : Int)), .int .i64 (91)] from hrow); have H4 := aK (HS.out.c4.grown hg (by have := HG.out.h45; simp; omega)); have HW := aK (pw_below_grown HS.out.below _ HS.out.below.size hg (fun k hk => by cases hk; exact HG.out.b5)); clear HS hrow hg; have z0 : wb.cell? ⟨g4, 0, none⟩ = some (.slice none 0 0) := H4.out.cell 0; have z1 : wb.cell? ⟨g4, 1, none⟩ = some (.int .i64 0) := H4.out.cell 1; have z2 : wb.cell? ⟨g5, 0, none⟩ = some (.int .i64 ((i : Int))) := H5.out.cell 0; have z3 : wb.cell? ⟨g5, 1, none⟩ = some (.int .i64 (91)) := H5.out.cell 1))
         refine bodyPost_ret (v := .tuple #[.agg #[.slice none 0 0, .int .i64 0], .agg #[.int .i64 ((i : Int)), .int .i64 (91)]]) (by simp [results, Tryd.results8, go_sem, z0, z1, z2, z3]) rfl ?_
         exact ⟨BuildE.fault (.unknown i r HRI.out HUN.out), HW.out⟩
       ·have b4 : (x.f0 == 4) = false := beq_eq_false_iff_ne.mpr c4
        have HJ2 := aK (known_next HJ.out HXJ.out (fun h => absurd h c4))
        clear c4
        go_wp2
        go_roundw
        case measure => simp [intOf]; omega
        case rel => exact ⟨j + 1, by go_num, ⟨cj⟩, HJ2, HS, HB⟩
      ·have q2 : decide ((j : Int) < (r.f2.length : Int)) = false := decide_eq_false (by omega)
       have q2n : decide (j < r.f2.length) = false := decide_eq_false cj
       have HK2 := aK (rule_next HK.out HRI.out (known_all HJ.out (by omega)))
       go_wp2
       go_roundw
       case measure => simp [intOf]; omega
       case rel => exact ⟨i + 1, by go_num, ⟨ci⟩, HK2, HS, HB⟩
    ·have q1 : decide ((i : Int) < (rs.length : Int)) = false := decide_eq_false (by omega)
     have q1n : decide (i < rs.length) = false := decide_eq_false ci
     obtain rfl : i = rs.length := by have := HI.out; omega
     have HKA := aK (show ∀ r ∈ rs, knownR (namesOf rs) r from fun r hr => by
      obtain ⟨j, hj⟩ := List.getElem?_of_mem hr
      exact HK.out j r (List.getElem?_eq_some_iff.1 hj).1 hj)
     have hlk := name_look gm start (namesOf rs) wr HB.out.mp
     have y0 : wr.cell? ⟨gb, 0, none⟩ = some (.map (some gm)) := HB.out.row.cell 0
     by_cases hin : start ∈ namesOf rs
     ·rw [inD_yes hin] at hlk
      have HIN := aK hin
      clear hin
      obtain ⟨first, hfirst⟩ : ∃ first, placeN (namesOf rs) start = first := ⟨_, rfl⟩
      rw [hfirst] at hlk
      have HFI := aK hfirst
      clear hfirst
      have x1 : wr.cell? ⟨g2, 1, none⟩ = some (.slice Ar rs.length cr) := HS.out.gi.cell 1
      go_wp2_with (first
       | ((with_reducible refine gate_dst (N := 19) rfl ?_); refine box_event ?hg (N := 19) ?hd (cs := #[.slice none 0 0, .int .i64 0]) (t := 29) ?hr ?_; (case hd => rfl); (case hg => rfl); (case hr => first | (go_simp; done) | (go_simp; rfl)); intro g19 hg19 wa hbox hba; have H19 := aK (show RowAt wa g19 29 [.slice none 0 0, .int .i64 0] from ⟨_, hbox, rfl⟩); have HG19 := aK (show Far w0 g2 g4 g5 gb g19 by rw [hg19]; exact ⟨HS.out.below.size, HS.out.gi.lt, HS.out.c4.lt, HS.out.c5.lt, HB.out.row.lt⟩); have n1_ := aK (HS.out.next hba); have n2_ := aK (HB.out.next hba); clear HS HB hbox hba hg19 y0 hlk x1; have HS := n1_; have HB := n2_; clear n1_ n2_)
       | ((with_reducible refine gate_store (t := 29) (p := 19) rfl ?_); refine put_event rfl rfl 29 (.tmp 19) (.tmp 118) rfl (g := g19) (off := 0) (u := .agg #[.slice none 0 0, .int .i64 first]) (seg := [.slice none 0 0, .int .i64 first]) rfl rfl H19.out rfl (by kernel_rfl) (Nat.le_refl _) (by simp [Value.oneCell']) ?_; intro wb hrow hg; have n1_ := aK (HS.out.far HG19.out hg); have n2_ := aK (HB.out.far HG19.out.hb (RowAt.not_map H19.out HB.out.mp) hg); have HC := aK (show CRs w0 wb g19 (.slice none 0 0) first 0 [] [] from ⟨hrow, World.ownsRow_nil _ _ _ _, Bods.nil _⟩); clear HS HB H19 hrow hg; have HS := n1_; have HB := n2_; clear n1_ n2_; have x1 : wb.cell? ⟨g2, 1, none⟩ = some (.slice Ar rs.length cr) := HS.out.gi.cell 1))
      clear x1 q1 q1n ci HI ib HK
      have HL := aK (show layR (placeN (namesOf rs)) 16384 (ts.take 0) = some [] from rfl)
      have HP := aK (show (([] : List (ByteArray × Value)).map (·.1)) = namesOf (rs.take 0) from rfl)
      go_loopw [122] (fun v122 wr => ∃ (k : Nat) (u : Value) (P : List (ByteArray × Value)) (L : List (List CN)), v122 = .int .i64 k ∧ Aside0 (k ≤ rs.length) ∧ Aside0 (layR (placeN (namesOf rs)) 16384 (ts.take k) = some L) ∧ Aside0 (P.map (·.1) = namesOf (rs.take k)) ∧ Aside0 (BS w0 wr us rs Au Ar cu cr g2 g4 g5) ∧ Aside0 (BMp wr gb gm (16384 - (L.flatten.length : Int)) (namesOf rs)) ∧ Aside0 (CRs w0 wr g19 u first k P L)) (fun v122 _ => rs.length - (intOf v122).toNat)
      case atStart => exact ⟨0, _, _, _, rfl, ⟨Nat.zero_le _⟩, HL, HP, HS, HB, HC⟩
      case round =>
       clear HL HP HS HB HC
       obtain ⟨k, u, P, L, rfl, HKL, HL, HP, HS, HB, HC⟩ := hrel
       have kb : (k : Int) ≤ 256 := by have := HKL.out; omega
       have HLE := aK (layR_le (by decide) HL.out)
       by_cases ck : k < rs.length
       ·have q1 : decide ((k : Int) < (rs.length : Int)) = true := decide_eq_true (by omega)
        have q1n : decide (k < rs.length) = true := decide_eq_true ck
        obtain ⟨r, hr⟩ : ∃ r, rs[k]? = some r := ⟨_, List.getElem?_eq_getElem ck⟩
        obtain ⟨t, ht⟩ : ∃ t, ts[k]? = some t := ⟨_, List.getElem?_eq_getElem (by rw [HTS.out.len]; exact ck)⟩
        obtain ⟨ad, A1, A2, c1, c2, hA, hra⟩ := rule_at HR.out hr
        subst hA
        have hix := idx_er ad rs.length cr k ck
        obtain ⟨p, hp⟩ : ∃ p, ad.add (k * 3) = p := ⟨_, rfl⟩
        rw [hp] at hra hix
        have HWT := aK (HTS.out.at_ k r t hr ht)
        have HOK := aK (show ∀ x ∈ flatT t, OkN x from fun x hx => by
         rw [HWT.out.2] at hx
         exact ⟨((HCH.out.good r (List.mem_of_getElem? hr)).body).may x hx, (HFIT.out r (List.mem_of_getElem? hr)).texts x hx⟩)
        have lb : (r.f2.length : Int) ≤ 4096 := by have := body_few HCH.out (List.mem_of_getElem? hr); omega
        have lp : 0 < r.f2.length := by have := flatT_pos t; rwa [HWT.out.2] at this
        obtain ⟨ad2, hA2, _⟩ := hra.body.2.2 lp
        subst hA2
        have HBODY := aK hra.body
        have HCAP := aK hra.cap
        obtain ⟨r0, r1, r2, _, _⟩ := hra.below HS.out.below
        have HRI := aK hr
        have HTI := aK ht
        have HNM := aK (show (P ++ [(r.f0, Value.slice none 0 0)]).map (·.1) = namesOf (rs.take (k + 1)) by rw [names_take_succ hr, List.map_append, HP.out]; rfl)
        obtain ⟨lf, hlf⟩ : ∃ lf, 16384 - (L.flatten.length : Int) = lf := ⟨_, rfl⟩
        rw [hlf] at HB
        have hl0 : 0 ≤ lf := by have := HLE.out; omega
        have hl1 : lf ≤ 16384 := by omega
        have HLN := aK (layR_step (NM := placeN (namesOf rs)) ht HL.out)
        rw [hlf] at HLN
        have HLF := aK hlf
        clear hr ht hra hp hlf
        cases hrl : ruleL lf (placeN (namesOf rs)) t with
        | none =>
         have HRL := aK hrl
         rw [hrl] at HLN
         clear hrl
         go_wp2_with (first
          | ((with_reducible refine gate_dst (N := 21) rfl ?_); refine box_event (N := 21) rfl rfl (cs := #[.string (⟨#[]⟩ : ByteArray), .slice none 0 0, .slice none 0 0]) (t := 40) ?hr2 ?_; (case hr2 => first | (go_simp; done) | (go_simp; rfl)); intro g8 hg8 wa hbox hba; have H8 := aK (show RowAt wa g8 40 [.string (⟨#[]⟩ : ByteArray), .slice none 0 0, .slice none 0 0] from ⟨_, hbox, rfl⟩); have HG8 := aK (show Far w0 g2 g4 g5 gb g8 by rw [hg8]; exact ⟨HS.out.below.size, HS.out.gi.lt, HS.out.c4.lt, HS.out.c5.lt, HB.out.row.lt⟩); have HG8b := aK (show g19 ≠ g8 by have := HC.out.box.lt; rw [hg8]; omega); have n5_ := aK (HC.out.next hba); clear HC; have HC := n5_; clear n5_; have n1_ := aK (HS.out.next hba); have n2_ := aK (HB.out.next hba); clear HS HB hbox hba hg8 r0 r1 r2; have HS := n1_; have HB := n2_; clear n1_ n2_)
          | ((with_reducible refine gate_store (t := 40) (p := 21) rfl ?_); refine put_event rfl rfl 40 (.tmp 21) (.tmp 126) rfl (g := g8) (off := 0) (u := .agg #[.string r.f0, .slice A1 r.f1.length c1, .slice (some ad2) r.f2.length c2]) (seg := [.string r.f0, .slice A1 r.f1.length c1, .slice (some ad2) r.f2.length c2]) rfl rfl H8.out rfl (by kernel_rfl) (Nat.le_refl _) (by simp [Value.oneCell']) ?_; intro wb hrow hg; have n0_ := aK (show RowAt wb g8 40 [.string r.f0, .slice A1 r.f1.length c1, .slice (some ad2) r.f2.length c2] from hrow); have n5_ := aK (HC.out.put H8.out (by decide) (by decide) HG8b.out hg); clear HC; have HC := n5_; clear n5_; have n1_ := aK (HS.out.far HG8.out hg); have n2_ := aK (HB.out.far HG8.out.hb (RowAt.not_map H8.out HB.out.mp) hg); clear HS HB H8 hrow hg; have HS := n1_; have HB := n2_; have H8 := n0_; clear n0_ n1_ n2_; have s0 : wb.cell? ⟨g8, 0, none⟩ = some (.string r.f0) := H8.out.cell 0; have s2 : wb.cell? ⟨g8, 2, none⟩ = some (.slice (some ad2) r.f2.length c2) := H8.out.cell 2; have y0 : wb.cell? ⟨gb, 0, none⟩ = some (.map (some gm)) := HB.out.row.cell 0)
          | ((go_at_call 18; have hcall := rule_calls gb gm lf (placeN (namesOf rs)) t ad2 r.f2.length c2 wb (node_t (by omega) t HWT.out.1 HOK.out) ⟨HB.out.row.cell 0, HB.out.row.cell 1, fun W hW s => name_look1 gm s _ W (HB.out.mp.below hW), fun i hi => cell_below (HALL.out i hi) HS.out.below⟩ (by rw [HWT.out.2]; exact Kd.C_below HBODY.out HS.out.below) HCAP.out (by omega) HB.out.row (by omega) (by omega); rw [HRL.out] at hcall; (with_reducible refine hcall.mono ?_); clear hcall); rintro e wc ⟨⟨v, he⟩, hg⟩; subst he; have n1_ := aK (HS.out.other hg (by have := HGM.out; have := HGB.out; omega) (by have := HGM.out; have := HGB.out; omega) (by have := HGM.out; have := HGB.out; omega) (by have := HGM.out; have := HGB.out; omega)); clear HS hg s0 s2 y0; have HS := n1_; clear n1_)
          | ((with_reducible refine gate_store (t := 29) (p := 4) rfl ?_); refine put_event rfl rfl 29 (.tmp 4) (.tmp 136) rfl (g := g4) (off := 0) (u := .agg #[.slice none 0 0, .int .i64 0]) (seg := [.slice none 0 0, .int .i64 0]) rfl rfl HS.out.c4 rfl (by kernel_rfl) (Nat.le_refl _) (by simp [Value.oneCell']) ?_; intro wa hrow hg; have n1_ := aK (HS.out.put4 HG.out hrow hg); clear HS hrow hg; have HS := n1_; clear n1_)
          | ((with_reducible refine gate_store (t := 32) (p := 5) rfl ?_); refine put_event rfl rfl 32 (.tmp 5) (.tmp 138) rfl (g := g5) (off := 0) (u := .agg #[.int .i64 ((k : Int)), .int .i64 (81)]) (seg := [.int .i64 ((k : Int)), .int .i64 (81)]) rfl rfl HS.out.c5 rfl (by kernel_rfl) (Nat.le_refl _) (by simp [Value.oneCell']) ?_; intro wb hrow hg; have H5 := aK (show RowAt wb g5 32 [.int .i64 ((k : Int)), .int .i64 (81)] from hrow); have H4 := aK (HS.out.c4.grown hg (by have := HG.out.h45; simp; omega)); have HW := aK (pw_below_grown HS.out.below _ HS.out.below.size hg (fun k hk => by cases hk; exact HG.out.b5)); clear HS hrow hg; have z0 : wb.cell? ⟨g4, 0, none⟩ = some (.slice none 0 0) := H4.out.cell 0; have z1 : wb.cell? ⟨g4, 1, none⟩ = some (.int .i64 0) := H4.out.cell 1; have z2 : wb.cell? ⟨g5, 0, none⟩ = some (.int .i64 ((k : Int))) := H5.out.cell 0; have z3 : wb.cell? ⟨g5, 1, none⟩ = some (.int .i64 (81)) := H5.out.cell 1))
         refine bodyPost_ret (v := .tuple #[.agg #[.slice none 0 0, .int .i64 0], .agg #[.int .i64 ((k : Int)), .int .i64 (81)]]) (by simp [results, Tryd.results8, go_sem, z0, z1, z2, z3]) rfl ?_
         exact ⟨BuildE.fault (.budget k ck HLN.out), HW.out⟩
        | some l =>
         have HRL := aK hrl
         rw [hrl] at HLN
         clear hrl
         go_wp2_with (first
          | ((with_reducible refine gate_dst (N := 21) rfl ?_); refine box_event (N := 21) rfl rfl (cs := #[.string (⟨#[]⟩ : ByteArray), .slice none 0 0, .slice none 0 0]) (t := 40) ?hr2 ?_; (case hr2 => first | (go_simp; done) | (go_simp; rfl)); intro g8 hg8 wa hbox hba; have H8 := aK (show RowAt wa g8 40 [.string (⟨#[]⟩ : ByteArray), .slice none 0 0, .slice none 0 0] from ⟨_, hbox, rfl⟩); have HG8 := aK (show Far w0 g2 g4 g5 gb g8 by rw [hg8]; exact ⟨HS.out.below.size, HS.out.gi.lt, HS.out.c4.lt, HS.out.c5.lt, HB.out.row.lt⟩); have HG8b := aK (show g19 ≠ g8 by have := HC.out.box.lt; rw [hg8]; omega); have n5_ := aK (HC.out.next hba); clear HC; have HC := n5_; clear n5_; have n1_ := aK (HS.out.next hba); have n2_ := aK (HB.out.next hba); clear HS HB hbox hba hg8 r0 r1 r2; have HS := n1_; have HB := n2_; clear n1_ n2_)
          | ((with_reducible refine gate_store (t := 40) (p := 21) rfl ?_); refine put_event rfl rfl 40 (.tmp 21) (.tmp 126) rfl (g := g8) (off := 0) (u := .agg #[.string r.f0, .slice A1 r.f1.length c1, .slice (some ad2) r.f2.length c2]) (seg := [.string r.f0, .slice A1 r.f1.length c1, .slice (some ad2) r.f2.length c2]) rfl rfl H8.out rfl (by kernel_rfl) (Nat.le_refl _) (by simp [Value.oneCell']) ?_; intro wb hrow hg; have n0_ := aK (show RowAt wb g8 40 [.string r.f0, .slice A1 r.f1.length c1, .slice (some ad2) r.f2.length c2] from hrow); have n5_ := aK (HC.out.put H8.out (by decide) (by decide) HG8b.out hg); clear HC; have HC := n5_; clear n5_; have n1_ := aK (HS.out.far HG8.out hg); have n2_ := aK (HB.out.far HG8.out.hb (RowAt.not_map H8.out HB.out.mp) hg); clear HS HB H8 hrow hg; have HS := n1_; have HB := n2_; have H8 := n0_; clear n0_ n1_ n2_; have s0 : wb.cell? ⟨g8, 0, none⟩ = some (.string r.f0) := H8.out.cell 0; have s2 : wb.cell? ⟨g8, 2, none⟩ = some (.slice (some ad2) r.f2.length c2) := H8.out.cell 2; have y0 : wb.cell? ⟨gb, 0, none⟩ = some (.map (some gm)) := HB.out.row.cell 0)
          | ((go_at_call 18; have hcall := rule_calls gb gm lf (placeN (namesOf rs)) t ad2 r.f2.length c2 wb (node_t (by omega) t HWT.out.1 HOK.out) ⟨HB.out.row.cell 0, HB.out.row.cell 1, fun W hW s => name_look1 gm s _ W (HB.out.mp.below hW), fun i hi => cell_below (HALL.out i hi) HS.out.below⟩ (by rw [HWT.out.2]; exact Kd.C_below HBODY.out HS.out.below) HCAP.out (by omega) HB.out.row (by omega) (by omega); rw [HRL.out] at hcall; (with_reducible refine hcall.mono ?_); clear hcall); rintro e wc ⟨⟨v, he, hv, hrb⟩, hg⟩; subst he; obtain ⟨Av, cv, hve, _⟩ := hv.bod.reads; subst hve; have HV := aK hv.bod; have n1_ := aK (HS.out.other hg (by have := HGM.out; have := HGB.out; omega) (by have := HGM.out; have := HGB.out; omega) (by have := HGM.out; have := HGB.out; omega) (by have := HGM.out; have := HGB.out; omega)); have n2_ := aK (HC.out.put HB.out.row (by decide) (by decide) (by have := HG19.out.hb; omega) hg); have n4_ := aK (H8.out.grown hg (by have := HG8.out.hb; simp; omega)); have n3_ := aK (show BMp wc gb gm (lf - (l.length : Int)) (namesOf rs) from ⟨hrb, HB.out.mp.grown hg (by have := HGB.out; simp; omega)⟩); clear HS HC HB H8 hg hv hrb s0 s2 y0; have HS := n1_; have HC := n2_; have HB := n3_; have H8 := n4_; clear n1_ n2_ n3_ n4_; have s0 : wc.cell? ⟨g8, 0, none⟩ = some (.string r.f0) := H8.out.cell 0; have c0 : wc.cell? ⟨g19, 0, none⟩ = some u := HC.out.box.cell 0)
          | ((with_reducible refine gate_builtin (b := .append) (xs := #[.tmp 140, .tmp 145]) rfl ?_); at_builtin; refine append_event w0.heap.size rfl (.tmp 140) (.tmp 145) 27 44 (.agg #[.string (⟨#[]⟩ : ByteArray), .slice none 0 0]) 2 40 rfl Tryd.underlying27 (by kernel_rfl) rfl (by decide) (by decide) u k (P.flatMap fun p => [.string p.1, p.2]) [.string r.f0, .slice Av l.length cv] rfl rfl rfl (by simp [Value.oneCell']) HC.out.own HS.out.below.size (by omega) ?_; intro u2 wd hown hat; obtain ⟨row, hgr, hrw⟩ := hat_row hat; have n1_ := aK (HS.out.row HC.out.own hgr hrw); have n2_ := aK (HB.out.rowC HC.out.own hgr hrw); have HX := aK (grown_row_other HC.out.own HC.out.box (by decide) hgr hrw); have HO2 := aK hown; have HBD := aK ((HC.out.bods.snoc HV.out).over HC.out.own (by decide) hgr hrw); clear HS HB HC HV H8 hown hat hgr hrw c0 s0; have HS := n1_; have HB := n2_; clear n1_ n2_)
          | ((with_reducible refine gate_store (t := 27) (p := 147) rfl ?_); refine put_event rfl rfl 27 (.tmp 147) (.tmp 146) rfl (g := g19) (off := 0) (u := u2) (seg := [u2]) rfl rfl HX.out (own_cells HO2.out) (by kernel_rfl) (show 0 + 1 ≤ 2 by decide) (by intro q hq; rw [List.mem_singleton.1 hq]; exact own_one HO2.out) ?_; intro we hrow hg; have n1_ := aK (HS.out.far HG19.out hg); have n2_ := aK (HB.out.far HG19.out.hb (RowAt.not_map HX.out HB.out.mp) hg); have HC := aK (show CRs w0 we g19 u2 first (k + 1) (P ++ [(r.f0, .slice Av l.length cv)]) (L ++ [l]) from ⟨hrow, by rw [flat_snoc]; exact own_put2 HO2.out HX.out (by decide) hg, by rw [List.map_append]; exact bods_put HBD.out HX.out (by decide) hg⟩); clear HS HB HX HO2 HBD hrow hg; have HS := n1_; have HB := n2_; clear n1_ n2_))
         go_roundw
         case measure => simp [intOf]; omega
         case rel => exact ⟨k + 1, u2, _, _, by go_num, ⟨ck⟩, ⟨HLN.out⟩, ⟨by have := HNM.out; rw [List.map_append] at this ⊢; exact this⟩, HS, ⟨by have := HB.out; rwa [show lf - (l.length : Int) = 16384 - ((L ++ [l]).flatten.length : Int) by have := HLF.out; rw [flat_len_snoc]; omega] at this⟩, HC⟩
       ·have q1 : decide ((k : Int) < (rs.length : Int)) = false := decide_eq_false (by omega)
        have q1n : decide (k < rs.length) = false := decide_eq_false ck
        obtain rfl : k = rs.length := by have := HKL.out; omega
        obtain ⟨Af, cf, rfl⟩ := own_slice HC.out.own
        have z0 : wr.cell? ⟨g19, 0, none⟩ = some (.slice Af rs.length cf) := HC.out.box.cell 0
        have z1 : wr.cell? ⟨g19, 1, none⟩ = some (.int .i64 first) := HC.out.box.cell 1
        go_wp2_with (first
         | ((with_reducible refine gate_store (t := 29) (p := 4) rfl ?_); refine put_event rfl rfl 29 (.tmp 4) (.tmp 149) rfl (g := g4) (off := 0) (u := .agg #[.slice Af rs.length cf, .int .i64 first]) (seg := [.slice Af rs.length cf, .int .i64 first]) rfl rfl HS.out.c4 rfl (by kernel_rfl) (Nat.le_refl _) (by simp [Value.oneCell']) ?_; intro wa hrow hg; have H4 := aK (show RowAt wa g4 29 [.slice Af rs.length cf, .int .i64 first] from hrow); have H5 := aK (HS.out.c5.grown hg (by have := HG.out.h45; simp; omega)); have HW := aK (pw_below_grown HS.out.below _ HS.out.below.size hg (fun k hk => by cases hk; exact HG.out.b4)); have n1_ := aK (HC.out.put HS.out.c4 (by decide) (by decide) (by have := HG19.out.h4; omega) hg); clear HS HC hrow hg z0 z1; have HC := n1_; clear n1_)
         | ((with_reducible refine gate_store (t := 32) (p := 5) rfl ?_); refine put_event rfl rfl 32 (.tmp 5) (.tmp 150) rfl (g := g5) (off := 0) (u := .agg #[.int .i64 0, .int .i64 0]) (seg := [.int .i64 0, .int .i64 0]) rfl rfl H5.out rfl (by kernel_rfl) (Nat.le_refl _) (by simp [Value.oneCell']) ?_; intro wb hrow hg; have n5_ := aK (show RowAt wb g5 32 [.int .i64 0, .int .i64 0] from hrow); have n4_ := aK (H4.out.grown hg (by have := HG.out.h45; simp; omega)); have nw_ := aK (pw_below_grown HW.out _ HW.out.size hg (fun k hk => by cases hk; exact HG.out.b5)); have n1_ := aK (HC.out.put H5.out (by decide) (by decide) (by have := HG19.out.h5; omega) hg); clear H4 H5 HW HC hrow hg; have H4 := n4_; have H5 := n5_; have HW := nw_; have HC := n1_; clear n1_ n4_ n5_ nw_; have z0 : wb.cell? ⟨g4, 0, none⟩ = some (.slice Af rs.length cf) := H4.out.cell 0; have z1 : wb.cell? ⟨g4, 1, none⟩ = some (.int .i64 first) := H4.out.cell 1; have z2 : wb.cell? ⟨g5, 0, none⟩ = some (.int .i64 0) := H5.out.cell 0; have z3 : wb.cell? ⟨g5, 1, none⟩ = some (.int .i64 0) := H5.out.cell 1))
        refine bodyPost_ret (v := .tuple #[.agg #[.slice Af rs.length cf, .int .i64 first], .agg #[.int .i64 0, .int .i64 0]]) (by simp [results, Tryd.results8, go_sem, z0, z1, z2, z3]) rfl ?_
        rw [List.take_of_length_le (by rw [HTS.out.len]; exact Nat.le_refl _)] at HL
        rw [List.take_length] at HP
        have h8 := crs_C HC.out.own HC.out.bods (by omega)
        rw [HP.out] at h8
        have h9 : (List.zipWith (fun x l => (⟨x, l⟩ : CR)) (namesOf rs) L).length = rs.length := h8.1.1
        have h7 := Out.built (us := us) (start := start) (ts := ts) L (by have := HCK.out; rwa [HVE.out] at this) HFL.out HND.out HKA.out HIN.out HL.out
        rw [HFI.out] at h7
        exact ⟨⟨_, Af, cf, first, 0, 0, by rw [h9], by rw [h9]; exact h8.2, by rw [h9]; exact h8.1, h7⟩, HW.out⟩
     ·rw [inD_no hin] at hlk
      have HIN := aK hin
      clear hin
      go_wp2_with (first
       | ((with_reducible refine gate_store (t := 29) (p := 4) rfl ?_); refine put_event rfl rfl 29 (.tmp 4) (.tmp 115) rfl (g := g4) (off := 0) (u := .agg #[.slice none 0 0, .int .i64 0]) (seg := [.slice none 0 0, .int .i64 0]) rfl rfl HS.out.c4 rfl (by kernel_rfl) (Nat.le_refl _) (by simp [Value.oneCell']) ?_; intro wa hrow hg; have n1_ := aK (HS.out.put4 HG.out hrow hg); clear HS hrow hg; have HS := n1_; clear n1_)
       | ((with_reducible refine gate_store (t := 32) (p := 5) rfl ?_); refine put_event rfl rfl 32 (.tmp 5) (.tmp 116) rfl (g := g5) (off := 0) (u := .agg #[.int .i64 (0), .int .i64 (92)]) (seg := [.int .i64 (0), .int .i64 (92)]) rfl rfl HS.out.c5 rfl (by kernel_rfl) (Nat.le_refl _) (by simp [Value.oneCell']) ?_; intro wb hrow hg; have H5 := aK (show RowAt wb g5 32 [.int .i64 (0), .int .i64 (92)] from hrow); have H4 := aK (HS.out.c4.grown hg (by have := HG.out.h45; simp; omega)); have HW := aK (pw_below_grown HS.out.below _ HS.out.below.size hg (fun k hk => by cases hk; exact HG.out.b5)); clear HS hrow hg; have z0 : wb.cell? ⟨g4, 0, none⟩ = some (.slice none 0 0) := H4.out.cell 0; have z1 : wb.cell? ⟨g4, 1, none⟩ = some (.int .i64 0) := H4.out.cell 1; have z2 : wb.cell? ⟨g5, 0, none⟩ = some (.int .i64 (0)) := H5.out.cell 0; have z3 : wb.cell? ⟨g5, 1, none⟩ = some (.int .i64 (92)) := H5.out.cell 1))
      refine bodyPost_ret (v := .tuple #[.agg #[.slice none 0 0, .int .i64 0], .agg #[.int .i64 (0), .int .i64 (92)]]) (by simp [results, Tryd.results8, go_sem, z0, z1, z2, z3]) rfl ?_
      exact ⟨BuildE.fault (.start HIN.out), HW.out⟩
end
end Go.Proofs.YtihiicjnjhideaaDoor.Build
end
section
namespace Go.Proofs.YtihiicjnjhideaaDoor.Build
open Go.RowKit Go.Proofs.YtihiicjnjhideaaDoorW.PrintWords Go.Proofs.YtihiicjnjhideaaDoor.PAll Go.Proofs.YtihiicjnjhideaaDoor.Core
set_option linter.unusedVariables false
set_option linter.unusedSimpArgs false
section
variable (us : List EU) (rs : List ER) (start : ByteArray) (ts : List T) (Au Ar : Option Addr) (cu cr : Nat) (w0 : World)
theorem build_calls (hu : Kd.C kEU w0 Au us.length us) (hcu : us.length ≤ cu) (hr : Kd.C kER w0 Ar rs.length rs) (hcr : rs.length ≤ cr) (hfu : ∀ u ∈ us, u.f0.size ≤ 140737488351232) (hfit : ∀ r ∈ rs, FitR r) (hts : Checked rs → Trees rs ts) (hall : ∀ i, i < 4 → w0.cell? ⟨0, i, none⟩ = some (.int .u64 ff64)) :
  Calls Tryd.prog 8 #[.agg #[.slice Au us.length cu, .slice Ar rs.length cr], .string start] w0 fun e w' => BuildE w0 w' us rs start ts e ∧ Below w0.heap.size w0 w' := by
 obtain ⟨v, hv, hv2⟩ := check_any us rs hfu hfit
 by_cases h0 : v = 0
 ·have hck := hv2 h0
  rw [h0] at hv
  obtain ⟨b, hb, _⟩ := flat_any us rs hck.few hck.nodes
  cases b with
  | false => exact build_params us rs start ts Au Ar cu cr w0 hu hcu hr hcr hv hb
  | true => exact build_main us rs start ts Au Ar cu cr w0 hu hcu hr hcr hv hb hck hfit (hts hck) hall
 ·exact build_shape us rs start ts Au Ar cu cr w0 hu hcu hr hcr hv h0
theorem trees_any (rs : List ER) : ∃ ts, Checked rs → Trees rs ts := by
 by_cases h : Checked rs
 ·obtain ⟨ts, h1⟩ := trees_of h.good
  exact ⟨ts, fun _ => h1⟩
 ·exact ⟨[], fun h1 => absurd h1 h⟩
end
end Go.Proofs.YtihiicjnjhideaaDoor.Build
end
