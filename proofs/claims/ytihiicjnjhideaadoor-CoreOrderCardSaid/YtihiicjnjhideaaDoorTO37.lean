/- Parts of the proof of coreOrder: WorkNine, WorkWalk. No condition beyond each lemma's own. -/
import Derived.Test.YtihiicjnjhideaaDoorTO8
import Derived.Test.YtihiicjnjhideaaDoorTO17
import Derived.Test.YtihiicjnjhideaaDoorTO34
import Derived.Test.YtihiicjnjhideaaDoorTO36
section
namespace Go.Proofs.YtihiicjnjhideaaDoor.Build
open Go.RowKit Go.Proofs.YtihiicjnjhideaaDoorW.PrintWords Go.Proofs.YtihiicjnjhideaaDoor.PAll Go.Proofs.YtihiicjnjhideaaDoor.Core Go.Proofs.YtihiicjnjhideaaDoor.Names
set_option linter.unusedVariables false
set_option linter.unusedSimpArgs false
def zEN : EN := z51
def nmA : ByteArray := ⟨#[65]⟩
def nmB : ByteArray := ⟨#[66]⟩
def n1 : EN := { zEN with f0 := 1, f2 := ⟨#[97, 98]⟩ }
def n2 : EN := { zEN with f0 := 4, f2 := nmB }
def n3 : EN := { zEN with f0 := 8, f1 := 1 }
def n4 : EN := { zEN with f0 := 6, f1 := 2 }
def n5 : EN := { zEN with f0 := 3 }
def rsW : List ER := [⟨nmA, [], [n1, n2, n3, n4]⟩, ⟨nmB, [], [n5]⟩]
def tsW : List T := [.mk n4 [.mk n1 [], .mk n3 [.mk n2 []]], .mk n5 []]
def lA : List CN := [setN (litC false 97), setN (litC false 98), opN 4, { (z55 : CN) with f0 := 2, f2 := 1 }, opN 0, opN 5, opN 4]
def lB : List CN := [setN [ff64, ff64, ff64, ff64]]
def lW : List CR := [⟨nmA, lA⟩, ⟨nmB, lB⟩]
theorem ev_of {α : Type} {g : Nat → Option α} {K : Nat} {v : α} (h : g K = some v) (hm : ∀ k, LeO (g k) (g (k + 1))) : Ev g v := ⟨K, fun k hk => by
 obtain ⟨d, rfl⟩ : ∃ d, k = K + d := ⟨k - K, by omega⟩
 induction d with
 | zero => exact h
 | succ d ih => exact hm (K + d) v (ih (by omega))⟩
theorem layW : layR (placeN (namesOf rsW)) 16384 tsW = some [lA, lB] := by kernel_rfl
theorem checkW : Ev (fun k => script_Check.f k [] rsW) 0 := ev_of (K := 60) (by kernel_rfl) (fun k => script_Check.mono [] rsW k)
theorem flatW : Ev (fun k => macro_Flat.f k [] rsW) true := ev_of (K := 60) (by kernel_rfl) (fun k => macro_Flat.mono [] rsW k)
theorem ccheckW : Ev (fun k => core_Check.f k lW 1) 0 := ev_of (K := 60) (by kernel_rfl) (fun k => core_Check.mono lW 1 k)
theorem csizeW : Ev (fun k => core_Size.f k lW 1) 8 := ev_of (K := 60) (by kernel_rfl) (fun k => core_Size.mono lW 1 k)
theorem partsW : Ev (fun k => core_Parts.f k lA 6) (2, 5) := ev_of (K := 60) (by kernel_rfl) (fun k => core_Parts.mono lA 6 k)
theorem treesW : Trees rsW tsW := ⟨rfl, fun i r t hr ht => by
 match i, hr, ht with
 | 0, hr, ht => cases hr; cases ht; exact ⟨⟨rfl, ⟨rfl, trivial⟩, ⟨rfl, ⟨rfl, trivial⟩, trivial⟩, trivial⟩, rfl⟩
 | 1, hr, ht => cases hr; cases ht; exact ⟨⟨rfl, trivial⟩, rfl⟩
 | i + 2, hr, ht => cases hr⟩
theorem fitW : ∀ r ∈ rsW, FitR r := by
 intro r hr
 rcases List.mem_cons.1 hr with rfl | hr
 ·exact ⟨by decide, by simp, by decide, by decide⟩
 ·rcases List.mem_cons.1 hr with rfl | hr
  ·exact ⟨by decide, by simp, by decide, by decide⟩
  ·simp at hr
theorem outW {l : List CR} {s at_ code : Int} (h : Out [] rsW nmB tsW l s at_ code) : l = lW ∧ s = 1 ∧ at_ = 0 ∧ code = 0 := by
 have hne : nmA ≠ nmB := by decide
 cases h with
 | shape v h hv => exact absurd (h.det checkW) hv
 | params h => exact absurd (h.det flatW) (by decide)
 | twice i r hr h =>
  match i, hr, h with
  | 0, hr, h => simp [namesOf] at h
  | 1, hr, h => cases hr; simp [namesOf, rsW] at h; exact absurd h.symm hne
  | i + 2, hr, h => cases hr
 | unknown i r hr h =>
  refine absurd (fun x hx h4 => ?_) h
  match i, hr with
  | 0, hr =>
   cases hr
   simp at hx
   rcases hx with rfl | rfl | rfl | rfl
   ·cases h4
   ·exact List.mem_cons_of_mem _ (List.mem_cons_self ..)
   ·cases h4
   ·cases h4
  | 1, hr => cases hr; simp at hx; subst hx; cases h4
  | i + 2, hr => cases hr
 | start h => exact absurd (List.mem_cons_of_mem _ (List.mem_cons_self ..)) h
 | budget i hi h =>
  match i, hi, h with
  | 0, _, h => exact absurd h (by rw [show layR (placeN (namesOf rsW)) 16384 (tsW.take 1) = some [lA] by kernel_rfl]; simp)
  | 1, _, h => rw [show layR (placeN (namesOf rsW)) 16384 (tsW.take 2) = some [lA, lB] by kernel_rfl] at h; cases h
  | i + 2, hi, _ => simp [rsW] at hi; omega
 | built L h1 h2 h3 h4 h5 h6 =>
  rw [layW] at h6
  cases h6
  exact ⟨rfl, by kernel_rfl, rfl, rfl⟩
end Go.Proofs.YtihiicjnjhideaaDoor.Build
end
section
namespace Go.Proofs.YtihiicjnjhideaaDoor.Build
open Go.RowKit Go.Proofs.YtihiicjnjhideaaDoorW.PrintWords Go.Proofs.YtihiicjnjhideaaDoor.PAll Go.Proofs.YtihiicjnjhideaaDoor.Core Go.Proofs.YtihiicjnjhideaaDoor.Names
set_option linter.unusedVariables false
set_option linter.unusedSimpArgs false
section
variable {P : Program} {ops : Array Oper} {rest : List Oper} {o : Oper} {a : Act} {Q : Exit → Act → World → Prop}
/-- A row, laid out whole: the world gets a letter. -/
theorem lit_event {W : World} (hgd : o.guard = none) {cs : Array Value} {t : TypeId} (n : Nat)
  (hrun : (execOp a.eval o).run P W = .ok (.value (.slice (some ⟨W.heap.size, 0, none⟩) n n)) (W.alloc (.cells cs t (0, 0))))
  (h : ∀ g, g = W.heap.size → ∀ w1, w1.heap[g]? = some (.cells cs t (0, 0)) → Below W.heap.size W w1 → wpList P ops Q rest (a.put o.dst (.slice (some ⟨g, 0, none⟩) n n)) w1) : wpList P ops Q (o :: rest) a W :=
 Kd.event_run hgd hrun (h _ rfl _ (blk_new W _) (below_alloc (Below.refl _ _) _))
end
/-- A row reads as its elements. -/
theorem C_of_row {α : Type} {d : Kd α} {W : World} {g : Nat} {e : TypeId} {cs : List Value} {xs : List α} (h : RowAt W g e cs) (hl : xs.length ≤ 9223372036854775807) (hk : ∀ (j : Nat) (x : α), xs[j]? = some x → ∃ c, c.length = d.sz ∧ d.K W x c ∧ ∀ i u, c[i]? = some u → cs[j * d.sz + i]? = some u) : Kd.C d W (some ⟨g, 0, none⟩) xs.length xs := by
 refine ⟨rfl, hl, fun hp => ⟨_, rfl, fun j x hj => ?_⟩⟩
 obtain ⟨c, h1, h2, h3⟩ := hk j x hj
 refine ⟨c, h1, h2, fun i u hu => ?_⟩
 rw [Addr.add_lit, Nat.zero_add, h.cell]
 exact h3 i u hu
/-- A built rule's cells, and its body. -/
theorem cr_at {w : World} {A : Option Addr} {n i : Nat} {l : List CR} {x : CR} (h : Kd.C kCR w A n l) (hx : l[i]? = some x) : ∃ ad A1 c1, A = some ad ∧ w.cell? (ad.add (i * 2)) = some (.string x.f0) ∧ w.cell? ⟨(ad.add (i * 2)).block, (ad.add (i * 2)).off + 1, none⟩ = some (.slice A1 x.f1.length c1) ∧ x.f1.length ≤ c1 ∧ Kd.C kCN w A1 x.f1.length x.f1 := by
 have hi : i < n := by have := (List.getElem?_eq_some_iff.1 hx).1; rw [h.1] at this; exact this
 obtain ⟨ad, A1, c1, e1, h0, h1, h2, h3⟩ := at_T44 h (i : Int) (by omega) (by omega)
 have hr : rd_T44 l (i : Int) = x := by
  show l.getD (i : Int).toNat _ = x
  rw [Int.toNat_natCast, List.getD_eq_getElem?_getD, hx]
  rfl
 rw [hr] at h0 h1 h2 h3
 rw [Int.toNat_natCast] at h0 h1
 exact ⟨ad, A1, c1, e1, h0, h1, h2, h3⟩
theorem cn_at {w : World} {A : Option Addr} {n i : Nat} {l : List CN} {x : CN} (h : Kd.C kCN w A n l) (hx : l[i]? = some x) : ∃ ad, A = some ad ∧ w.cell? (ad.add (i * 7)) = some (.int .i64 x.f0) ∧ w.cell? ⟨(ad.add (i * 7)).block, (ad.add (i * 7)).off + 5, none⟩ = some (.int .i64 x.f2) := by
 have hi : i < n := by have := (List.getElem?_eq_some_iff.1 hx).1; rw [h.1] at this; exact this
 obtain ⟨ad, e1, h0, h1, h2, h3, h4, h5, h6⟩ := at_T55 h (i : Int) (by omega) (by omega)
 have hr : rd_T55 l (i : Int) = x := by
  show l.getD (i : Int).toNat _ = x
  rw [Int.toNat_natCast, List.getD_eq_getElem?_getD, hx]
  rfl
 rw [hr] at h0 h5
 rw [Int.toNat_natCast] at h0 h5
 exact ⟨ad, e1, h0, h5⟩
theorem idx_cr (ad : Addr) (n m i : Nat) (hi : i < n) (W : World) : (Instr.indexAt 27 (.slice (some ad) n m) (.int .i64 (i : Int))).run Tryd.prog W = .ok (.pointer (some (ad.add (i * 2)))) W := by
 have h1 : (0 : Int) ≤ (i : Int) ∧ (i : Int) < (n : Int) := by omega
 have hs : (sizeOf 44).run Tryd.prog W = .ok 2 W := by kernel_rfl
 simp only [Instr.indexAt, asIntOf, Sem.run_bind, Sem.run_pure, Result.andThen_ok, run_underlying Tryd.underlying27, if_pos h1, hs, Int.toNat_natCast]
theorem idx_cn (ad : Addr) (n m i : Nat) (hi : i < n) (W : World) : (Instr.indexAt 42 (.slice (some ad) n m) (.int .i64 (i : Int))).run Tryd.prog W = .ok (.pointer (some (ad.add (i * 7)))) W := by
 have h1 : (0 : Int) ≤ (i : Int) ∧ (i : Int) < (n : Int) := by omega
 have hs : (sizeOf 55).run Tryd.prog W = .ok 7 W := by kernel_rfl
 simp only [Instr.indexAt, asIntOf, Sem.run_bind, Sem.run_pure, Result.andThen_ok, run_underlying Tryd.underlying42, if_pos h1, hs, Int.toNat_natCast]
theorem nodes_C {W : World} {g : Nat} {l : List EN} (h : RowAt W g 51 (l.flatMap enCells)) (hl : l.length ≤ 4096) : Kd.C kEN W (some ⟨g, 0, none⟩) l.length l :=
 C_of_row h (by omega) (fun j x hj => ⟨enCells x, rfl, k51_mk W x, fun i u hu => by
  have hi : i < 10 := (List.getElem?_eq_some_iff.1 hu).1
  rw [show kEN.sz = 10 from rfl]
  exact (flat10 l j i x hj hi).trans hu⟩)
where
 flat10 : ∀ (l : List EN) (j i : Nat) (x : EN), l[j]? = some x → i < 10 → (l.flatMap enCells)[j * 10 + i]? = (enCells x)[i]?
  | [], j, i, x, h, _ => by simp at h
  | p :: l, 0, i, x, h, hi => by
   have : p = x := by simpa using h
   subst this
   rw [List.flatMap_cons, Nat.zero_mul, Nat.zero_add, List.getElem?_append_left (by exact hi)]
  | p :: l, j + 1, i, x, h, hi => by
   rw [List.flatMap_cons, List.getElem?_append_right (by show 10 ≤ _; omega), show (j + 1) * 10 + i - (enCells p).length = j * 10 + i by show (j + 1) * 10 + i - 10 = _; omega]
   exact flat10 l j i x (by simpa using h) hi
end Go.Proofs.YtihiicjnjhideaaDoor.Build
end
