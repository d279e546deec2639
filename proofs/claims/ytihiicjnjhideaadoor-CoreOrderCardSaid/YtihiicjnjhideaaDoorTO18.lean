/- Parts of the proof of coreOrder: BuildLong, BuildFlat, BuildCut, BuildSizes, BuildJoin, BuildRow, BuildPerh. No condition beyond each lemma's own. -/
import Derived.Test.YtihiicjnjhideaaDoorTO5
import Derived.Test.YtihiicjnjhideaaDoorTO8
import Derived.Test.YtihiicjnjhideaaDoorTO9
import Derived.Test.YtihiicjnjhideaaDoorTO15
import Derived.Test.YtihiicjnjhideaaDoorTO16
import Derived.Test.YtihiicjnjhideaaDoorTO17
section
namespace Go.Proofs.YtihiicjnjhideaaDoor.Build
open Go.RowKit Go.Proofs.YtihiicjnjhideaaDoorW.PrintWords Go.Proofs.YtihiicjnjhideaaDoor.PAll Go.Proofs.YtihiicjnjhideaaDoor.Core Go.Proofs.YtihiicjnjhideaaDoor.Names
set_option linter.unusedVariables false
set_option linter.unusedSimpArgs false
abbrev ER := S40
def nodesOf : List ER → Nat
 | [] => 0
 | r :: l => r.f2.length + nodesOf l
theorem nodes_mem : ∀ (l : List ER) (r : ER), r ∈ l → r.f2.length ≤ nodesOf l
 | x :: l, r, h => by
  rw [nodesOf]
  rcases List.mem_cons.1 h with rfl | h
  ·omega
  ·have := nodes_mem l r h; omega
section
variable (us : List (S79)) (rs : List ER) (hb : ∀ r ∈ rs, r.f2.length ≤ 140737488355328)
theorem nodes_drop : ∀ (l : List ER) (i : Nat) (r : ER), l[i]? = some r → nodesOf (l.drop i) = r.f2.length + nodesOf (l.drop (i + 1)) := by
 intro l i r h
 obtain ⟨hlt, hr⟩ := List.getElem?_eq_some_iff.1 h
 rw [List.drop_eq_getElem_cons hlt, nodesOf, hr]
include hb in
theorem long_loop (hn : rs.length ≤ 256) : ∀ (d i s : Nat), i + d = rs.length → s + nodesOf (rs.drop i) = nodesOf rs → s ≤ i * 140737488355328 → Ev (fun k => script_long.l0 k (s : Int) rs (rs.length : Int) (i : Int)) (decide (nodesOf rs > 4096))
 | 0, i, s, hi, hs, hs2 => by
  have h0 : nodesOf (rs.drop i) = 0 := by rw [List.drop_of_length_le (by omega)]; rfl
  refine Ev.step (fun _ => by rw [script_long.l0]) ?_
  refine Ev.neg (by omega) (Ev.some_ ?_)
  rw [show nodesOf rs = s by omega]
  by_cases h : s > 4096
  ·rw [decide_eq_true h, decide_eq_true (by omega)]
  ·rw [decide_eq_false h, decide_eq_false (by omega)]
 | d + 1, i, s, hi, hs, hs2 => by
  have hlt : i < rs.length := by omega
  obtain ⟨r, hr⟩ : ∃ r, rs[i]? = some r := ⟨_, List.getElem?_eq_getElem hlt⟩
  have hb2 := hb r (List.mem_of_getElem? hr)
  have hd := nodes_drop rs i r hr
  have hrd := aK (show rd_T40 rs (i : Int) = r by rw [rd_T40, Int.toNat_natCast, List.getD_eq_getElem?_getD, hr]; rfl)
  have hw := aK (show wrap64 ((i : Int) + 1) = ((i + 1 : Nat) : Int) by rw [w64] <;> omega)
  have hws := aK (show wrap64 ((s : Int) + (r.f2.length : Int)) = ((s + r.f2.length : Nat) : Int) by rw [w64] <;> omega)
  refine Ev.step (fun _ => by rw [script_long.l0]) ?_
  refine Ev.pos (by omega) (Ev.pos (by omega) (Ev.pos (by omega) ?_))
  rw [hrd.out, hw.out, hws.out]
  exact long_loop hn d (i + 1) (s + r.f2.length) (by omega) (by omega) (by omega)
include hb in
theorem long_any : ∃ v, Ev (fun k => script_long.f k us rs) v ∧ (v = false → us.length ≤ 64 ∧ rs.length ≤ 256 ∧ nodesOf rs ≤ 4096) := by
 unfold script_long.f
 by_cases hu : (us.length : Int) > 64
 ·refine ⟨true, Ev.pos hu ?_, fun h => by cases h⟩
  refine Ev.step (fun _ => by rw [script_long.j0]) ?_
  exact Ev.pos rfl (Ev.some_ rfl)
 ·by_cases hn : (rs.length : Int) > 256
  ·refine ⟨true, Ev.neg hu ?_, fun h => by cases h⟩
   refine Ev.step (fun _ => by rw [script_long.j0]) ?_
   exact Ev.pos (decide_eq_true hn) (Ev.some_ rfl)
  ·refine ⟨decide (nodesOf rs > 4096), Ev.neg hu ?_, fun h => ⟨by omega, by omega, by have := of_decide_eq_false h; omega⟩⟩
   refine Ev.step (fun _ => by rw [script_long.j0]) ?_
   refine Ev.neg (by simp; omega) ?_
   exact long_loop rs hb (by omega) rs.length 0 0 (by omega) (by rw [List.drop_zero]; omega) (by omega)
end
/-- It answers, and its nought says P. -/
def EvQ (g : Nat → Option Int) (P : Prop) : Prop := ∃ v, Ev g v ∧ (v = 0 → P)
theorem EvQ.ite {c : Prop} [Decidable c] {g f : Nat → Option Int} {P : Prop} (h : c → EvQ g P) (k : ¬ c → EvQ f P) : EvQ (fun n => if c then g n else f n) P := by
 by_cases hc : c
 ·obtain ⟨v, h1, h2⟩ := h hc; exact ⟨v, Ev.pos hc h1, h2⟩
 ·obtain ⟨v, h1, h2⟩ := k hc; exact ⟨v, Ev.neg hc h1, h2⟩
theorem EvQ.no {c : Int} {P : Prop} (h : c ≠ 0) : EvQ (fun _ => some c) P := ⟨c, Ev.some_ rfl, fun e => absurd e h⟩
theorem EvQ.yes {c : Int} {P : Prop} (h : P) : EvQ (fun _ => some c) P := ⟨c, Ev.some_ rfl, fun _ => h⟩
theorem EvQ.step {g f : Nat → Option Int} {P : Prop} (h : ∀ n, g (n + 1) = f n) (k : EvQ f P) : EvQ g P := by
 obtain ⟨v, h1, h2⟩ := k; exact ⟨v, Ev.step h h1, h2⟩
theorem EvQ.bind {α : Type} {g : Nat → Option α} {t : α} {f : Nat → α → Option Int} {P : Prop} (h : Ev g t) (k : EvQ (fun n => f n t) P) : EvQ (fun n => (g n).bind (f n)) P := by
 obtain ⟨v, h1, h2⟩ := k; exact ⟨v, Ev.bind h h1, h2⟩
theorem EvQ.andThen {g : Nat → Option Bool} {f : Nat → Bool → Option Int} {P Q : Prop} (h : EvP g P) (k : (P → EvQ (fun n => f n true) Q)) (k2 : EvQ (fun n => f n false) Q) : EvQ (fun n => (g n).bind (f n)) Q := by
 obtain ⟨v, h1, h2⟩ := h
 cases v with
 | true =>
  obtain ⟨u, h3, h4⟩ := k (h2 rfl)
  exact ⟨u, Ev.bind h1 h3, h4⟩
 | false =>
  obtain ⟨u, h3, h4⟩ := k2
  exact ⟨u, Ev.bind h1 h3, h4⟩
/-- What fits into a machine. -/
structure FitR (r : ER) : Prop where
 name : r.f0.size ≤ 140737488351232
 params : ∀ p ∈ r.f1, p.size ≤ 140737488351232
 texts : ∀ x ∈ r.f2, x.f2.size ≤ 140737488351232
 len : r.f2.length ≤ 140737488355328
structure GoodR (r : ER) : Prop where
 name : isName r.f0.data.toList = true
 body : Shaped r.f2
section
variable (us : List (S79)) (rs : List ER) (hf : ∀ r ∈ rs, FitR r) (P : Prop)
theorem check2 (hn : rs.length ≤ 256) (hs : nodesOf rs ≤ 4096) (hP : P) : ∀ (d i : Nat), i + d = rs.length → EvQ (fun k => script_Check.l2 k rs (rs.length : Int) (i : Int)) P
 | 0, i, hi => by
  refine EvQ.step (fun _ => by rw [script_Check.l2]) ?_
  exact EvQ.ite (fun h => by omega) (fun _ => EvQ.yes hP)
 | d + 1, i, hi => by
  have hlt : i < rs.length := by omega
  obtain ⟨r, hr⟩ : ∃ r, rs[i]? = some r := ⟨_, List.getElem?_eq_getElem hlt⟩
  have hm := nodes_mem rs r (List.mem_of_getElem? hr)
  have hrd := aK (show rd_T40 rs (i : Int) = r by rw [rd_T40, Int.toNat_natCast, List.getD_eq_getElem?_getD, hr]; rfl)
  have hw := aK (show wrap64 ((i : Int) + 1) = ((i + 1 : Nat) : Int) by rw [w64] <;> omega)
  obtain ⟨v, hv⟩ := nest_any r.f2 (by omega)
  refine EvQ.step (fun _ => by rw [script_Check.l2]) ?_
  refine EvQ.ite (fun _ => ?_) (fun h => absurd (show (i : Int) < rs.length by omega) h)
  refine EvQ.ite (fun _ => ?_) (fun h => absurd (show (0 : Int) ≤ i by omega) h)
  refine EvQ.ite (fun _ => ?_) (fun h => absurd (show (i : Int) < rs.length by omega) h)
  rw [hrd.out, hw.out]
  refine EvQ.bind hv ?_
  refine EvQ.ite (fun _ => EvQ.no (by decide)) (fun _ => ?_)
  exact check2 hn hs hP d (i + 1) (by omega)
include hf in
theorem check1 (hn : rs.length ≤ 256) (hs : nodesOf rs ≤ 4096) (hP : (∀ r ∈ rs, GoodR r) → P) : ∀ (d i : Nat), i + d = rs.length → (∀ j r, j < i → rs[j]? = some r → GoodR r) → EvQ (fun k => script_Check.l1 k rs (rs.length : Int) (i : Int) us rs) P
 | 0, i, hi, hg => by
  refine EvQ.step (fun _ => by rw [script_Check.l1]) ?_
  refine EvQ.ite (fun h => by omega) (fun _ => ?_)
  refine check2 rs P hn hs (hP (fun r hr => ?_)) rs.length 0 (by omega)
  obtain ⟨j, hj, rfl⟩ := List.mem_iff_getElem.1 hr
  exact hg j _ (by omega) (List.getElem?_eq_getElem hj)
 | d + 1, i, hi, hg => by
  have hlt : i < rs.length := by omega
  obtain ⟨r, hr⟩ : ∃ r, rs[i]? = some r := ⟨_, List.getElem?_eq_getElem hlt⟩
  have hm := nodes_mem rs r (List.mem_of_getElem? hr)
  have hfr := hf r (List.mem_of_getElem? hr)
  have hrd := aK (show rd_T40 rs (i : Int) = r by rw [rd_T40, Int.toNat_natCast, List.getD_eq_getElem?_getD, hr]; rfl)
  have hw := aK (show wrap64 ((i : Int) + 1) = ((i + 1 : Nat) : Int) by rw [w64] <;> omega)
  refine EvQ.step (fun _ => by rw [script_Check.l1]) ?_
  refine EvQ.ite (fun _ => ?_) (fun h => absurd (show (i : Int) < rs.length by omega) h)
  refine EvQ.ite (fun _ => ?_) (fun h => absurd (show (0 : Int) ≤ i by omega) h)
  refine EvQ.ite (fun _ => ?_) (fun h => absurd (show (i : Int) < rs.length by omega) h)
  rw [hrd.out, hw.out]
  refine EvQ.andThen (headed_any r.f0 r.f1 r.f2 hfr.params hfr.name) (fun h1 => ?_) (EvQ.ite (fun h => by simp at h) (fun _ => EvQ.no (by decide)))
  refine EvQ.ite (fun _ => ?_) (fun h => absurd rfl h)
  refine EvQ.andThen (shaped_any r.f2 (by omega) hfr.texts) (fun h2 => ?_) (EvQ.ite (fun h => by simp at h) (fun _ => EvQ.no (by decide)))
  refine EvQ.ite (fun _ => ?_) (fun h => absurd rfl h)
  refine check1 hn hs hP d (i + 1) (by omega) (fun j y hj hy => ?_)
  rcases Nat.lt_or_ge j i with h | h
  ·exact hg j y h hy
  ·obtain rfl : j = i := by omega
   rw [hr] at hy
   cases hy
   exact ⟨h1, h2⟩
include hf in
theorem check0 (hu : ∀ u ∈ us, u.f0.size ≤ 140737488351232) (hul : us.length ≤ 64) (hn : rs.length ≤ 256) (hs : nodesOf rs ≤ 4096) (hP : (∀ r ∈ rs, GoodR r) → P) : ∀ (d i : Nat), i + d = us.length → EvQ (fun k => script_Check.l0 k us (us.length : Int) (i : Int) us rs) P
 | 0, i, hi => by
  refine EvQ.step (fun _ => by rw [script_Check.l0]) ?_
  refine EvQ.ite (fun h => by omega) (fun _ => ?_)
  exact check1 us rs hf P hn hs hP rs.length 0 (by omega) (fun j r hj => by omega)
 | d + 1, i, hi => by
  have hlt : i < us.length := by omega
  obtain ⟨u, hr⟩ : ∃ u, us[i]? = some u := ⟨_, List.getElem?_eq_getElem hlt⟩
  have hrd := aK (show rd_T79 us (i : Int) = u by rw [rd_T79, Int.toNat_natCast, List.getD_eq_getElem?_getD, hr]; rfl)
  have hw := aK (show wrap64 ((i : Int) + 1) = ((i + 1 : Nat) : Int) by rw [w64] <;> omega)
  refine EvQ.step (fun _ => by rw [script_Check.l0]) ?_
  refine EvQ.ite (fun _ => ?_) (fun h => absurd (show (i : Int) < us.length by omega) h)
  refine EvQ.ite (fun _ => ?_) (fun h => absurd (show (0 : Int) ≤ i by omega) h)
  refine EvQ.ite (fun _ => ?_) (fun h => absurd (show (i : Int) < us.length by omega) h)
  rw [hrd.out, hw.out]
  refine EvQ.bind (sown_ev u.f0 (hu u (List.mem_of_getElem? hr))) ?_
  refine EvQ.ite (fun _ => ?_) (fun _ => EvQ.no (by decide))
  refine EvQ.ite (fun _ => EvQ.no (by decide)) (fun _ => ?_)
  refine EvQ.ite (fun _ => EvQ.no (by decide)) (fun _ => ?_)
  exact check0 hu hul hn hs hP d (i + 1) (by omega)
end
/-- What script's Check says yes to. -/
structure Checked (rs : List ER) : Prop where
 pos : 1 ≤ rs.length
 few : rs.length ≤ 256
 nodes : nodesOf rs ≤ 4096
 good : ∀ r ∈ rs, GoodR r
theorem check_any (us : List (S79)) (rs : List ER) (hu : ∀ u ∈ us, u.f0.size ≤ 140737488351232) (hf : ∀ r ∈ rs, FitR r) : EvQ (fun k => script_Check.f k us rs) (Checked rs) := by
 obtain ⟨v, h1, h2⟩ := long_any us rs (fun r hr => (hf r hr).len)
 unfold script_Check.f
 refine EvQ.bind h1 ?_
 refine EvQ.ite (fun _ => EvQ.no (by decide)) (fun hv => ?_)
 obtain ⟨p1, p2, p3⟩ := h2 (by simpa using hv)
 refine EvQ.ite (fun _ => EvQ.no (by decide)) (fun h0 => ?_)
 exact check0 us rs hf _ hu p1 p2 p3 (fun hg => ⟨by omega, p2, p3, hg⟩) us.length 0 (by omega)
end Go.Proofs.YtihiicjnjhideaaDoor.Build
end
section
namespace Go.Proofs.YtihiicjnjhideaaDoor.Build
open Go.RowKit Go.Proofs.YtihiicjnjhideaaDoorW.PrintWords Go.Proofs.YtihiicjnjhideaaDoor.PAll Go.Proofs.YtihiicjnjhideaaDoor.Core Go.Proofs.YtihiicjnjhideaaDoor.Names
set_option linter.unusedVariables false
set_option linter.unusedSimpArgs false
structure FlatR (r : ER) : Prop where
 none_ : r.f1 = []
 plain : ∀ x ∈ r.f2, x.f0 = 4 → x.f1 ≤ 0
section
variable (us : List (S79)) (rs : List ER) (hn : rs.length ≤ 256) (hs : nodesOf rs ≤ 4096)
theorem flat1 (i : Nat) (r : ER) (hl : r.f2.length ≤ 4096) (P : Prop) (hnext : (∀ x ∈ r.f2, x.f0 = 4 → x.f1 ≤ 0) → EvP (fun k => macro_Flat.l0 k rs (rs.length : Int) (wrap64 ((i : Int) + 1))) P) : ∀ (d j : Nat), j + d = r.f2.length → (∀ q x, q < j → r.f2[q]? = some x → x.f0 = 4 → x.f1 ≤ 0) → EvP (fun k => macro_Flat.l1 k rs (rs.length : Int) (i : Int) r.f2 (r.f2.length : Int) (j : Int)) P
 | 0, j, hj, hq => by
  refine EvP.step (fun _ => by rw [macro_Flat.l1]) ?_
  refine EvP.ite (fun h => by omega) (fun _ => hnext (fun x hx => ?_))
  obtain ⟨q, hqq, rfl⟩ := List.mem_iff_getElem.1 hx
  exact hq q _ (by omega) (List.getElem?_eq_getElem hqq)
 | d + 1, j, hj, hq => by
  have hlt : j < r.f2.length := by omega
  obtain ⟨x, hx⟩ : ∃ x, r.f2[j]? = some x := ⟨_, List.getElem?_eq_getElem hlt⟩
  have hrd := aK (show rd_T51 r.f2 (j : Int) = x by rw [rd_T51, Int.toNat_natCast, List.getD_eq_getElem?_getD, hx]; rfl)
  have hw := aK (show wrap64 ((j : Int) + 1) = ((j + 1 : Nat) : Int) by rw [w64] <;> omega)
  have go : (x.f0 = 4 → x.f1 ≤ 0) → EvP (fun k => macro_Flat.l1 k rs (rs.length : Int) (i : Int) r.f2 (r.f2.length : Int) ((j + 1 : Nat) : Int)) P := fun h0 => by
   refine flat1 i r hl P hnext d (j + 1) (by omega) (fun q y hqj hy => ?_)
   rcases Nat.lt_or_ge q j with h | h
   ·exact hq q y h hy
   ·obtain rfl : q = j := by omega
    rw [hx] at hy
    cases hy
    exact h0
  refine EvP.step (fun _ => by rw [macro_Flat.l1]) ?_
  refine EvP.ite (fun _ => ?_) (fun h => absurd (show (j : Int) < r.f2.length by omega) h)
  refine EvP.ite (fun _ => ?_) (fun h => absurd (show (0 : Int) ≤ j by omega) h)
  refine EvP.ite (fun _ => ?_) (fun h => absurd (show (j : Int) < r.f2.length by omega) h)
  rw [hrd.out, hw.out]
  refine EvP.ite (fun h4 => ?_) (fun h4 => go (fun h => absurd h h4))
  exact EvP.ite (fun _ => EvP.no) (fun h5 => go (fun _ => by omega))
include hn hs in
theorem flat0 : ∀ (d i : Nat), i + d = rs.length → (∀ j r, j < i → rs[j]? = some r → FlatR r) → EvP (fun k => macro_Flat.l0 k rs (rs.length : Int) (i : Int)) (∀ r ∈ rs, FlatR r)
 | 0, i, hi, hg => by
  refine EvP.step (fun _ => by rw [macro_Flat.l0]) ?_
  refine EvP.ite (fun h => by omega) (fun _ => EvP.yes (fun r hr => ?_))
  obtain ⟨j, hj, rfl⟩ := List.mem_iff_getElem.1 hr
  exact hg j _ (by omega) (List.getElem?_eq_getElem hj)
 | d + 1, i, hi, hg => by
  have hlt : i < rs.length := by omega
  obtain ⟨r, hr⟩ : ∃ r, rs[i]? = some r := ⟨_, List.getElem?_eq_getElem hlt⟩
  have hm := nodes_mem rs r (List.mem_of_getElem? hr)
  have hrd := aK (show rd_T40 rs (i : Int) = r by rw [rd_T40, Int.toNat_natCast, List.getD_eq_getElem?_getD, hr]; rfl)
  have hw := aK (show wrap64 ((i : Int) + 1) = ((i + 1 : Nat) : Int) by rw [w64] <;> omega)
  refine EvP.step (fun _ => by rw [macro_Flat.l0]) ?_
  refine EvP.ite (fun _ => ?_) (fun h => absurd (show (i : Int) < rs.length by omega) h)
  refine EvP.ite (fun _ => ?_) (fun h => absurd (show (0 : Int) ≤ i by omega) h)
  refine EvP.ite (fun _ => ?_) (fun h => absurd (show (i : Int) < rs.length by omega) h)
  rw [hrd.out]
  refine EvP.ite (fun _ => EvP.no) (fun h1 => ?_)
  have hp : r.f1 = [] := List.length_eq_zero_iff.1 (by omega)
  refine flat1 rs i r (by omega) _ (fun hx => ?_) r.f2.length 0 (by omega) (fun q x hq => by omega)
  rw [hw.out]
  refine flat0 d (i + 1) (by omega) (fun j y hj hy => ?_)
  rcases Nat.lt_or_ge j i with h | h
  ·exact hg j y h hy
  ·obtain rfl : j = i := by omega
   rw [hr] at hy
   cases hy
   exact ⟨hp, hx⟩
include hn hs in
theorem flat_any : EvP (fun k => macro_Flat.f k us rs) (∀ r ∈ rs, FlatR r) := by
 unfold macro_Flat.f
 exact flat0 rs hn hs rs.length 0 (by omega) (fun j r hj => by omega)
end
end Go.Proofs.YtihiicjnjhideaaDoor.Build
end
section
namespace Go.Proofs.YtihiicjnjhideaaDoor.Build
open Go.RowKit Go.Proofs.YtihiicjnjhideaaDoorW.PrintWords Go.Proofs.YtihiicjnjhideaaDoor.PAll Go.Proofs.YtihiicjnjhideaaDoor.Core
set_option linter.unusedVariables false
set_option linter.unusedSimpArgs false
theorem C_cut {α : Type} {d : Kd α} {w : World} {ad : Addr} {n a b : Nat} {xs : List α} (h : Kd.C d w (some ad) n xs) (hab : a ≤ b) (hb : b ≤ n) : Kd.C d w (some (ad.add (a * d.sz))) (b - a) ((xs.drop a).take (b - a)) := by
 obtain ⟨h1, h2, h3⟩ := h
 refine ⟨by rw [List.length_take, List.length_drop]; omega, by omega, fun hp => ⟨_, rfl, fun j p hj => ?_⟩⟩
 obtain ⟨ad', e1, h4⟩ := h3 (by omega)
 cases e1
 have hj2 : j < b - a := by have := (List.getElem?_eq_some_iff.1 hj).1; rw [List.length_take] at this; omega
 rw [List.getElem?_take, if_pos hj2, List.getElem?_drop] at hj
 obtain ⟨cs, c1, c2, c3⟩ := h4 (a + j) p hj
 refine ⟨cs, c1, c2, fun i u hu => ?_⟩
 have := c3 i u hu
 rwa [show (ad.add (a * d.sz)).add (j * d.sz + i) = ad.add ((a + j) * d.sz + i) from by rw [Addr.add_add, Nat.add_mul, Nat.add_assoc]]
/-- How many nodes parts have, together. -/
def lenF (ps : List T) : Nat := (flatF ps).length
theorem lenF_cons (t : T) (ps : List T) : lenF (t :: ps) = (flatT t).length + lenF ps := by rw [lenF, flatF, List.length_append]; rfl
theorem lenF_append (a b : List T) : lenF (a ++ b) = lenF a + lenF b := by rw [lenF, flatF_append, List.length_append]; rfl
/-- The k-th part stands behind the ones ahead of it. -/
theorem part_seg (ps : List T) (n : EN) (k : Nat) (t : T) (h : ps[k]? = some t) : seg (flatT (.mk n ps)) (lenF (ps.take k)) (lenF (ps.take (k + 1))) = flatT t := by
 have e1 : ps = ps.take k ++ t :: ps.drop (k + 1) := by
  obtain ⟨hlt, rfl⟩ := List.getElem?_eq_some_iff.1 h
  rw [← List.drop_eq_getElem_cons hlt, List.take_append_drop]
 have e2 : ps.take (k + 1) = ps.take k ++ [t] := by rw [List.take_add_one, h]; rfl
 have e3 : flatT (.mk n ps) = flatF (ps.take k) ++ (flatT t ++ (flatF (ps.drop (k + 1)) ++ [n])) := by
  rw [flatT]
  conv => lhs; rw [e1]
  rw [flatF_append, flatF]
  simp
 rw [e2, lenF_append, e3]
 unfold seg
 rw [show lenF (ps.take k) + lenF [t] - lenF (ps.take k) = (flatT t).length by rw [lenF_cons]; simp [lenF, flatF], show lenF (ps.take k) = (flatF (ps.take k)).length from rfl, List.drop_left, List.take_left]
end Go.Proofs.YtihiicjnjhideaaDoor.Build
end
section
namespace Go.Proofs.YtihiicjnjhideaaDoor.Build
open Go.RowKit Go.Proofs.YtihiicjnjhideaaDoorW.PrintWords Go.Proofs.YtihiicjnjhideaaDoor.PAll Go.Proofs.YtihiicjnjhideaaDoor.Core
set_option linter.unusedVariables false
set_option linter.unusedSimpArgs false
mutual
def szsT : T → List Nat
 | .mk n ps => szsF ps ++ [(flatF ps).length + 1]
def szsF : List T → List Nat
 | [] => []
 | t :: ts => szsT t ++ szsF ts
end
mutual
theorem szsT_len : ∀ t : T, (szsT t).length = (flatT t).length
 | .mk n ps => by rw [szsT, flatT, List.length_append, List.length_append, szsF_len ps]; rfl
theorem szsF_len : ∀ ps : List T, (szsF ps).length = (flatF ps).length
 | [] => rfl
 | t :: ts => by rw [szsF, flatF, List.length_append, List.length_append, szsT_len t, szsF_len ts]
end
theorem szsF_append : ∀ a b : List T, szsF (a ++ b) = szsF a ++ szsF b
 | [], b => rfl
 | t :: a, b => by rw [List.cons_append, szsF, szsF, szsF_append a b, List.append_assoc]
theorem lenF_nil : lenF [] = 0 := rfl
theorem split_at {ps : List T} {k : Nat} {t : T} (h : ps[k]? = some t) : ps = ps.take k ++ t :: ps.drop (k + 1) := by
 obtain ⟨hlt, rfl⟩ := List.getElem?_eq_some_iff.1 h
 rw [← List.drop_eq_getElem_cons hlt, List.take_append_drop]
theorem lenF_split {ps : List T} {k : Nat} {t : T} (h : ps[k]? = some t) : lenF ps = lenF (ps.take k) + (flatT t).length + lenF (ps.drop (k + 1)) := by
 conv => lhs; rw [split_at h]
 rw [lenF_append, lenF_cons]
 omega
theorem szsT_last (t : T) : (szsT t)[(flatT t).length - 1]? = some (flatT t).length := by
 cases t with
 | mk n ps =>
  rw [szsT, flatT, List.length_append, List.length_singleton, Nat.add_sub_cancel, ← szsF_len, List.getElem?_append_right (Nat.le_refl _)]
  simp
/-- At the end of the k-th part stands its size. -/
theorem szsF_at {ps : List T} {k : Nat} {t : T} (h : ps[k]? = some t) : (szsF ps)[lenF (ps.take k) + (flatT t).length - 1]? = some (flatT t).length := by
 have hp := flatT_pos t
 have e : (szsF (ps.take k)).length = lenF (ps.take k) := szsF_len _
 rw [show szsF ps = szsF (ps.take k) ++ (szsT t ++ szsF (ps.drop (k + 1))) by conv => lhs; rw [split_at h, szsF_append, szsF]]
 rw [List.getElem?_append_right (by omega), e, List.getElem?_append_left (by rw [szsT_len]; omega), show lenF (ps.take k) + (flatT t).length - 1 - lenF (ps.take k) = (flatT t).length - 1 by omega]
 exact szsT_last t
/-- What stands at a place: a node, its parts' sizes behind it. -/
def SzAt (e : List EN) (sz : List Nat) (i : Nat) : Prop := ∃ (x : EN) (ps : List T), e[i]? = some x ∧ x.f1 = (ps.length : Int) ∧ sz[i]? = some (lenF ps + 1) ∧ lenF ps ≤ i ∧ ∀ (k : Nat) (t : T), ps[k]? = some t → sz[i - (lenF (ps.drop (k + 1)) + 1)]? = some (flatT t).length
theorem SzAt.front {e : List EN} {sz : List Nat} {i : Nat} (h : SzAt e sz i) (e' : List EN) (sz' : List Nat) : SzAt (e ++ e') (sz ++ sz') i := by
 obtain ⟨x, ps, h1, h2, h3, h4, h5⟩ := h
 have l1 := (List.getElem?_eq_some_iff.1 h1).1
 have l3 := (List.getElem?_eq_some_iff.1 h3).1
 refine ⟨x, ps, by rw [List.getElem?_append_left l1]; exact h1, h2, by rw [List.getElem?_append_left l3]; exact h3, h4, fun k t hk => ?_⟩
 have := h5 k t hk
 rw [List.getElem?_append_left (List.getElem?_eq_some_iff.1 this).1]
 exact this
theorem SzAt.back {e : List EN} {sz : List Nat} {i : Nat} (h : SzAt e sz i) (e' : List EN) (sz' : List Nat) (hl : sz'.length = e'.length) : SzAt (e' ++ e) (sz' ++ sz) (e'.length + i) := by
 obtain ⟨x, ps, h1, h2, h3, h4, h5⟩ := h
 refine ⟨x, ps, by rw [List.getElem?_append_right (by omega), show e'.length + i - e'.length = i by omega]; exact h1, h2, by rw [List.getElem?_append_right (by omega), show e'.length + i - sz'.length = i by omega]; exact h3, by omega, fun k t hk => ?_⟩
 have hs := lenF_split hk
 have hp := flatT_pos t
 rw [List.getElem?_append_right (by omega), show e'.length + i - (lenF (ps.drop (k + 1)) + 1) - sz'.length = i - (lenF (ps.drop (k + 1)) + 1) by omega]
 exact h5 k t hk
mutual
theorem szT_at : ∀ (t : T), wfT t → ∀ i, i < (flatT t).length → SzAt (flatT t) (szsT t) i
 | .mk n ps, hw, i, hi => by
  rw [wfT] at hw
  rw [flatT, List.length_append, List.length_singleton] at hi
  rw [flatT, szsT]
  rcases Nat.lt_or_ge i (flatF ps).length with h | h
  ·exact (szF_at ps hw.2 i h).front _ _
  ·have hi2 : i = lenF ps := by have : lenF ps = (flatF ps).length := rfl; omega
   have hl : (szsF ps).length = lenF ps := szsF_len ps
   have hf : (flatF ps).length = lenF ps := rfl
   refine ⟨n, ps, by rw [List.getElem?_append_right (by omega), hi2, hf, Nat.sub_self]; rfl, hw.1, by rw [List.getElem?_append_right (by omega), hi2, hl, Nat.sub_self]; rfl, by omega, fun k t hk => ?_⟩
   have hs := lenF_split hk
   have hp := flatT_pos t
   rw [List.getElem?_append_left (by omega), show i - (lenF (ps.drop (k + 1)) + 1) = lenF (ps.take k) + (flatT t).length - 1 by omega]
   exact szsF_at hk
theorem szF_at : ∀ (ps : List T), wfF ps → ∀ i, i < (flatF ps).length → SzAt (flatF ps) (szsF ps) i
 | [], _, i, hi => absurd hi (Nat.not_lt_zero i)
 | t :: ts, hw, i, hi => by
  rw [wfF] at hw
  rw [flatF, List.length_append] at hi
  rw [flatF, szsF]
  rcases Nat.lt_or_ge i (flatT t).length with h | h
  ·exact (szT_at t hw.1 i h).front _ _
  ·have := (szF_at ts hw.2 (i - (flatT t).length) (by omega)).back (flatT t) (szsT t) (szsT_len t)
   rwa [show (flatT t).length + (i - (flatT t).length) = i by omega] at this
end
/-- The next part's size, as the code reckons it. -/
theorem sz_step {ps : List T} {m : Nat} (hm : m < ps.length) : ∃ t, ps[ps.length - m - 1]? = some t ∧ ps.length - m - 1 + 1 = ps.length - m ∧ lenF (ps.drop (ps.length - (m + 1))) = lenF (ps.drop (ps.length - m)) + (flatT t).length := by
 obtain ⟨t, ht⟩ : ∃ t, ps[ps.length - m - 1]? = some t := ⟨_, List.getElem?_eq_getElem (by omega)⟩
 refine ⟨t, ht, by omega, ?_⟩
 obtain ⟨hlt, hx⟩ := List.getElem?_eq_some_iff.1 ht
 rw [show ps.length - (m + 1) = ps.length - m - 1 by omega, List.drop_eq_getElem_cons hlt, lenF_cons, hx, show ps.length - m - 1 + 1 = ps.length - m by omega]
 omega
theorem lenF_take_succ {ps : List T} {k : Nat} {t : T} (h : ps[k]? = some t) : lenF (ps.take (k + 1)) = lenF (ps.take k) + (flatT t).length := by
 rw [List.take_add_one, h, lenF_append]
 congr 1
 show lenF [t] = _
 rw [lenF_cons, lenF_nil]
 omega
/-- Behind k parts the root's sizes say how long the one ahead is. -/
theorem root_sz {n : EN} {ps : List T} {k : Nat} {t : T} (h : ps[k]? = some t) : (szsT (.mk n ps))[lenF (ps.take (k + 1)) - 1]? = some (flatT t).length := by
 have hl : (szsF ps).length = lenF ps := szsF_len ps
 have hs := lenF_split h
 have hp := flatT_pos t
 rw [lenF_take_succ h, szsT, List.getElem?_append_left (by omega)]
 exact szsF_at h
end Go.Proofs.YtihiicjnjhideaaDoor.Build
end
section
namespace Go.Proofs.YtihiicjnjhideaaDoor.Build
open Go.RowKit Go.Proofs.YtihiicjnjhideaaDoorW.PrintWords Go.Proofs.YtihiicjnjhideaaDoor.PAll Go.Proofs.YtihiicjnjhideaaDoor.Core
set_option linter.unusedVariables false
set_option linter.unusedSimpArgs false
theorem idx_bb (g n m i : Nat) (hi : i < n) (W : World) : (Instr.indexAt 95 (.slice (some ⟨g, 0, none⟩) n m) (.int .i64 (i : Int))).run Tryd.prog W = .ok (.pointer (some ⟨g, i, none⟩)) W := by
 have := run_indexAt_own (P := Tryd.prog) (t := 95) (size := 1) Tryd.underlying95 (fun W => by kernel_rfl) g n m i hi W
 rwa [Nat.mul_one] at this
section
variable (gb : Nat) (left : Int) (A : Option Addr) (c : Nat) (vs : List Value) (L : List (List CN)) (w : World)
set_option maxHeartbeats 4000000 in
set_option maxRecDepth 100000 in
theorem join_calls (hr : RowV w A vs) (hb : Bods w vs L) (hl : w.cell? ⟨gb, 1, none⟩ = some (.int .i64 left)) (hn : L.flatten.length ≤ 1099511627776) (hn2 : vs.length ≤ 1099511627776) :
  Calls Tryd.prog 49 #[.pointer (some ⟨gb, 0, none⟩), .slice A vs.length c] w fun e w' => LaidE w.heap.size w' (joinL left L) e ∧ Below w.heap.size w w' := by
 have HR := aK hr
 have HBD := aK hb
 have HL := aK hl
 have HN := aK hn
 have HN2 := aK hn2
 have HW := aK (Below.refl w.heap.size w)
 obtain ⟨n, hnn⟩ : ∃ n, vs.length = n := ⟨_, rfl⟩
 rw [hnn]
 have HNN := aK hnn
 have nb : (n : Int) ≤ 1099511627776 := by omega
 clear hr hb hl hn hn2 hnn
 go_enter Tryd.func49, Tryd.ntmps49
 go_wp2
 go_loopw [5, 13] (fun v5 v13 wr => ∃ (i s : Nat), v5 = .int .i64 s ∧ v13 = .int .i64 i ∧ Aside0 (i ≤ n) ∧ Aside0 (s = sumL L i) ∧ Aside0 (Below w.heap.size w wr)) (fun _ v13 _ => n - (intOf v13).toNat)
 case atStart => exact ⟨0, 0, rfl, rfl, ⟨Nat.zero_le _⟩, ⟨rfl⟩, HW⟩
 case round =>
  clear HW
  obtain ⟨i, s, rfl, rfl, HI, HS, HW⟩ := hrel
  have ib : (i : Int) ≤ 1099511627776 := by have := HI.out; omega
  by_cases ci : i < n
  ·have b1 : decide ((i : Int) < (n : Int)) = true := decide_eq_true (by omega)
   have b1n : decide (i < n) = true := decide_eq_true ci
   obtain ⟨g, hA, hg, hcells⟩ := HR.out (by rw [HNN.out]; omega)
   subst hA
   have hix := idx_bb g n c i ci
   obtain ⟨v, hv⟩ : ∃ v, vs[i]? = some v := ⟨_, List.getElem?_eq_getElem (by rw [HNN.out]; exact ci)⟩
   obtain ⟨l, hl⟩ : ∃ l, L[i]? = some l := ⟨_, List.getElem?_eq_getElem (by rw [← HBD.out.1, HNN.out]; exact ci)⟩
   obtain ⟨Ai, c2, e, _, _⟩ := (HBD.out.2 i v l hv hl).reads
   subst e
   have hcell := (HW.out.cell hg).trans (hcells i _ hv)
   have hs2 := sumL_succ L i l hl
   have hle := sumL_le L (i + 1)
   have hsb : ((s + l.length : Nat) : Int) ≤ 1099511627776 := by have := HN.out; have := HS.out; omega
   have hw1 : IntKind.i64.wrap ((s : Int) + (l.length : Int)) = ((s + l.length : Nat) : Int) := by rw [IntWalk.i64_in _ (by omega)]; omega
   have HS2 := aK (show s + l.length = sumL L (i + 1) by rw [hs2, HS.out])
   clear hcells hv hl hs2 hle hsb hg
   go_wp2
   go_roundw
   case measure => simp [intOf]; omega
   case rel => exact ⟨i + 1, s + l.length, rfl, by go_num, ⟨ci⟩, HS2, HW⟩
  ·have b1 : decide ((i : Int) < (n : Int)) = false := decide_eq_false (by omega)
   have b1n : decide (i < n) = false := decide_eq_false ci
   obtain rfl : i = n := by have := HI.out; omega
   have hleft := HW.out.cell (World.block_lt_of_cell? w _ HL.out) |>.trans HL.out
   have HS3 := aK (show s = L.flatten.length by rw [HS.out, ← sumL_all, ← HBD.out.1, HNN.out])
   have sb : (s : Int) ≤ 1099511627776 := by have := HS3.out; have := HN.out; omega
   by_cases cm : (s : Int) > left
   ·have b2 : decide ((s : Int) > left) = true := decide_eq_true cm
    have b2n : decide (left < (s : Int)) = true := decide_eq_true cm
    have HJ := aK (show joinL left L = none by rw [joinL, if_pos (by have := HS3.out; omega)])
    go_wp2
    exact ⟨rfl, show LaidE w.heap.size wr (joinL left L) _ from by rw [HJ.out]; rfl, HW.out⟩
   ·have b2 : decide ((s : Int) > left) = false := decide_eq_false cm
    have b2n : decide (left < (s : Int)) = false := decide_eq_false cm
    have HJ := aK (show joinL left L = some L.flatten by rw [joinL, if_neg (by have := HS3.out; omega)])
    go_wp2_with (first
     | ((with_reducible refine gate_dst (N := 31) rfl ?_); refine make0_event rfl 42 (.const (.int .i64 0)) (.tmp 30) rfl s rfl rfl 55 (.agg #[.int .i64 0, .int .u64 0, .int .u64 0, .int .u64 0, .int .u64 0, .int .i64 0, .string ⟨#[]⟩]) 7 64 Tryd.underlying42 (by kernel_rfl) (by omega) (by omega) w.heap.size HW.out.size ?_; intro g0 hg0 w5 ho hb5; have HV0 := aK (Own.make0 ho); have n1_ := aK (below_step HW.out hb5); clear HW hleft ho hb5 hg0; have HW := n1_; clear n1_))
    go_loopw [8, 34] (fun v8 v34 wr => ∃ (k : Nat), v34 = .int .i64 k ∧ Aside0 (k ≤ i) ∧ Aside0 (Own wr w.heap.size v8 (L.take k).flatten) ∧ Aside0 (Below w.heap.size w wr)) (fun _ v34 _ => i - (intOf v34).toNat)
    case atStart => exact ⟨0, rfl, ⟨Nat.zero_le _⟩, HV0, HW⟩
    case round =>
     clear HW HV0
     obtain ⟨k, rfl, HK, HV, HW⟩ := hrel
     have kb : (k : Int) ≤ 1099511627776 := by have := HK.out; omega
     by_cases ck : k < i
     ·have b3 : decide ((k : Int) < (i : Int)) = true := decide_eq_true (by omega)
      have b3n : decide (k < i) = true := decide_eq_true ck
      obtain ⟨g, hA, hg, hcells⟩ := HR.out (by rw [HNN.out]; omega)
      subst hA
      have hix := idx_bb g i c k ck
      obtain ⟨v, hv⟩ : ∃ v, vs[k]? = some v := ⟨_, List.getElem?_eq_getElem (by rw [HNN.out]; exact ck)⟩
      obtain ⟨l, hl⟩ : ∃ l, L[k]? = some l := ⟨_, List.getElem?_eq_getElem (by rw [← HBD.out.1, HNN.out]; exact ck)⟩
      obtain ⟨Ai, c2, e, hc2, hri⟩ := (HBD.out.2 k v l hv hl).reads
      subst e
      have hcell := (HW.out.cell hg).trans (hcells k _ hv)
      have HRI := aK (Kd.C_below hri HW.out)
      have HT := aK (take_snoc L k l hl)
      have HFB := aK (show (L.take k).flatten.length + l.length ≤ 1099511627776 by have h1 := sumL_succ L k l hl; have h2 := sumL_le L (k + 1); have := HN.out; unfold sumL at h1 h2; omega)
      obtain ⟨Av, cv, hu⟩ := Kd.R_slice HV.out
      subst hu
      clear hcells hv hl hc2 hri hg
      go_wp2_with (first
       | ((with_reducible refine gate_builtin (b := .append) (xs := #[.tmp 38, .tmp 39]) rfl ?_); at_builtin; refine Kd.R_append_rows kCN (w0 := w) w.heap.size rfl (.tmp 38) (.tmp 39) 42 55 (.agg #[.int .i64 0, .int .u64 0, .int .u64 0, .int .u64 0, .int .u64 0, .int .i64 0, .string ⟨#[]⟩]) 64 rfl Tryd.underlying42 (by kernel_rfl) rfl (by decide) (by decide) _ (L.take k).flatten l Ai l.length c2 (fun _ => True) (fun _ => False) rfl rfl HV.out HRI.out (fun _ _ h => cn_M h) (fun _ h => h.elim) (fun _ _ => trivial) HW.out HW.out.size (by have := HFB.out; omega) ?_; intro v1 w6 hv1 hb6 _ _; have HV1 := aK (show Own w6 w.heap.size v1 (L.take (k + 1)).flatten by rw [HT.out, List.flatten_append]; simpa using hv1); have HW1 := aK hb6; clear HV HW hcell HRI hv1 hb6))
      go_roundw
      case measure => simp [intOf]; omega
      case rel => exact ⟨k + 1, by go_num, ⟨ck⟩, HV1, HW1⟩
     ·have b3 : decide ((k : Int) < (i : Int)) = false := decide_eq_false (by omega)
      have b3n : decide (k < i) = false := decide_eq_false ck
      have HF := aK (show L.take k = L by rw [List.take_of_length_le (by have := HK.out; rw [← HBD.out.1, HNN.out]; omega)])
      go_wp2
      go_ret
      exact ⟨by rw [HJ.out]; exact ⟨_, rfl, by have := HV.out; rwa [HF.out] at this⟩, HW.out⟩
theorem join_lit (n : Nat) (hnn : vs.length = n) (hr : RowV w A vs) (hb : Bods w vs L) (hl : w.cell? ⟨gb, 1, none⟩ = some (.int .i64 left)) (hn : L.flatten.length ≤ 1099511627776) (hn2 : n ≤ 1099511627776) :
  Calls Tryd.prog 49 #[.pointer (some ⟨gb, 0, none⟩), .slice A n c] w fun e w' => LaidE w.heap.size w' (joinL left L) e ∧ Below w.heap.size w w' := by
 subst hnn
 exact join_calls gb left A c vs L w hr hb hl hn hn2
end
end Go.Proofs.YtihiicjnjhideaaDoor.Build
end
section
namespace Go.Proofs.YtihiicjnjhideaaDoor.Build
open Go.RowKit Go.Proofs.YtihiicjnjhideaaDoorW.PrintWords Go.Proofs.YtihiicjnjhideaaDoor.PAll Go.Proofs.YtihiicjnjhideaaDoor.Core
set_option linter.unusedVariables false
set_option linter.unusedSimpArgs false
def rowL (left k : Int) (L : List (List CN)) : Option (List CN) := if L = [] then some [opN 0] else joinL left (L ++ List.replicate (L.length - 1) [opN k])
theorem flat_ops (k : Int) : ∀ n : Nat, (List.replicate n [opN k]).flatten.length = n
 | 0 => rfl
 | n + 1 => by rw [List.replicate_succ, List.flatten_cons, List.length_append, flat_ops k n]; simp; omega
theorem Bods.over {w w' : World} {vs : List Value} {L : List (List CN)} {u : Value} {b n s : Nat} {e : TypeId} {xs : List Value} (h : Bods w vs L) (ho : w.ownsRow b e s u n xs) (he : 55 ≠ e) {row : Option Nat} (hg : w.grownBy w' row) (hrow : ∀ k, row = some k → u.ownBlock = some k) : Bods w' vs L :=
 ⟨h.1, fun j v l h1 h2 => (h.2 j v l h1 h2).over ho he hg hrow⟩
theorem hat_row {w w1 : World} {v v1 : Value} (h : (v1.ownBlock = v.ownBlock ∧ w.grownBy w1 v.ownBlock) ∨ ((∃ b, v1.ownBlock = some b ∧ w.heap.size ≤ b) ∧ w.grownBy w1 none)) : ∃ row, w.grownBy w1 row ∧ ∀ k, row = some k → v.ownBlock = some k := by
 rcases h with ⟨_, h⟩ | ⟨_, h⟩
 ·exact ⟨_, h, fun k e => e⟩
 ·exact ⟨_, h, fun k e => by cases e⟩
/-- A body more in a row of one's own. -/
theorem grow_row {base n : Nat} {w0 w w1 : World} {u v1 v4 : Value} {xs : List Value} {L : List (List CN)} {l : List CN} (hbs : base ≤ w.heap.size) (HO : w.ownsRow base 42 1 u n xs) (HB : Bods w xs L) (HV : Bod w v4 l) (HW : Below base w0 w) (hs : base ≤ w0.heap.size)
  (h : (v1.ownBlock = u.ownBlock ∧ w.grownBy w1 u.ownBlock) ∨ ((∃ b, v1.ownBlock = some b ∧ w.heap.size ≤ b) ∧ w.grownBy w1 none)) : Bods w1 (xs ++ [v4]) (L ++ [l]) ∧ Below base w0 w1 := by
 obtain ⟨row, hg, hr⟩ := hat_row h
 exact ⟨(HB.snoc HV).over HO (by decide) hg hr, pw_below_grown HW row hbs hg (fun k hk => own_base HO k (hr k hk))⟩
section
variable (base gb : Nat) (left kind : Int) (A : Option Addr) (c : Nat) (vs : List Value) (L : List (List CN)) (w : World)
set_option maxHeartbeats 4000000 in
set_option maxRecDepth 100000 in
theorem row_calls (ho : w.ownsRow base 42 1 (.slice A vs.length c) vs.length vs) (hb : Bods w vs L) (hbase : base ≤ w.heap.size) (hgb : gb < base) (hl : w.cell? ⟨gb, 1, none⟩ = some (.int .i64 left)) (hn : L.flatten.length ≤ 1073741824) (hn2 : vs.length ≤ 1073741824) :
  Calls Tryd.prog 47 #[.pointer (some ⟨gb, 0, none⟩), .int .i64 kind, .slice A vs.length c] w fun e w' => LaidE base w' (rowL left kind L) e ∧ Below base w w' := by
 obtain ⟨n, hnn⟩ : ∃ n, vs.length = n := ⟨_, rfl⟩
 rw [hnn] at ho hn2
 rw [hnn]
 have HNN := aK hnn
 have HLN := aK (show L.length = n by rw [← hb.1, hnn])
 have HN := aK hn
 have HL := aK hl
 have HGB := aK hgb
 have HBS := aK hbase
 have nb : (n : Int) ≤ 1073741824 := by omega
 by_cases c0 : n = 0
 ·subst c0
  have HLE := aK (show L = [] from List.length_eq_zero_iff.1 HLN.out)
  clear ho hb hl hn hn2 hnn hbase hgb
  go_enter Tryd.func47, Tryd.ntmps47
  go_wp2_with (first
   | (go_at_call 41; refine (op_lit 0 _).mono ?_; rintro e w4 ⟨v4, rfl, hv, hb4⟩; have HV := aK hv; have HB := aK hb4; clear hv hb4))
  go_ret
  refine ⟨?_, HB.out.mono HBS.out⟩
  rw [rowL, if_pos HLE.out]
  exact ⟨_, rfl, Kd.R_lower HV.out HBS.out⟩
 ·have b0 : ((n : Int) == 0) = false := by simp; omega
  have b0n : decide ((n : Int) = 0) = false := decide_eq_false (by omega)
  have HO := aK ho
  have HBD := aK (show Bods w (vs ++ []) (L ++ List.replicate 0 [opN kind]) by simpa using hb)
  have HO2 := aK (show w.ownsRow base 42 1 (.slice A n c) (n + 0) (vs ++ []) by simpa using ho)
  have HW := aK (Below.refl base w)
  have HC0 := aK c0
  have hw1 : IntKind.i64.wrap ((n : Int) - 1) = ((n - 1 : Nat) : Int) := by rw [IntWalk.i64_in _ (by omega)]; omega
  clear ho hb hl hn hn2 hnn hbase hgb
  go_enter Tryd.func47, Tryd.ntmps47
  go_wp2
  go_loopw [2, 14] (fun v2 v14 wr => ∃ (k : Nat) (ws : List Value), v14 = .int .i64 k ∧ Aside0 (k ≤ n - 1) ∧ Aside0 (wr.ownsRow base 42 1 v2 (n + k) (vs ++ ws)) ∧ Aside0 (Bods wr (vs ++ ws) (L ++ List.replicate k [opN kind])) ∧ Aside0 (Below base w wr)) (fun _ v14 _ => n - 1 - (intOf v14).toNat)
  case atStart => exact ⟨0, [], rfl, ⟨Nat.zero_le _⟩, HO2, HBD, HW⟩
  case round =>
   clear HO HBD HO2 HW
   obtain ⟨k, ws, rfl, HK, HO, HBD, HW⟩ := hrel
   have kb : (k : Int) ≤ 1073741824 := by have := HK.out; omega
   obtain ⟨A2, c2, hu⟩ := own_slice HO.out
   subst hu
   by_cases ck : k < n - 1
   ·have b3 : decide ((k : Int) < ((n - 1 : Nat) : Int)) = true := decide_eq_true (by omega)
    have b3n : decide (k < n - 1) = true := decide_eq_true ck
    go_wp2_with (first
     | (go_at_call 41; refine (op_lit kind _).mono ?_; rintro e w4 ⟨v4, rfl, hv, hb4⟩; obtain ⟨A4, c4, hv4, _⟩ := hv.bod.reads; subst hv4; have HV := aK (show Bod w4 (.slice A4 1 c4) [opN kind] from hv.bod); have n1_ := aK (own_kept HO.out (fun q e => hb4.block q (own_lt HO.out q e))); have n2_ := aK (HBD.out.below hb4); have n3_ := aK (HW.out.trans (hb4.mono (Nat.le_trans HBS.out HW.out.size))); clear HO HBD HW hv hb4; have HO := n1_; have HBD := n2_; have HW := n3_; clear n1_ n2_ n3_)
     | ((with_reducible refine gate_builtin (b := .append) (xs := #[.tmp 16, .tmp 19]) rfl ?_); at_builtin; refine append_event base rfl (.tmp 16) (.tmp 19) 95 42 (.slice none 0 0) 1 24 rfl Tryd.underlying95 (by kernel_rfl) rfl (by decide) (by decide) (.slice A2 (n + k) c2) (n + k) (vs ++ ws) [.slice A4 1 c4] rfl rfl rfl (by simp [Value.oneCell']) HO.out (Nat.le_trans HBS.out HW.out.size) (by omega) ?_; intro v1 w5 hown hat; have n0_ := grow_row (Nat.le_trans HBS.out HW.out.size) HO.out HBD.out HV.out HW.out HBS.out hat; have n1_ := aK hown; have n2_ := aK n0_.1; have n3_ := aK n0_.2; clear HO HBD HW HV hown hat n0_; have HO := n1_; have HBD := n2_; have HW := n3_; clear n1_ n2_ n3_))
    go_roundw
    case measure => simp [intOf]; omega
    case rel => exact ⟨k + 1, ws ++ [.slice A4 1 c4], by go_num, ⟨ck⟩, ⟨by have := HO.out; rw [List.append_assoc] at this; exact this⟩, ⟨by have := HBD.out; rw [List.append_assoc, List.append_assoc] at this; rwa [List.replicate_succ']⟩, HW⟩
   ·have b3 : decide ((k : Int) < ((n - 1 : Nat) : Int)) = false := decide_eq_false (by omega)
    have b3n : decide (k < n - 1) = false := decide_eq_false ck
    obtain rfl : k = n - 1 := by have := HK.out; omega
    obtain ⟨N, hN⟩ : ∃ N, n + (n - 1) = N := ⟨_, rfl⟩
    rw [hN] at HO
    rw [hN]
    have HVL := aK (show (vs ++ ws).length = N by have := HO.out.1; omega)
    have HFL := aK (show (L ++ List.replicate (n - 1) [opN kind]).flatten.length ≤ 1099511627776 by rw [List.flatten_append, List.length_append, flat_ops]; have := HN.out; omega)
    have HRL := aK (show rowL left kind L = joinL left (L ++ List.replicate (n - 1) [opN kind]) by rw [rowL, if_neg (fun e => HC0.out (by rw [← HLN.out, e]; rfl)), HLN.out])
    have HCELL := aK ((World.cell?_of_block (a := ⟨gb, 1, none⟩) (HW.out.block gb HGB.out)).trans HL.out)
    cases hj : joinL left (L ++ List.replicate (n - 1) [opN kind]) with
    | none =>
     have HJ := aK hj
     clear hj
     go_wp2_with (first
      | (go_at_call 49; have hcall := join_calls gb left A2 c2 (vs ++ ws) (L ++ List.replicate (n - 1) [opN kind]) wr (RowV.own (n := N) HO.out) HBD.out HCELL.out HFL.out (by rw [HVL.out]; omega); rw [HVL.out, HJ.out] at hcall; (with_reducible refine hcall.mono ?_); clear hcall; rintro e w5 ⟨he, hb5⟩; have he2 : e = .panicked tooMuch := he; subst he2; have n3_ := aK (HW.out.trans (hb5.mono (Nat.le_trans HBS.out HW.out.size))); clear he hb5))
     exact ⟨rfl, show LaidE base w5 (rowL left kind L) (.panicked tooMuch) from by rw [HRL.out, HJ.out]; exact rfl, n3_.out⟩
    | some l =>
     have HJ := aK hj
     clear hj
     go_wp2_with (first
      | (go_at_call 49; have hcall := join_calls gb left A2 c2 (vs ++ ws) (L ++ List.replicate (n - 1) [opN kind]) wr (RowV.own (n := N) HO.out) HBD.out HCELL.out HFL.out (by rw [HVL.out]; omega); rw [HVL.out, HJ.out] at hcall; (with_reducible refine hcall.mono ?_); clear hcall; rintro e w5 ⟨he, hb5⟩; obtain ⟨v5, he1, hv5⟩ := he; subst he1; have HV5 := aK hv5; have n3_ := aK (HW.out.trans (hb5.mono (Nat.le_trans HBS.out HW.out.size))); clear hb5 hv5))
     go_ret
     refine ⟨?_, n3_.out⟩
     rw [HRL.out, HJ.out]
     exact ⟨_, rfl, Kd.R_lower HV5.out (Nat.le_trans HBS.out HW.out.size)⟩
theorem row_lit (n : Nat) (hnn : vs.length = n) (ho : w.ownsRow base 42 1 (.slice A n c) n vs) (hb : Bods w vs L) (hbase : base ≤ w.heap.size) (hgb : gb < base) (hl : w.cell? ⟨gb, 1, none⟩ = some (.int .i64 left)) (hn : L.flatten.length ≤ 1073741824) (hn2 : n ≤ 1073741824) :
  Calls Tryd.prog 47 #[.pointer (some ⟨gb, 0, none⟩), .int .i64 kind, .slice A n c] w fun e w' => LaidE base w' (rowL left kind L) e ∧ Below base w w' := by
 subst hnn
 exact row_calls base gb left kind A c vs L w ho hb hbase hgb hl hn hn2
end
end Go.Proofs.YtihiicjnjhideaaDoor.Build
end
section
namespace Go.Proofs.YtihiicjnjhideaaDoor.Build
open Go.RowKit Go.Proofs.YtihiicjnjhideaaDoorW.PrintWords Go.Proofs.YtihiicjnjhideaaDoor.PAll Go.Proofs.YtihiicjnjhideaaDoor.Core
set_option linter.unusedVariables false
set_option linter.unusedSimpArgs false
/-- Laid n times at most, n being at least 1. -/
def perhL (left : Int) (b : List CN) : Nat → Option (List CN)
 | 0 => none
 | 1 => joinL left [b, [opN 0], [opN 5]]
 | n + 2 => (perhL left b (n + 1)).bind fun out => joinL left [b, out, [opN 4], [opN 0], [opN 5]]
theorem joinL_le {left : Int} {L : List (List CN)} {l : List CN} (h : joinL left L = some l) : (l.length : Int) ≤ left := by
 unfold joinL at h
 split at h
 ·cases h
 ·cases h; omega
theorem perhL_le {left : Int} {b : List CN} : ∀ {n : Nat} {l : List CN}, perhL left b n = some l → (l.length : Int) ≤ left
 | 0, _, h => by cases h
 | 1, _, h => joinL_le h
 | n + 2, _, h => by
  obtain ⟨o, _, h2⟩ := Option.bind_eq_some_iff.1 h
  exact joinL_le h2
theorem perhL_none {left : Int} {b : List CN} {m : Nat} (h : perhL left b m = none) (hm : 1 ≤ m) : ∀ d, perhL left b (m + d) = none
 | 0 => h
 | d + 1 => by
  have ih := perhL_none h hm d
  obtain ⟨q, hq⟩ : ∃ q, m + d = q + 1 := ⟨m + d - 1, by omega⟩
  rw [show m + (d + 1) = q + 2 by omega, perhL, ← hq, ih]
  rfl
section
variable (gb : Nat) (left : Int) (vb : Value) (b : List CN) (n : Nat) (w : World)
set_option maxHeartbeats 4000000 in
set_option maxRecDepth 100000 in
theorem perhaps_calls (hb : Bod w vb b) (hn : 1 ≤ n) (hn2 : n ≤ 1048576) (hl : w.cell? ⟨gb, 1, none⟩ = some (.int .i64 left)) (hlen : b.length ≤ 1073741824) (hleft : left ≤ 1048576) :
  Calls Tryd.prog 48 #[.pointer (some ⟨gb, 0, none⟩), vb, .int .i64 n] w fun e w' => LaidE w.heap.size w' (perhL left b n) e ∧ Below w.heap.size w w' := by
 obtain ⟨Ab, cb, hvb, hcb, _⟩ := hb.reads
 subst hvb
 have HBD := aK hb
 have HL := aK hl
 have HLEN := aK hlen
 have HLEFT := aK hleft
 have HW := aK (Below.refl w.heap.size w)
 have hw1 : IntKind.i64.wrap ((n : Int) - 1) = ((n - 1 : Nat) : Int) := by rw [IntWalk.i64_in _ (by omega)]; omega
 clear hb hl hlen hleft
 have HN := aK hn
 have HN2 := aK hn2
 cases hj : joinL left [b, [opN 0], [opN 5]] with
 | none =>
  have HJ := aK hj
  have HP := aK (show perhL left b n = none by obtain ⟨d, rfl⟩ : ∃ d, n = 1 + d := ⟨n - 1, by omega⟩; exact perhL_none (m := 1) hj (Nat.le_refl _) d)
  clear hj hn hn2
  go_enter Tryd.func48, Tryd.ntmps48
  go_wp2_with (first
   | (go_at_call 41; refine (op_lit 0 _).mono ?_; rintro e w0 ⟨v4, rfl, hv, hb4⟩; obtain ⟨A0, c0, hv4, _⟩ := hv.bod.reads; subst hv4; have n1_ := aK (below_step HW.out hb4); clear HW; have HW := n1_; clear n1_; (try (have n1_ := aK (HBD.out.below hb4); clear HBD; have HBD := n1_; clear n1_)); (try (have n1_ := aK (HOUT.out.below hb4); clear HOUT; have HOUT := n1_; clear n1_)); (try (have n1_ := aK (H0.out.below hb4); clear H0; have H0 := n1_; clear n1_)); (try (have n1_ := aK (H4.out.below hb4); clear H4; have H4 := n1_; clear n1_)); (try (have n1_ := aK (H5.out.below hb4); clear H5; have H5 := n1_; clear n1_)); have H0 := aK (show Bod w0 (.slice A0 1 c0) [opN 0] from hv.bod); clear hv hb4)
   | (go_at_call 41; refine (op_lit 5 _).mono ?_; rintro e w5 ⟨v4, rfl, hv, hb4⟩; obtain ⟨A5, c5, hv4, _⟩ := hv.bod.reads; subst hv4; have n1_ := aK (below_step HW.out hb4); clear HW; have HW := n1_; clear n1_; (try (have n1_ := aK (HBD.out.below hb4); clear HBD; have HBD := n1_; clear n1_)); (try (have n1_ := aK (HOUT.out.below hb4); clear HOUT; have HOUT := n1_; clear n1_)); (try (have n1_ := aK (H0.out.below hb4); clear H0; have H0 := n1_; clear n1_)); (try (have n1_ := aK (H4.out.below hb4); clear H4; have H4 := n1_; clear n1_)); (try (have n1_ := aK (H5.out.below hb4); clear H5; have H5 := n1_; clear n1_)); have H5 := aK (show Bod w5 (.slice A5 1 c5) [opN 5] from hv.bod); clear hv hb4)
   | (go_at_call 49; have hws5 := HW.out.size; have hal := below_alloc (Below.refl w5.heap.size w5) (.cells #[.slice Ab b.length cb, .slice A0 1 c0, .slice A5 1 c5] 42); have hcall := join_lit gb left (some ⟨w5.heap.size, 0, none⟩) 3 [.slice Ab b.length cb, .slice A0 1 c0, .slice A5 1 c5] [b, [opN 0], [opN 5]] (w5.alloc (.cells #[.slice Ab b.length cb, .slice A0 1 c0, .slice A5 1 c5] 42)) 3 rfl (RowV.row ⟨_, heap_alloc_new _ _, rfl⟩) (Bods.cons (HBD.out.below hal) (Bods.cons (H0.out.below hal) (Bods.cons (H5.out.below hal) (Bods.nil _)))) ((World.cell?_of_block (a := ⟨gb, 1, none⟩) ((below_step HW.out hal).block gb (World.block_lt_of_cell? w _ HL.out))).trans HL.out) (by have := HLEN.out; have := HLEFT.out; (try have := HOL.out); simp; omega) (by omega); rw [HJ.out] at hcall; (with_reducible refine hcall.mono ?_); clear hcall; rintro e w6 ⟨he, hb6⟩; have hb7 := below_step hal hb6; have n1_ := aK (below_step HW.out hb7); clear HW; have HW := n1_; clear n1_; (try (have n1_ := aK (HBD.out.below hb7); clear HBD; have HBD := n1_; clear n1_)); (try (have n1_ := aK (HOUT.out.below hb7); clear HOUT; have HOUT := n1_; clear n1_)); (try (have n1_ := aK (H0.out.below hb7); clear H0; have H0 := n1_; clear n1_)); (try (have n1_ := aK (H4.out.below hb7); clear H4; have H4 := n1_; clear n1_)); (try (have n1_ := aK (H5.out.below hb7); clear H5; have H5 := n1_; clear n1_)); have he2 : e = .panicked tooMuch := he; subst he2; clear hb6 hb7 hal hws5))
  exact ⟨rfl, show LaidE w.heap.size w6 (perhL left b n) (.panicked tooMuch) from by rw [HP.out]; exact rfl, HW.out⟩
 | some o1 =>
  have HJ := aK hj
  clear hj hn hn2
  go_enter Tryd.func48, Tryd.ntmps48
  go_wp2_with (first
   | (go_at_call 41; refine (op_lit 0 _).mono ?_; rintro e w0 ⟨v4, rfl, hv, hb4⟩; obtain ⟨A0, c0, hv4, _⟩ := hv.bod.reads; subst hv4; have n1_ := aK (below_step HW.out hb4); clear HW; have HW := n1_; clear n1_; (try (have n1_ := aK (HBD.out.below hb4); clear HBD; have HBD := n1_; clear n1_)); (try (have n1_ := aK (HOUT.out.below hb4); clear HOUT; have HOUT := n1_; clear n1_)); (try (have n1_ := aK (H0.out.below hb4); clear H0; have H0 := n1_; clear n1_)); (try (have n1_ := aK (H4.out.below hb4); clear H4; have H4 := n1_; clear n1_)); (try (have n1_ := aK (H5.out.below hb4); clear H5; have H5 := n1_; clear n1_)); have H0 := aK (show Bod w0 (.slice A0 1 c0) [opN 0] from hv.bod); clear hv hb4)
   | (go_at_call 41; refine (op_lit 5 _).mono ?_; rintro e w5 ⟨v4, rfl, hv, hb4⟩; obtain ⟨A5, c5, hv4, _⟩ := hv.bod.reads; subst hv4; have n1_ := aK (below_step HW.out hb4); clear HW; have HW := n1_; clear n1_; (try (have n1_ := aK (HBD.out.below hb4); clear HBD; have HBD := n1_; clear n1_)); (try (have n1_ := aK (HOUT.out.below hb4); clear HOUT; have HOUT := n1_; clear n1_)); (try (have n1_ := aK (H0.out.below hb4); clear H0; have H0 := n1_; clear n1_)); (try (have n1_ := aK (H4.out.below hb4); clear H4; have H4 := n1_; clear n1_)); (try (have n1_ := aK (H5.out.below hb4); clear H5; have H5 := n1_; clear n1_)); have H5 := aK (show Bod w5 (.slice A5 1 c5) [opN 5] from hv.bod); clear hv hb4)
   | (go_at_call 49; have hws5 := HW.out.size; have hal := below_alloc (Below.refl w5.heap.size w5) (.cells #[.slice Ab b.length cb, .slice A0 1 c0, .slice A5 1 c5] 42); have hcall := join_lit gb left (some ⟨w5.heap.size, 0, none⟩) 3 [.slice Ab b.length cb, .slice A0 1 c0, .slice A5 1 c5] [b, [opN 0], [opN 5]] (w5.alloc (.cells #[.slice Ab b.length cb, .slice A0 1 c0, .slice A5 1 c5] 42)) 3 rfl (RowV.row ⟨_, heap_alloc_new _ _, rfl⟩) (Bods.cons (HBD.out.below hal) (Bods.cons (H0.out.below hal) (Bods.cons (H5.out.below hal) (Bods.nil _)))) ((World.cell?_of_block (a := ⟨gb, 1, none⟩) ((below_step HW.out hal).block gb (World.block_lt_of_cell? w _ HL.out))).trans HL.out) (by have := HLEN.out; have := HLEFT.out; (try have := HOL.out); simp; omega) (by omega); rw [HJ.out] at hcall; (with_reducible refine hcall.mono ?_); clear hcall; rintro e w6 ⟨he, hb6⟩; have hb7 := below_step hal hb6; have n1_ := aK (below_step HW.out hb7); clear HW; have HW := n1_; clear n1_; (try (have n1_ := aK (HBD.out.below hb7); clear HBD; have HBD := n1_; clear n1_)); (try (have n1_ := aK (HOUT.out.below hb7); clear HOUT; have HOUT := n1_; clear n1_)); (try (have n1_ := aK (H0.out.below hb7); clear H0; have H0 := n1_; clear n1_)); (try (have n1_ := aK (H4.out.below hb7); clear H4; have H4 := n1_; clear n1_)); (try (have n1_ := aK (H5.out.below hb7); clear H5; have H5 := n1_; clear n1_)); have HB5 := aK hws5; obtain ⟨v5, he1, hv5⟩ := he; subst he1; have HV5 := aK (Kd.R_lower hv5 (Nat.le_trans HB5.out (hal.size))); clear hv5; clear hb6 hb7 hal hws5))
  clear H0 H5
  go_loopw [7, 16] (fun v7 v16 wr => ∃ (k : Nat) (out : List CN), v16 = .int .i64 k ∧ Aside0 (k ≤ n - 1) ∧ Aside0 (perhL left b (k + 1) = some out) ∧ Aside0 (Own wr w.heap.size v7 out) ∧ Aside0 (Bod wr (.slice Ab b.length cb) b) ∧ Aside0 (Below w.heap.size w wr)) (fun _ v16 _ => n - 1 - (intOf v16).toNat)
  case atStart => exact ⟨0, o1, rfl, ⟨Nat.zero_le _⟩, HJ, HV5, HBD, HW⟩
  case round =>
   clear HV5 HBD HW HJ
   obtain ⟨k, out, rfl, HK, HP, HV, HBD, HW⟩ := hrel
   have kb : (k : Int) ≤ 1048576 := by have := HK.out; have := HN2.out; omega
   by_cases ck : k < n - 1
   ·have b3 : decide ((k : Int) < ((n - 1 : Nat) : Int)) = true := decide_eq_true (by omega)
    have b3n : decide (k < n - 1) = true := decide_eq_true ck
    obtain ⟨Ao, co, hu, _⟩ := HV.out.bod.reads
    subst hu
    have HOUT := aK (show Bod wr (.slice Ao out.length co) out from HV.out.bod)
    have HOL := aK (perhL_le HP.out)
    have HCK := aK ck
    clear HV
    cases hj : joinL left [b, out, [opN 4], [opN 0], [opN 5]] with
    | none =>
     have HJ := aK hj
     have HPN := aK (show perhL left b n = none by obtain ⟨d, hd⟩ : ∃ d, n = k + 2 + d := ⟨n - (k + 2), by omega⟩; rw [hd]; exact perhL_none (m := k + 2) (by rw [perhL, HP.out]; exact hj) (by omega) d)
     clear hj
     go_wp2_with (first
      | (go_at_call 41; refine (op_lit 4 _).mono ?_; rintro e w4 ⟨v4, rfl, hv, hb4⟩; obtain ⟨A4, c4, hv4, _⟩ := hv.bod.reads; subst hv4; have n1_ := aK (below_step HW.out hb4); clear HW; have HW := n1_; clear n1_; (try (have n1_ := aK (HBD.out.below hb4); clear HBD; have HBD := n1_; clear n1_)); (try (have n1_ := aK (HOUT.out.below hb4); clear HOUT; have HOUT := n1_; clear n1_)); (try (have n1_ := aK (H0.out.below hb4); clear H0; have H0 := n1_; clear n1_)); (try (have n1_ := aK (H4.out.below hb4); clear H4; have H4 := n1_; clear n1_)); (try (have n1_ := aK (H5.out.below hb4); clear H5; have H5 := n1_; clear n1_)); have H4 := aK (show Bod w4 (.slice A4 1 c4) [opN 4] from hv.bod); clear hv hb4)
      | (go_at_call 41; refine (op_lit 0 _).mono ?_; rintro e w0 ⟨v4, rfl, hv, hb4⟩; obtain ⟨A0, c0, hv4, _⟩ := hv.bod.reads; subst hv4; have n1_ := aK (below_step HW.out hb4); clear HW; have HW := n1_; clear n1_; (try (have n1_ := aK (HBD.out.below hb4); clear HBD; have HBD := n1_; clear n1_)); (try (have n1_ := aK (HOUT.out.below hb4); clear HOUT; have HOUT := n1_; clear n1_)); (try (have n1_ := aK (H0.out.below hb4); clear H0; have H0 := n1_; clear n1_)); (try (have n1_ := aK (H4.out.below hb4); clear H4; have H4 := n1_; clear n1_)); (try (have n1_ := aK (H5.out.below hb4); clear H5; have H5 := n1_; clear n1_)); have H0 := aK (show Bod w0 (.slice A0 1 c0) [opN 0] from hv.bod); clear hv hb4)
      | (go_at_call 41; refine (op_lit 5 _).mono ?_; rintro e w5 ⟨v4, rfl, hv, hb4⟩; obtain ⟨A5, c5, hv4, _⟩ := hv.bod.reads; subst hv4; have n1_ := aK (below_step HW.out hb4); clear HW; have HW := n1_; clear n1_; (try (have n1_ := aK (HBD.out.below hb4); clear HBD; have HBD := n1_; clear n1_)); (try (have n1_ := aK (HOUT.out.below hb4); clear HOUT; have HOUT := n1_; clear n1_)); (try (have n1_ := aK (H0.out.below hb4); clear H0; have H0 := n1_; clear n1_)); (try (have n1_ := aK (H4.out.below hb4); clear H4; have H4 := n1_; clear n1_)); (try (have n1_ := aK (H5.out.below hb4); clear H5; have H5 := n1_; clear n1_)); have H5 := aK (show Bod w5 (.slice A5 1 c5) [opN 5] from hv.bod); clear hv hb4)
      | (go_at_call 49; have hws5 := HW.out.size; have hal := below_alloc (Below.refl w5.heap.size w5) (.cells #[.slice Ab b.length cb, .slice Ao out.length co, .slice A4 1 c4, .slice A0 1 c0, .slice A5 1 c5] 42); have hcall := join_lit gb left (some ⟨w5.heap.size, 0, none⟩) 5 [.slice Ab b.length cb, .slice Ao out.length co, .slice A4 1 c4, .slice A0 1 c0, .slice A5 1 c5] [b, out, [opN 4], [opN 0], [opN 5]] (w5.alloc (.cells #[.slice Ab b.length cb, .slice Ao out.length co, .slice A4 1 c4, .slice A0 1 c0, .slice A5 1 c5] 42)) 5 rfl (RowV.row ⟨_, heap_alloc_new _ _, rfl⟩) (Bods.cons (HBD.out.below hal) (Bods.cons (HOUT.out.below hal) (Bods.cons (H4.out.below hal) (Bods.cons (H0.out.below hal) (Bods.cons (H5.out.below hal) (Bods.nil _)))))) ((World.cell?_of_block (a := ⟨gb, 1, none⟩) ((below_step HW.out hal).block gb (World.block_lt_of_cell? w _ HL.out))).trans HL.out) (by have := HLEN.out; have := HLEFT.out; (try have := HOL.out); simp; omega) (by omega); rw [HJ.out] at hcall; (with_reducible refine hcall.mono ?_); clear hcall; rintro e w6 ⟨he, hb6⟩; have hb7 := below_step hal hb6; have n1_ := aK (below_step HW.out hb7); clear HW; have HW := n1_; clear n1_; (try (have n1_ := aK (HBD.out.below hb7); clear HBD; have HBD := n1_; clear n1_)); (try (have n1_ := aK (HOUT.out.below hb7); clear HOUT; have HOUT := n1_; clear n1_)); (try (have n1_ := aK (H0.out.below hb7); clear H0; have H0 := n1_; clear n1_)); (try (have n1_ := aK (H4.out.below hb7); clear H4; have H4 := n1_; clear n1_)); (try (have n1_ := aK (H5.out.below hb7); clear H5; have H5 := n1_; clear n1_)); have he2 : e = .panicked tooMuch := he; subst he2; clear hb6 hb7 hal hws5))
     exact ⟨rfl, show LaidE w.heap.size w6 (perhL left b n) (.panicked tooMuch) from by rw [HPN.out]; exact rfl, HW.out⟩
    | some o2 =>
     have HJ := aK hj
     have HP2 := aK (show perhL left b (k + 2) = some o2 by rw [perhL, HP.out]; exact hj)
     clear hj
     go_wp2_with (first
      | (go_at_call 41; refine (op_lit 4 _).mono ?_; rintro e w4 ⟨v4, rfl, hv, hb4⟩; obtain ⟨A4, c4, hv4, _⟩ := hv.bod.reads; subst hv4; have n1_ := aK (below_step HW.out hb4); clear HW; have HW := n1_; clear n1_; (try (have n1_ := aK (HBD.out.below hb4); clear HBD; have HBD := n1_; clear n1_)); (try (have n1_ := aK (HOUT.out.below hb4); clear HOUT; have HOUT := n1_; clear n1_)); (try (have n1_ := aK (H0.out.below hb4); clear H0; have H0 := n1_; clear n1_)); (try (have n1_ := aK (H4.out.below hb4); clear H4; have H4 := n1_; clear n1_)); (try (have n1_ := aK (H5.out.below hb4); clear H5; have H5 := n1_; clear n1_)); have H4 := aK (show Bod w4 (.slice A4 1 c4) [opN 4] from hv.bod); clear hv hb4)
      | (go_at_call 41; refine (op_lit 0 _).mono ?_; rintro e w0 ⟨v4, rfl, hv, hb4⟩; obtain ⟨A0, c0, hv4, _⟩ := hv.bod.reads; subst hv4; have n1_ := aK (below_step HW.out hb4); clear HW; have HW := n1_; clear n1_; (try (have n1_ := aK (HBD.out.below hb4); clear HBD; have HBD := n1_; clear n1_)); (try (have n1_ := aK (HOUT.out.below hb4); clear HOUT; have HOUT := n1_; clear n1_)); (try (have n1_ := aK (H0.out.below hb4); clear H0; have H0 := n1_; clear n1_)); (try (have n1_ := aK (H4.out.below hb4); clear H4; have H4 := n1_; clear n1_)); (try (have n1_ := aK (H5.out.below hb4); clear H5; have H5 := n1_; clear n1_)); have H0 := aK (show Bod w0 (.slice A0 1 c0) [opN 0] from hv.bod); clear hv hb4)
      | (go_at_call 41; refine (op_lit 5 _).mono ?_; rintro e w5 ⟨v4, rfl, hv, hb4⟩; obtain ⟨A5, c5, hv4, _⟩ := hv.bod.reads; subst hv4; have n1_ := aK (below_step HW.out hb4); clear HW; have HW := n1_; clear n1_; (try (have n1_ := aK (HBD.out.below hb4); clear HBD; have HBD := n1_; clear n1_)); (try (have n1_ := aK (HOUT.out.below hb4); clear HOUT; have HOUT := n1_; clear n1_)); (try (have n1_ := aK (H0.out.below hb4); clear H0; have H0 := n1_; clear n1_)); (try (have n1_ := aK (H4.out.below hb4); clear H4; have H4 := n1_; clear n1_)); (try (have n1_ := aK (H5.out.below hb4); clear H5; have H5 := n1_; clear n1_)); have H5 := aK (show Bod w5 (.slice A5 1 c5) [opN 5] from hv.bod); clear hv hb4)
      | (go_at_call 49; have hws5 := HW.out.size; have hal := below_alloc (Below.refl w5.heap.size w5) (.cells #[.slice Ab b.length cb, .slice Ao out.length co, .slice A4 1 c4, .slice A0 1 c0, .slice A5 1 c5] 42); have hcall := join_lit gb left (some ⟨w5.heap.size, 0, none⟩) 5 [.slice Ab b.length cb, .slice Ao out.length co, .slice A4 1 c4, .slice A0 1 c0, .slice A5 1 c5] [b, out, [opN 4], [opN 0], [opN 5]] (w5.alloc (.cells #[.slice Ab b.length cb, .slice Ao out.length co, .slice A4 1 c4, .slice A0 1 c0, .slice A5 1 c5] 42)) 5 rfl (RowV.row ⟨_, heap_alloc_new _ _, rfl⟩) (Bods.cons (HBD.out.below hal) (Bods.cons (HOUT.out.below hal) (Bods.cons (H4.out.below hal) (Bods.cons (H0.out.below hal) (Bods.cons (H5.out.below hal) (Bods.nil _)))))) ((World.cell?_of_block (a := ⟨gb, 1, none⟩) ((below_step HW.out hal).block gb (World.block_lt_of_cell? w _ HL.out))).trans HL.out) (by have := HLEN.out; have := HLEFT.out; (try have := HOL.out); simp; omega) (by omega); rw [HJ.out] at hcall; (with_reducible refine hcall.mono ?_); clear hcall; rintro e w6 ⟨he, hb6⟩; have hb7 := below_step hal hb6; have n1_ := aK (below_step HW.out hb7); clear HW; have HW := n1_; clear n1_; (try (have n1_ := aK (HBD.out.below hb7); clear HBD; have HBD := n1_; clear n1_)); (try (have n1_ := aK (HOUT.out.below hb7); clear HOUT; have HOUT := n1_; clear n1_)); (try (have n1_ := aK (H0.out.below hb7); clear H0; have H0 := n1_; clear n1_)); (try (have n1_ := aK (H4.out.below hb7); clear H4; have H4 := n1_; clear n1_)); (try (have n1_ := aK (H5.out.below hb7); clear H5; have H5 := n1_; clear n1_)); have HB5 := aK hws5; obtain ⟨v5, he1, hv5⟩ := he; subst he1; have HV5 := aK (Kd.R_lower hv5 (Nat.le_trans HB5.out (hal.size))); clear hv5; clear hb6 hb7 hal hws5))
     go_roundw
     case measure => simp [intOf]; omega
     case rel => exact ⟨k + 1, o2, by go_num, ⟨by omega⟩, HP2, HV5, HBD, HW⟩
   ·have b3 : decide ((k : Int) < ((n - 1 : Nat) : Int)) = false := decide_eq_false (by omega)
    have b3n : decide (k < n - 1) = false := decide_eq_false ck
    have HKN := aK (show k + 1 = n by have := HK.out; have := HN.out; omega)
    go_wp2
    go_ret
    refine ⟨?_, HW.out⟩
    have hp := HP.out
    rw [HKN.out] at hp
    rw [hp]
    exact ⟨_, rfl, HV.out⟩
end
end Go.Proofs.YtihiicjnjhideaaDoor.Build
end
