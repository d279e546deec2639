/- Parts of the proof of coreOrder: BuildGrow, BuildPass, BuildTurn. No condition beyond each lemma's own. -/
import Derived.Test.YtihiicjnjhideaaDoorTO5
import Derived.Test.YtihiicjnjhideaaDoorTO8
import Derived.Test.YtihiicjnjhideaaDoorTO17
import Derived.Test.YtihiicjnjhideaaDoorTO18
import Derived.Test.YtihiicjnjhideaaDoorTO36
section
namespace Go.Proofs.YtihiicjnjhideaaDoor.Build
open Go.RowKit Go.Proofs.YtihiicjnjhideaaDoorW.PrintWords Go.Proofs.YtihiicjnjhideaaDoor.PAll Go.Proofs.YtihiicjnjhideaaDoor.Core Go.Proofs.YtihiicjnjhideaaDoor.Names
set_option linter.unusedVariables false
set_option linter.unusedSimpArgs false
theorem mem_flat_le {L : List (List CN)} {x : List CN} (h : x ∈ L) : x.length ≤ L.flatten.length := by
 obtain ⟨a, b, rfl⟩ := List.append_of_mem h
 rw [List.flatten_append, List.length_append, List.flatten_cons, List.length_append]
 omega
theorem joinL_grow {left left' : Int} {L : List (List CN)} {l : List CN} (h : joinL left L = some l) (hl : (l.length : Int) ≤ left') : joinL left' L = some l := by
 have := joinL_some h
 subst this
 unfold joinL
 rw [if_neg (by omega)]
theorem rowL_mem {left k : Int} {L : List (List CN)} {l x : List CN} (h : rowL left k L = some l) (hx : x ∈ L) : x.length ≤ l.length := by
 unfold rowL at h
 split at h
 ·rename_i h0; rw [h0] at hx; cases hx
 ·rw [joinL_some h]
  exact mem_flat_le (List.mem_append_left _ hx)
theorem rowL_grow {left left' k : Int} {L : List (List CN)} {l : List CN} (h : rowL left k L = some l) (hl : (l.length : Int) ≤ left') : rowL left' k L = some l := by
 unfold rowL at h ⊢
 split at h
 ·rename_i h0; rw [if_pos h0]; exact h
 ·rename_i h0; rw [if_neg h0]; exact joinL_grow h hl
theorem perhL_grow {left left' : Int} {b : List CN} : ∀ {n : Nat} {l : List CN}, perhL left b n = some l → (l.length : Int) ≤ left' → perhL left' b n = some l
 | 0, l, h, _ => by cases h
 | 1, l, h, hl => joinL_grow h hl
 | n + 2, l, h, hl => by
  obtain ⟨o, h1, h2⟩ := Option.bind_eq_some_iff.1 h
  have hs := joinL_some h2
  have ho : o.length ≤ l.length := by rw [hs]; exact mem_flat_le (by simp)
  show (perhL left' b (n + 1)).bind _ = _
  rw [perhL_grow h1 (by omega)]
  exact joinL_grow h2 hl
theorem perhL_mem {left : Int} {b : List CN} {n : Nat} {l : List CN} (h : perhL left b n = some l) : b.length ≤ l.length := by
 match n, h with
 | 1, h => rw [joinL_some h]; exact mem_flat_le (by simp)
 | n + 2, h =>
  obtain ⟨o, h1, h2⟩ := Option.bind_eq_some_iff.1 h
  rw [joinL_some h2]; exact mem_flat_le (by simp)
theorem countL_grow {left left' : Int} {b : List CN} {lo : Nat} {hi : Int} {l : List CN} (h : countL left b lo hi = some l) (hl : (l.length : Int) ≤ left') : countL left' b lo hi = some l := by
 unfold countL at h ⊢
 obtain ⟨t, ht, h⟩ := Option.bind_eq_some_iff.1 h
 have ht2 : tailL left' b lo hi = some t := by
  have hm : ∀ x ∈ t, (x.length : Int) ≤ left' := fun x hx => by have := rowL_mem h (List.mem_append_right _ hx); omega
  unfold tailL at ht ⊢
  split at ht
  ·rename_i h0
   obtain ⟨y, hy, rfl⟩ := Option.map_eq_some_iff.1 ht
   rw [if_pos h0, joinL_grow hy (hm y (List.mem_singleton.2 rfl))]
   rfl
  ·rename_i h0
   rw [if_neg h0]
   split at ht
   ·rename_i h1
    obtain ⟨y, hy, rfl⟩ := Option.map_eq_some_iff.1 ht
    rw [if_pos h1, perhL_grow hy (hm y (List.mem_singleton.2 rfl))]
    rfl
   ·rename_i h1
    rw [if_neg h1]
    exact ht
 rw [ht2]
 exact rowL_grow h hl
theorem countL_mem {left : Int} {b : List CN} {lo : Nat} {hi : Int} {l : List CN} (h : countL left b lo hi = some l) (h0 : hi ≠ 0) (h1 : hi = -1 ∨ (lo : Int) ≤ hi) : b.length ≤ l.length := by
 unfold countL at h
 obtain ⟨t, ht, h⟩ := Option.bind_eq_some_iff.1 h
 by_cases hlo : 0 < lo
 ·exact rowL_mem h (List.mem_append_left _ (List.mem_replicate.2 ⟨by omega, rfl⟩))
 ·unfold tailL at ht
  split at ht
  ·obtain ⟨y, hy, rfl⟩ := Option.map_eq_some_iff.1 ht
   have h2 := rowL_mem h (List.mem_append_right _ (List.mem_singleton.2 rfl))
   have h3 : b.length ≤ y.length := by rw [joinL_some hy]; exact mem_flat_le (by simp)
   omega
  ·rw [if_pos (by omega)] at ht
   obtain ⟨y, hy, rfl⟩ := Option.map_eq_some_iff.1 ht
   have h2 := rowL_mem h (List.mem_append_right _ (List.mem_singleton.2 rfl))
   have h3 := perhL_mem hy
   omega
theorem litL_grow {left left' : Int} {f : Bool} {s : ByteArray} {l : List CN} (h : litL left f s = some l) (hl : (l.length : Int) ≤ left') : litL left' f s = some l := by
 unfold litL at h ⊢
 split at h
 ·cases h
 ·have h2 : s.size ≤ l.length := by
   unfold rowL at h
   split at h
   ·rename_i h0
    have := litB_len f s
    rw [h0] at this
    simp at this
    omega
   ·have := joinL_some h
    rw [this, List.flatten_append, List.length_append, litB_len]
    omega
  rw [if_neg (by omega)]
  exact rowL_grow h hl
/-- What is laid of a node holds what is laid of its parts, and does not hang on what is left. -/
theorem finL_grow {left left' : Int} {NM : ByteArray → Int} {n : EN} {L : List (List CN)} {l : List CN} (hm : May n) (h11 : ¬ (n.f0 = 11 ∧ n.f6 = 0)) (h1 : 8 ≤ n.f0 → L.length = 1) (h00 : ¬ (6 ≤ n.f0) → L = []) (h : finL left NM n L = some l) (hl : (l.length : Int) ≤ left') : finL left' NM n L = some l ∧ ∀ x ∈ L, x.length ≤ l.length := by
 have hb : 8 ≤ n.f0 → L = [L.getD 0 []] := fun h8 => by
  have := h1 h8
  match L, this with
  | [b], _ => rfl
 have hone : 8 ≤ n.f0 → (L.getD 0 []).length ≤ l.length → ∀ x ∈ L, x.length ≤ l.length := fun h8 h9 x hx => by
  rw [hb h8] at hx
  rw [List.mem_singleton.1 hx]; exact h9
 have hnil : ¬ (6 ≤ n.f0) → ∀ x ∈ L, x.length ≤ l.length := fun h0 x hx => by rw [h00 h0] at hx; cases hx
 unfold finL at h ⊢
 by_cases h0 : n.f0 = 0
 ·rw [if_pos h0] at h ⊢; exact ⟨h, hnil (by omega)⟩
 rw [if_neg h0] at h ⊢
 by_cases h0 : n.f0 = 2
 ·rw [if_pos h0] at h ⊢; exact ⟨h, hnil (by omega)⟩
 rw [if_neg h0] at h ⊢
 by_cases h0 : n.f0 = 3
 ·rw [if_pos h0] at h ⊢; exact ⟨h, hnil (by omega)⟩
 rw [if_neg h0] at h ⊢
 by_cases h0 : n.f0 = 4
 ·rw [if_pos h0] at h ⊢; exact ⟨h, hnil (by omega)⟩
 rw [if_neg h0] at h ⊢
 by_cases h0 : n.f0 = 5
 ·rw [if_pos h0] at h ⊢; exact ⟨h, hnil (by omega)⟩
 rw [if_neg h0] at h ⊢
 by_cases h0 : n.f0 = 1
 ·rw [if_pos h0] at h ⊢; exact ⟨litL_grow h hl, hnil (by omega)⟩
 rw [if_neg h0] at h ⊢
 by_cases h0 : n.f0 = 6
 ·rw [if_pos h0] at h ⊢; exact ⟨rowL_grow h hl, fun x hx => rowL_mem h hx⟩
 rw [if_neg h0] at h ⊢
 by_cases h0 : n.f0 = 7
 ·rw [if_pos h0] at h ⊢; exact ⟨rowL_grow h hl, fun x hx => rowL_mem h hx⟩
 rw [if_neg h0] at h ⊢
 have h8 : 8 ≤ n.f0 := by have := hm.lo; omega
 have hone := hone h8
 generalize L.getD 0 [] = b at *
 by_cases h0 : n.f0 = 8
 ·rw [if_pos h0] at h ⊢; exact ⟨perhL_grow h hl, hone (perhL_mem h)⟩
 rw [if_neg h0] at h ⊢
 by_cases h0 : n.f0 = 9
 ·rw [if_pos h0] at h ⊢; exact ⟨joinL_grow h hl, hone (by rw [joinL_some h]; exact mem_flat_le (by simp))⟩
 rw [if_neg h0] at h ⊢
 by_cases h0 : n.f0 = 10
 ·rw [if_pos h0] at h ⊢; exact ⟨joinL_grow h hl, hone (by rw [joinL_some h]; exact mem_flat_le (by simp))⟩
 rw [if_neg h0] at h ⊢
 by_cases h0 : n.f0 = 11
 ·rw [if_pos h0] at h ⊢
  have hc := hm.cnt h0
  exact ⟨countL_grow h hl, hone (countL_mem h (fun h6 => h11 ⟨h0, h6⟩) (by omega))⟩
 rw [if_neg h0] at h ⊢
 by_cases h0 : n.f0 = 12
 ·rw [if_pos h0] at h ⊢; exact ⟨joinL_grow h hl, hone (by rw [joinL_some h]; exact mem_flat_le (by simp))⟩
 rw [if_neg h0] at h ⊢
 by_cases h0 : n.f0 = 13
 ·rw [if_pos h0] at h ⊢; exact ⟨joinL_grow h hl, hone (by rw [joinL_some h]; exact mem_flat_le (by simp))⟩
 rw [if_neg h0] at h ⊢
 exact ⟨joinL_grow h hl, hone (by rw [joinL_some h]; exact mem_flat_le (by simp))⟩
/-- A node that may be, and hands nothing to a reference. -/
def MayF (x : EN) : Prop := May x ∧ (x.f0 = 4 → x.f1 ≤ 0)
theorem MayF.no {x : EN} (h : MayF x) (h0 : ¬ (6 ≤ x.f0)) : x.f1 = 0 := by
 have h1 := h.1.lo
 by_cases h4 : x.f0 = 4
 ·have h2 := (h.1.refs h4).1
  have h3 := h.2 h4
  omega
 ·exact h.1.none_ (by omega)
mutual
theorem layT_grow {left left' : Int} {NM : ByteArray → Int} : ∀ (t : T) {l : List CN}, wfT t → (∀ x ∈ flatT t, MayF x) → layT left NM t = some l → (l.length : Int) ≤ left' → layT left' NM t = some l
 | .mk n ps, l, hw, hx, h, hl => by
  rw [wfT] at hw
  rw [flatT] at hx
  have hn := hx n (List.mem_append_right _ (List.mem_singleton.2 rfl))
  rw [layT] at h ⊢
  split at h
  ·rename_i h0; rw [if_pos h0]; exact h
  ·rename_i h0
   rw [if_neg h0]
   obtain ⟨L, h1, h2⟩ := Option.bind_eq_some_iff.1 h
   have hlen := layF_len h1
   obtain ⟨h3, h4⟩ := finL_grow hn.1 h0 (fun h8 => by have := hn.1.one (by have := hn.1.hi; omega); omega) (fun h6 => by
    have := hn.no h6
    exact List.eq_nil_of_length_eq_zero (by omega)) h2 hl
   rw [layF_grow ps hw.2 (fun x h => hx x (List.mem_append_left _ h)) h1 (fun x hx => by have := h4 x hx; omega)]
   exact h3
theorem layF_grow {left left' : Int} {NM : ByteArray → Int} : ∀ (ps : List T) {L : List (List CN)}, wfF ps → (∀ x ∈ flatF ps, MayF x) → layF left NM ps = some L → (∀ x ∈ L, (x.length : Int) ≤ left') → layF left' NM ps = some L
 | [], L, _, _, h, _ => by rw [layF] at h ⊢; exact h
 | t :: ps, L, hw, hx, h, hl => by
  rw [wfF] at hw
  rw [flatF] at hx
  rw [layF] at h ⊢
  obtain ⟨b, h1, h⟩ := Option.bind_eq_some_iff.1 h
  obtain ⟨bs, h2, h⟩ := Option.bind_eq_some_iff.1 h
  cases h
  rw [layT_grow t hw.1 (fun x h => hx x (List.mem_append_left _ h)) h1 (hl b (List.mem_cons_self ..)), layF_grow ps hw.2 (fun x h => hx x (List.mem_append_right _ h)) h2 (fun x hx => hl x (List.mem_cons_of_mem _ hx))]
  rfl
end
def mapN (φ : Int → Int) (x : CN) : CN := if x.f0 = 2 then { x with f2 := φ x.f2 } else x
abbrev mapB (φ : Int → Int) (l : List CN) : List CN := l.map (mapN φ)
theorem mapN_op {φ : Int → Int} {k : Int} (h : k ≠ 2) : mapN φ (opN k) = opN k := if_neg h
theorem joinL_map (φ : Int → Int) (left : Int) (L : List (List CN)) : joinL left (L.map (mapB φ)) = (joinL left L).map (mapB φ) := by
 have h : (L.map (mapB φ)).flatten = mapB φ L.flatten := by rw [mapB, List.map_flatten]
 unfold joinL
 rw [h, List.length_map]
 split
 ·rfl
 ·rfl
theorem ops_map (φ : Int → Int) {k : Int} (h : k ≠ 2) (m : Nat) : (List.replicate m [opN k]).map (mapB φ) = List.replicate m [opN k] := by
 rw [List.map_replicate]
 show List.replicate m [mapN φ (opN k)] = _
 rw [mapN_op h]
theorem rowL_map (φ : Int → Int) (left : Int) {k : Int} (hk : k ≠ 2) (L : List (List CN)) : rowL left k (L.map (mapB φ)) = (rowL left k L).map (mapB φ) := by
 unfold rowL
 by_cases h : L = []
 ·rw [if_pos h, if_pos (by rw [h]; rfl)]
  show _ = some [mapN φ (opN 0)]
  rw [mapN_op (by decide)]
 ·rw [if_neg h, if_neg (by simpa using h), List.length_map]
  conv => lhs; rw [← ops_map φ hk, ← List.map_append]
  exact joinL_map φ left _
theorem perhL_map (φ : Int → Int) (left : Int) (b : List CN) : ∀ n : Nat, perhL left (mapB φ b) n = (perhL left b n).map (mapB φ)
 | 0 => rfl
 | 1 => by
  show joinL left [mapB φ b, [opN 0], [opN 5]] = (joinL left [b, [opN 0], [opN 5]]).map (mapB φ)
  rw [← joinL_map]
  rfl
 | n + 2 => by
  show (perhL left (mapB φ b) (n + 1)).bind _ = ((perhL left b (n + 1)).bind _).map (mapB φ)
  rw [perhL_map φ left b (n + 1)]
  cases perhL left b (n + 1) with
  | none => rfl
  | some o =>
   show joinL left [mapB φ b, mapB φ o, [opN 4], [opN 0], [opN 5]] = (joinL left [b, o, [opN 4], [opN 0], [opN 5]]).map (mapB φ)
   rw [← joinL_map]
   rfl
theorem countL_map (φ : Int → Int) (left : Int) (b : List CN) (lo : Nat) (hi : Int) : countL left (mapB φ b) lo hi = (countL left b lo hi).map (mapB φ) := by
 have ht : tailL left (mapB φ b) lo hi = (tailL left b lo hi).map (List.map (mapB φ)) := by
  unfold tailL
  split
  ·have : joinL left [mapB φ b, [opN 6]] = (joinL left [b, [opN 6]]).map (mapB φ) := by rw [← joinL_map]; rfl
   rw [this]
   cases joinL left [b, [opN 6]] <;> rfl
  ·split
   ·rw [perhL_map]
    cases perhL left b (hi - lo).toNat <;> rfl
   ·rfl
 unfold countL
 rw [ht]
 cases tailL left b lo hi with
 | none => rfl
 | some t =>
  show rowL left 4 (List.replicate lo (mapB φ b) ++ t.map (mapB φ)) = (rowL left 4 (List.replicate lo b ++ t)).map (mapB φ)
  rw [← rowL_map φ left (by decide), List.map_append, List.map_replicate]
theorem litL_map (φ : Int → Int) (left : Int) (f : Bool) (s : ByteArray) : litL left f s = (litL left f s).map (mapB φ) := by
 unfold litL
 split
 ·rfl
 ·have h : (litB f s).map (mapB φ) = litB f s := by
   unfold litB
   rw [List.map_map]
   rfl
  conv => lhs; rw [← h]
  exact rowL_map φ left (by decide) _
theorem finL_map (φ : Int → Int) (left : Int) (NM : ByteArray → Int) (n : EN) (L : List (List CN)) : finL left (fun s => φ (NM s)) n (L.map (mapB φ)) = (finL left NM n L).map (mapB φ) := by
 have hg : (L.map (mapB φ)).getD 0 [] = mapB φ (L.getD 0 []) := by cases L <;> rfl
 unfold finL
 rw [hg]
 generalize L.getD 0 [] = b
 by_cases h0 : n.f0 = 0
 ·rw [if_pos h0, if_pos h0]; rfl
 rw [if_neg h0, if_neg h0]
 by_cases h0 : n.f0 = 2
 ·rw [if_pos h0, if_pos h0]; rfl
 rw [if_neg h0, if_neg h0]
 by_cases h0 : n.f0 = 3
 ·rw [if_pos h0, if_pos h0]; rfl
 rw [if_neg h0, if_neg h0]
 by_cases h0 : n.f0 = 4
 ·rw [if_pos h0, if_pos h0]; rfl
 rw [if_neg h0, if_neg h0]
 by_cases h0 : n.f0 = 5
 ·rw [if_pos h0, if_pos h0]; rfl
 rw [if_neg h0, if_neg h0]
 by_cases h0 : n.f0 = 1
 ·rw [if_pos h0, if_pos h0]; exact litL_map φ left _ _
 rw [if_neg h0, if_neg h0]
 by_cases h0 : n.f0 = 6
 ·rw [if_pos h0, if_pos h0]; exact rowL_map φ left (by decide) L
 rw [if_neg h0, if_neg h0]
 by_cases h0 : n.f0 = 7
 ·rw [if_pos h0, if_pos h0]; exact rowL_map φ left (by decide) L
 rw [if_neg h0, if_neg h0]
 by_cases h0 : n.f0 = 8
 ·rw [if_pos h0, if_pos h0]; exact perhL_map φ left b 1
 rw [if_neg h0, if_neg h0]
 by_cases h0 : n.f0 = 9
 ·rw [if_pos h0, if_pos h0, ← joinL_map]; rfl
 rw [if_neg h0, if_neg h0]
 by_cases h0 : n.f0 = 10
 ·rw [if_pos h0, if_pos h0, ← joinL_map]; rfl
 rw [if_neg h0, if_neg h0]
 by_cases h0 : n.f0 = 11
 ·rw [if_pos h0, if_pos h0]; exact countL_map φ left b _ _
 rw [if_neg h0, if_neg h0]
 by_cases h0 : n.f0 = 12
 ·rw [if_pos h0, if_pos h0, ← joinL_map]; rfl
 rw [if_neg h0, if_neg h0]
 by_cases h0 : n.f0 = 13
 ·rw [if_pos h0, if_pos h0, ← joinL_map]; rfl
 rw [if_neg h0, if_neg h0, ← joinL_map]
 rfl
mutual
theorem layT_map (φ : Int → Int) (left : Int) (NM : ByteArray → Int) : ∀ t : T, layT left (fun s => φ (NM s)) t = (layT left NM t).map (mapB φ)
 | .mk n ps => by
  rw [layT, layT]
  split
  ·rfl
  ·rw [layF_map φ left NM ps]
   cases layF left NM ps with
   | none => rfl
   | some L => exact finL_map φ left NM n L
theorem layF_map (φ : Int → Int) (left : Int) (NM : ByteArray → Int) : ∀ ps : List T, layF left (fun s => φ (NM s)) ps = (layF left NM ps).map (List.map (mapB φ))
 | [] => rfl
 | t :: ps => by
  rw [layF, layF, layT_map φ left NM t, layF_map φ left NM ps]
  cases layT left NM t with
  | none => rfl
  | some b => cases layF left NM ps <;> rfl
end
mutual
/-- Numbers that are the same at a tree's references lay the same. -/
theorem layT_same {left : Int} {NM NM' : ByteArray → Int} : ∀ t : T, (∀ x ∈ flatT t, x.f0 = 4 → NM x.f2 = NM' x.f2) → layT left NM t = layT left NM' t
 | .mk n ps, h => by
  rw [flatT] at h
  have hn := h n (List.mem_append_right _ (List.mem_singleton.2 rfl))
  rw [layT, layT, layF_same ps (fun x hx => h x (List.mem_append_left _ hx))]
  split
  ·rfl
  ·cases layF left NM' ps with
   | none => rfl
   | some L =>
    show finL left NM n L = finL left NM' n L
    unfold finL
    by_cases h4 : n.f0 = 4
    ·rw [hn h4]
    ·simp only [if_neg h4]
theorem layF_same {left : Int} {NM NM' : ByteArray → Int} : ∀ ps : List T, (∀ x ∈ flatF ps, x.f0 = 4 → NM x.f2 = NM' x.f2) → layF left NM ps = layF left NM' ps
 | [], _ => rfl
 | t :: ps, h => by
  rw [flatF] at h
  rw [layF, layF, layT_same t (fun x hx => h x (List.mem_append_left _ hx)), layF_same ps (fun x hx => h x (List.mem_append_right _ hx))]
end
end Go.Proofs.YtihiicjnjhideaaDoor.Build
end
section
namespace Go.Proofs.YtihiicjnjhideaaDoor.Build
open Go.RowKit Go.Proofs.YtihiicjnjhideaaDoorW.PrintWords Go.Proofs.YtihiicjnjhideaaDoor.PAll Go.Proofs.YtihiicjnjhideaaDoor.Core Go.Proofs.YtihiicjnjhideaaDoor.Names
set_option linter.unusedVariables false
set_option linter.unusedSimpArgs false
def NestOk (r : ER) : Prop := ∃ v, Ev (fun k => script_Nest.f k r.f2) v ∧ ¬ v > 100
/-- A rule that script's Check lets by. -/
structure Passes (r : ER) : Prop where
 head : Ev (fun k => script_headed.f k r.f0 r.f1 r.f2) true
 shape : Ev (fun k => script_shaped.f k r.f2) true
 nest : NestOk r
theorem EvP.more {g : Nat → Option Bool} {P : Prop} (h : EvP g P) : EvP g (Ev g true) := by
 obtain ⟨v, h1, h2⟩ := h
 exact ⟨v, h1, fun e => e ▸ h1⟩
section
variable (us : List (S79)) (rs : List ER) (hf : ∀ r ∈ rs, FitR r) (P : Prop)
theorem pass2 (hn : rs.length ≤ 256) (hs : nodesOf rs ≤ 4096) (hP : (∀ r ∈ rs, NestOk r) → P) : ∀ (d i : Nat), i + d = rs.length → (∀ j r, j < i → rs[j]? = some r → NestOk r) → EvQ (fun k => script_Check.l2 k rs (rs.length : Int) (i : Int)) P
 | 0, i, hi, hg => by
  refine EvQ.step (fun _ => by rw [script_Check.l2]) ?_
  refine EvQ.ite (fun h => by omega) (fun _ => EvQ.yes (hP (fun r hr => ?_)))
  obtain ⟨j, hj, rfl⟩ := List.mem_iff_getElem.1 hr
  exact hg j _ (by omega) (List.getElem?_eq_getElem hj)
 | d + 1, i, hi, hg => by
  have hlt : i < rs.length := by omega
  obtain ⟨r, hr⟩ : ∃ r, rs[i]? = some r := ⟨_, List.getElem?_eq_getElem hlt⟩
  have hm := nodes_mem rs r (List.mem_of_getElem? hr)
  have hrd := aK (show rd_T40 rs (i : Int) = r by rw [rd_T40, Int.toNat_natCast, List.getD_eq_getElem?_getD, hr]; rfl)
  have hw := aK (show wrap64 ((i : Int) + 1) = ((i + 1 : Nat) : Int) by rw [w64] <;> omega)
  obtain ⟨v, hv⟩ := nest_any r.f2 (by omega)
  refine EvQ.step (fun _ => by rw [script_Check.l2]) ?_
  refine EvQ.ite (fun _ => ?_) (fun h => absurd (show (i : Int) < rs.length by omega) h)
  refine EvQ.ite (fun _ => ?_) (fun h => absurd (show (0 : Int) ≤ i by omega) h)
  refine EvQ.ite (fun _ => ?_) (fun h => absurd (show (i : Int) < rs.length by omega) h)
  rw [hrd.out, hw.out]
  refine EvQ.bind hv ?_
  refine EvQ.ite (fun _ => EvQ.no (by decide)) (fun hv100 => ?_)
  refine pass2 hn hs hP d (i + 1) (by omega) (fun j y hj hy => ?_)
  rcases Nat.lt_or_ge j i with h | h
  ·exact hg j y h hy
  ·obtain rfl : j = i := by omega
   rw [hr] at hy
   cases hy
   exact ⟨v, hv, hv100⟩
include hf in
theorem pass1 (hn : rs.length ≤ 256) (hs : nodesOf rs ≤ 4096) (hP : (∀ r ∈ rs, Passes r) → P) : ∀ (d i : Nat), i + d = rs.length → (∀ j r, j < i → rs[j]? = some r → Ev (fun k => script_headed.f k r.f0 r.f1 r.f2) true ∧ Ev (fun k => script_shaped.f k r.f2) true) → EvQ (fun k => script_Check.l1 k rs (rs.length : Int) (i : Int) us rs) P
 | 0, i, hi, hg => by
  refine EvQ.step (fun _ => by rw [script_Check.l1]) ?_
  refine EvQ.ite (fun h => by omega) (fun _ => ?_)
  refine pass2 rs P hn hs (fun hN => hP (fun r hr => ?_)) rs.length 0 (by omega) (fun j r hj => by omega)
  have hN := hN r hr
  obtain ⟨j, hj, rfl⟩ := List.mem_iff_getElem.1 hr
  have := hg j _ (by omega) (List.getElem?_eq_getElem hj)
  exact ⟨this.1, this.2, hN⟩
 | d + 1, i, hi, hg => by
  have hlt : i < rs.length := by omega
  obtain ⟨r, hr⟩ : ∃ r, rs[i]? = some r := ⟨_, List.getElem?_eq_getElem hlt⟩
  have hm := nodes_mem rs r (List.mem_of_getElem? hr)
  have hfr := hf r (List.mem_of_getElem? hr)
  have hrd := aK (show rd_T40 rs (i : Int) = r by rw [rd_T40, Int.toNat_natCast, List.getD_eq_getElem?_getD, hr]; rfl)
  have hw := aK (show wrap64 ((i : Int) + 1) = ((i + 1 : Nat) : Int) by rw [w64] <;> omega)
  refine EvQ.step (fun _ => by rw [script_Check.l1]) ?_
  refine EvQ.ite (fun _ => ?_) (fun h => absurd (show (i : Int) < rs.length by omega) h)
  refine EvQ.ite (fun _ => ?_) (fun h => absurd (show (0 : Int) ≤ i by omega) h)
  refine EvQ.ite (fun _ => ?_) (fun h => absurd (show (i : Int) < rs.length by omega) h)
  rw [hrd.out, hw.out]
  refine EvQ.andThen (headed_any r.f0 r.f1 r.f2 hfr.params hfr.name).more (fun h1 => ?_) (EvQ.ite (fun h => by simp at h) (fun _ => EvQ.no (by decide)))
  refine EvQ.ite (fun _ => ?_) (fun h => absurd rfl h)
  refine EvQ.andThen (shaped_any r.f2 (by omega) hfr.texts).more (fun h2 => ?_) (EvQ.ite (fun h => by simp at h) (fun _ => EvQ.no (by decide)))
  refine EvQ.ite (fun _ => ?_) (fun h => absurd rfl h)
  refine pass1 hn hs hP d (i + 1) (by omega) (fun j y hj hy => ?_)
  rcases Nat.lt_or_ge j i with h | h
  ·exact hg j y h hy
  ·obtain rfl : j = i := by omega
   rw [hr] at hy
   cases hy
   exact ⟨h1, h2⟩
include hf in
theorem pass0 (hu : ∀ u ∈ us, u.f0.size ≤ 140737488351232) (hul : us.length ≤ 64) (hn : rs.length ≤ 256) (hs : nodesOf rs ≤ 4096) (hP : (∀ r ∈ rs, Passes r) → P) : ∀ (d i : Nat), i + d = us.length → EvQ (fun k => script_Check.l0 k us (us.length : Int) (i : Int) us rs) P
 | 0, i, hi => by
  refine EvQ.step (fun _ => by rw [script_Check.l0]) ?_
  refine EvQ.ite (fun h => by omega) (fun _ => ?_)
  exact pass1 us rs hf P hn hs hP rs.length 0 (by omega) (fun j r hj => by omega)
 | d + 1, i, hi => by
  have hlt : i < us.length := by omega
  obtain ⟨u, hr⟩ : ∃ u, us[i]? = some u := ⟨_, List.getElem?_eq_getElem hlt⟩
  have hrd := aK (show rd_T79 us (i : Int) = u by rw [rd_T79, Int.toNat_natCast, List.getD_eq_getElem?_getD, hr]; rfl)
  have hw := aK (show wrap64 ((i : Int) + 1) = ((i + 1 : Nat) : Int) by rw [w64] <;> omega)
  refine EvQ.step (fun _ => by rw [script_Check.l0]) ?_
  refine EvQ.ite (fun _ => ?_) (fun h => absurd (show (i : Int) < us.length by omega) h)
  refine EvQ.ite (fun _ => ?_) (fun h => absurd (show (0 : Int) ≤ i by omega) h)
  refine EvQ.ite (fun _ => ?_) (fun h => absurd (show (i : Int) < us.length by omega) h)
  rw [hrd.out, hw.out]
  refine EvQ.bind (sown_ev u.f0 (hu u (List.mem_of_getElem? hr))) ?_
  refine EvQ.ite (fun _ => ?_) (fun _ => EvQ.no (by decide))
  refine EvQ.ite (fun _ => EvQ.no (by decide)) (fun _ => ?_)
  refine EvQ.ite (fun _ => EvQ.no (by decide)) (fun _ => ?_)
  exact pass0 hu hul hn hs hP d (i + 1) (by omega)
end
theorem passes_of {us : List (S79)} {rs : List ER} (hu : ∀ u ∈ us, u.f0.size ≤ 140737488351232) (hf : ∀ r ∈ rs, FitR r) (h : Ev (fun k => script_Check.f k us rs) 0) : ∀ r ∈ rs, Passes r := by
 obtain ⟨v, h1, h2⟩ := long_any us rs (fun r hr => (hf r hr).len)
 have hq : EvQ (fun k => script_Check.f k us rs) (∀ r ∈ rs, Passes r) := by
  unfold script_Check.f
  refine EvQ.bind h1 ?_
  refine EvQ.ite (fun _ => EvQ.no (by decide)) (fun hv => ?_)
  obtain ⟨p1, p2, p3⟩ := h2 (by simpa using hv)
  refine EvQ.ite (fun _ => EvQ.no (by decide)) (fun h0 => ?_)
  exact pass0 us rs hf _ hu p1 p2 p3 id us.length 0 (by omega)
 obtain ⟨w, h3, h4⟩ := hq
 exact h4 (h3.det h)
section
variable (rs : List ER) (hp : ∀ r ∈ rs, Passes r) (hn : rs.length ≤ 256)
include hp hn in
theorem yes2 : ∀ (d i : Nat), i + d = rs.length → Ev (fun k => script_Check.l2 k rs (rs.length : Int) (i : Int)) 0
 | 0, i, hi => by
  refine Ev.step (fun _ => by rw [script_Check.l2]) ?_
  exact Ev.neg (by omega) (Ev.some_ rfl)
 | d + 1, i, hi => by
  have hlt : i < rs.length := by omega
  obtain ⟨r, hr⟩ : ∃ r, rs[i]? = some r := ⟨_, List.getElem?_eq_getElem hlt⟩
  have hrd := aK (show rd_T40 rs (i : Int) = r by rw [rd_T40, Int.toNat_natCast, List.getD_eq_getElem?_getD, hr]; rfl)
  have hw := aK (show wrap64 ((i : Int) + 1) = ((i + 1 : Nat) : Int) by rw [w64] <;> omega)
  obtain ⟨v, hv, hv2⟩ := (hp r (List.mem_of_getElem? hr)).nest
  refine Ev.step (fun _ => by rw [script_Check.l2]) ?_
  refine Ev.pos (by omega) (Ev.pos (by omega) (Ev.pos (by omega) ?_))
  rw [hrd.out, hw.out]
  refine Ev.bind hv ?_
  exact Ev.neg hv2 (yes2 d (i + 1) (by omega))
include hp hn in
theorem yes1 (us : List (S79)) : ∀ (d i : Nat), i + d = rs.length → Ev (fun k => script_Check.l1 k rs (rs.length : Int) (i : Int) us rs) 0
 | 0, i, hi => by
  refine Ev.step (fun _ => by rw [script_Check.l1]) ?_
  exact Ev.neg (by omega) (yes2 rs hp hn rs.length 0 (by omega))
 | d + 1, i, hi => by
  have hlt : i < rs.length := by omega
  obtain ⟨r, hr⟩ : ∃ r, rs[i]? = some r := ⟨_, List.getElem?_eq_getElem hlt⟩
  have hrd := aK (show rd_T40 rs (i : Int) = r by rw [rd_T40, Int.toNat_natCast, List.getD_eq_getElem?_getD, hr]; rfl)
  have hw := aK (show wrap64 ((i : Int) + 1) = ((i + 1 : Nat) : Int) by rw [w64] <;> omega)
  have hpr := hp r (List.mem_of_getElem? hr)
  refine Ev.step (fun _ => by rw [script_Check.l1]) ?_
  refine Ev.pos (by omega) (Ev.pos (by omega) (Ev.pos (by omega) ?_))
  rw [hrd.out, hw.out]
  refine Ev.bind hpr.head (Ev.pos rfl ?_)
  exact Ev.bind hpr.shape (Ev.pos rfl (yes1 us d (i + 1) (by omega)))
include hp hn in
/-- A grammar of such rules passes script's Check. -/
theorem check_yes (h0 : 1 ≤ rs.length) (hs : nodesOf rs ≤ 4096) : Ev (fun k => script_Check.f k [] rs) 0 := by
 unfold script_Check.f
 have hl : Ev (fun k => script_long.f k [] rs) false := by
  unfold script_long.f
  refine Ev.neg (by simp) ?_
  refine Ev.step (fun _ => by rw [script_long.j0]) ?_
  refine Ev.neg (by simp; omega) ?_
  have := long_loop rs (fun r hr => by have := nodes_mem rs r hr; omega) hn rs.length 0 0 (by omega) (by rw [List.drop_zero]; omega) (by omega)
  rwa [decide_eq_false (by omega)] at this
 refine Ev.bind hl (Ev.neg (by simp) (Ev.neg (by omega) ?_))
 refine Ev.step (fun _ => by rw [script_Check.l0]) ?_
 exact Ev.neg (by simp) (yes1 rs hp hn [] rs.length 0 (by omega))
end
section
variable (us : List (S79)) (rs : List ER) (hp : ∀ r ∈ rs, FlatR r) (hn : rs.length ≤ 256) (hs : nodesOf rs ≤ 4096)
theorem flatyes1 (i : Nat) (r : ER) (hl : r.f2.length ≤ 4096) (hr : ∀ x ∈ r.f2, x.f0 = 4 → x.f1 ≤ 0) (hnext : Ev (fun k => macro_Flat.l0 k rs (rs.length : Int) (wrap64 ((i : Int) + 1))) true) : ∀ (d j : Nat), j + d = r.f2.length → Ev (fun k => macro_Flat.l1 k rs (rs.length : Int) (i : Int) r.f2 (r.f2.length : Int) (j : Int)) true
 | 0, j, hj => by
  refine Ev.step (fun _ => by rw [macro_Flat.l1]) ?_
  exact Ev.neg (by omega) hnext
 | d + 1, j, hj => by
  have hlt : j < r.f2.length := by omega
  obtain ⟨x, hx⟩ : ∃ x, r.f2[j]? = some x := ⟨_, List.getElem?_eq_getElem hlt⟩
  have hrd := aK (show rd_T51 r.f2 (j : Int) = x by rw [rd_T51, Int.toNat_natCast, List.getD_eq_getElem?_getD, hx]; rfl)
  have hw := aK (show wrap64 ((j : Int) + 1) = ((j + 1 : Nat) : Int) by rw [w64] <;> omega)
  have hxr := hr x (List.mem_of_getElem? hx)
  refine Ev.step (fun _ => by rw [macro_Flat.l1]) ?_
  refine Ev.pos (by omega) (Ev.pos (by omega) (Ev.pos (by omega) ?_))
  rw [hrd.out, hw.out]
  have ih := flatyes1 i r hl hr hnext d (j + 1) (by omega)
  exact Ev.ite (fun h4 => Ev.neg (by have := hxr h4; omega) ih) (fun _ => ih)
include hp hn hs in
theorem flatyes0 : ∀ (d i : Nat), i + d = rs.length → Ev (fun k => macro_Flat.l0 k rs (rs.length : Int) (i : Int)) true
 | 0, i, hi => by
  refine Ev.step (fun _ => by rw [macro_Flat.l0]) ?_
  exact Ev.neg (by omega) (Ev.some_ rfl)
 | d + 1, i, hi => by
  have hlt : i < rs.length := by omega
  obtain ⟨r, hr⟩ : ∃ r, rs[i]? = some r := ⟨_, List.getElem?_eq_getElem hlt⟩
  have hm := nodes_mem rs r (List.mem_of_getElem? hr)
  have hpr := hp r (List.mem_of_getElem? hr)
  have hrd := aK (show rd_T40 rs (i : Int) = r by rw [rd_T40, Int.toNat_natCast, List.getD_eq_getElem?_getD, hr]; rfl)
  have hw := aK (show wrap64 ((i : Int) + 1) = ((i + 1 : Nat) : Int) by rw [w64] <;> omega)
  refine Ev.step (fun _ => by rw [macro_Flat.l0]) ?_
  refine Ev.pos (by omega) (Ev.pos (by omega) (Ev.pos (by omega) ?_))
  rw [hrd.out]
  refine Ev.neg (by rw [hpr.none_]; simp) ?_
  refine flatyes1 rs i r (by omega) hpr.plain ?_ r.f2.length 0 (by omega)
  rw [hw.out]
  exact flatyes0 d (i + 1) (by omega)
include hp hn hs in
theorem flat_yes : Ev (fun k => macro_Flat.f k us rs) true := by
 unfold macro_Flat.f
 exact flatyes0 rs hp hn hs rs.length 0 (by omega)
end
end Go.Proofs.YtihiicjnjhideaaDoor.Build
end
section
namespace Go.Proofs.YtihiicjnjhideaaDoor.Build
open Go.RowKit Go.Proofs.YtihiicjnjhideaaDoorW.PrintWords Go.Proofs.YtihiicjnjhideaaDoor.PAll Go.Proofs.YtihiicjnjhideaaDoor.Core Go.Proofs.YtihiicjnjhideaaDoor.Names
set_option linter.unusedVariables false
set_option linter.unusedSimpArgs false
def rot {α : Type} (k : Nat) (l : List α) : List α := l.drop k ++ l.take k
theorem rot_len {α : Type} {k : Nat} {l : List α} (h : k ≤ l.length) : (rot k l).length = l.length := by
 unfold rot
 rw [List.length_append, List.length_drop, List.length_take]
 omega
theorem rot_get {α : Type} {k i : Nat} {l : List α} (h : k < l.length) (hi : i < l.length) : (rot k l)[i]? = l[(i + k) % l.length]? := by
 unfold rot
 by_cases h1 : i + k < l.length
 ·rw [List.getElem?_append_left (by rw [List.length_drop]; omega), List.getElem?_drop, Nat.mod_eq_of_lt h1, Nat.add_comm]
 ·rw [List.getElem?_append_right (by rw [List.length_drop]; omega), List.length_drop, Nat.mod_eq_sub_mod (by omega), Nat.mod_eq_of_lt (by omega), List.getElem?_take_of_lt (by omega)]
  congr 1; omega
theorem rot_mem {α : Type} {k : Nat} {l : List α} {x : α} : x ∈ rot k l ↔ x ∈ l := by
 unfold rot
 rw [List.mem_append]
 constructor
 ·rintro (h | h)
  ·exact List.mem_of_mem_drop h
  ·exact List.mem_of_mem_take h
 ·intro h
  rw [← List.take_append_drop k l] at h
  rcases List.mem_append.1 h with h | h
  ·exact .inr h
  ·exact .inl h
theorem rot_nodup {α : Type} {k : Nat} {l : List α} (h : l.Nodup) : (rot k l).Nodup := by
 have : (l.take k ++ l.drop k).Nodup := by rw [List.take_append_drop]; exact h
 unfold rot
 exact (List.perm_append_comm.nodup_iff).1 this
theorem rot_map {α β : Type} (f : α → β) (k : Nat) (l : List α) : rot k (l.map f) = (rot k l).map f := by
 unfold rot
 rw [List.map_append, List.map_drop, List.map_take]
theorem rot_flat (k : Nat) (L : List (List CN)) : (rot k L).flatten.length = L.flatten.length := by
 unfold rot
 conv => rhs; rw [← List.take_append_drop k L]
 rw [List.flatten_append, List.flatten_append, List.length_append, List.length_append, Nat.add_comm]
theorem nodes_rot (k : Nat) (rs : List ER) : nodesOf (rot k rs) = nodesOf rs := by
 have ha : ∀ a b : List ER, nodesOf (a ++ b) = nodesOf a + nodesOf b := by
  intro a b
  induction a with
  | nil => rw [List.nil_append, nodesOf]; omega
  | cons r a ih => rw [List.cons_append, nodesOf, nodesOf, ih]; omega
 unfold rot
 conv => rhs; rw [← List.take_append_drop k rs]
 rw [ha, ha, Nat.add_comm]
/-- The number that a rule has in the other order. -/
def phi (n k : Nat) (z : Int) : Int := (((z.toNat + n - k) % n : Nat) : Int)
theorem phi_back {n k : Nat} {z : Int} (hk : k < n) (h0 : 0 ≤ z) (h1 : z < n) : (phi n k z + k).tmod n = z := by
 unfold phi
 rw [Int.tmod_eq_emod_of_nonneg (by omega)]
 obtain ⟨i, rfl⟩ : ∃ i : Nat, z = (i : Int) := ⟨z.toNat, by omega⟩
 rw [Int.toNat_natCast]
 have h2 : i < n := by omega
 have h3 : ((i + n - k) % n + k) % n = i := by
  rw [Nat.mod_add_mod, show i + n - k + k = i + n by omega, Nat.add_mod_right, Nat.mod_eq_of_lt h2]
 exact_mod_cast h3
theorem place_rot {S : List ByteArray} {x : ByteArray} {k : Nat} (hS : S.Nodup) (hk : k < S.length) (hx : x ∈ S) : placeN (rot k S) x = phi S.length k (placeN S x) := by
 have h1 := place_in hx
 have h2 := place_in (rot_mem (k := k).2 hx)
 rw [rot_len (by omega)] at h2
 obtain ⟨i, hi⟩ : ∃ i : Nat, placeN S x = (i : Int) := ⟨(placeN S x).toNat, by omega⟩
 obtain ⟨j, hj⟩ : ∃ j : Nat, placeN (rot k S) x = (j : Int) := ⟨(placeN (rot k S) x).toNat, by omega⟩
 rw [hi] at h1 ⊢
 rw [hj] at h2 ⊢
 rw [Int.toNat_natCast] at h1 h2
 have h3 : (rot k S)[(i + S.length - k) % S.length]? = some x := by
  have hlt : (i + S.length - k) % S.length < S.length := Nat.mod_lt _ (by omega)
  rw [rot_get hk hlt, Nat.mod_add_mod, show i + S.length - k + k = i + S.length by omega, Nat.add_mod_right, Nat.mod_eq_of_lt (by omega)]
  exact h1.2.2
 have h4 := (List.getElem?_inj (by rw [rot_len (by omega)]; omega) (rot_nodup (k := k) hS)).1 (h2.2.2.trans h3.symm)
 unfold phi
 rw [Int.toNat_natCast, ← h4]
def LaidAs (NM : ByteArray → Int) (t : T) (l : List CN) : Prop := wfT t ∧ (∀ x ∈ flatT t, MayF x) ∧ ∃ q, layT q NM t = some l
theorem layR_parts {NM : ByteArray → Int} : ∀ {ts : List T} {left : Int} {L : List (List CN)}, (∀ t ∈ ts, wfT t ∧ ∀ x ∈ flatT t, MayF x) → layR NM left ts = some L → ∀ (i : Nat) (t : T) (l : List CN), ts[i]? = some t → L[i]? = some l → LaidAs NM t l
 | [], left, L, _, h, i, t, l, h1, _ => by simp at h1
 | t :: ts, left, L, hx, h, i, u, l, h1, h2 => by
  rw [layR] at h
  obtain ⟨b, h3, h⟩ := Option.bind_eq_some_iff.1 h
  obtain ⟨bs, h4, h⟩ := Option.bind_eq_some_iff.1 h
  cases h
  cases i with
  | zero =>
   rw [List.getElem?_cons_zero] at h1 h2
   cases h1
   cases h2
   have := hx t (List.mem_cons_self ..)
   unfold ruleL at h3
   obtain ⟨l', h5, h6⟩ := Option.bind_eq_some_iff.1 h3
   split at h6
   ·cases h6; exact ⟨this.1, this.2, left, h5⟩
   ·cases h6
  | succ i => exact layR_parts (fun y hy => hx y (List.mem_cons_of_mem _ hy)) h4 i u l (by simpa using h1) (by simpa using h2)
theorem layR_make {NM : ByteArray → Int} : ∀ {ts : List T} {left : Int} {L : List (List CN)}, L.length = ts.length → (∀ (i : Nat) (t : T) (l : List CN), ts[i]? = some t → L[i]? = some l → LaidAs NM t l) → (L.flatten.length : Int) ≤ left → layR NM left ts = some L
 | [], left, [], _, _, _ => rfl
 | t :: ts, left, l :: L, hlen, h, hle => by
  obtain ⟨h1, h2, q, h3⟩ := h 0 t l rfl rfl
  rw [List.flatten_cons, List.length_append] at hle
  rw [layR, ruleL, layT_grow t h1 h2 h3 (left' := left) (by omega)]
  show (if (l.length : Int) ≤ left then some l else none).bind _ = _
  rw [if_pos (by omega)]
  show (layR NM (left - l.length) ts).bind _ = _
  rw [layR_make (L := L) (by simpa using hlen) (fun i u m hu hm => h (i + 1) u m (by simpa using hu) (by simpa using hm)) (by omega)]
  rfl
theorem body_clean {r : Int} : ∀ {l : List CN} {d : Int}, bodyB r l d = true → ∀ x ∈ l, cleanB x r = true
 | [], _, _, x, hx => by simp at hx
 | n :: l, d, h, x, hx => by
  rw [bodyB] at h
  split at h
  ·cases h
  ·rename_i hc
   rcases List.mem_cons.1 hx with rfl | hx
   ·cases hcb : cleanB x r with
    | true => rfl
    | false => exact absurd (.inr (.inr hcb)) hc
   ·exact body_clean h x hx
theorem clean_rule {x : CN} {r : Int} (h : cleanB x r = true) (h2 : x.f0 = 2) : 0 ≤ x.f2 ∧ x.f2 < r := by
 rw [cleanB_2 x r h2] at h
 simp only [Bool.and_eq_true, decide_eq_true_eq] at h
 exact h.1.2
/-- A node told by the first order's numbers. -/
def turnN (n k : Nat) (x : CN) : CN := if x.f0 = 2 then { x with f2 := (x.f2 + k).tmod n } else x
theorem turn_back {n k : Nat} (hk : k < n) {y : CN} (h : cleanB y n = true) : turnN n k (mapN (phi n k) y) = y := by
 unfold turnN mapN
 by_cases h2 : y.f0 = 2
 ·rw [if_pos h2, if_pos h2]
  have := clean_rule h h2
  show ({ y with f2 := (phi n k y.f2 + k).tmod n } : CN) = y
  rw [phi_back hk this.1 this.2]
 ·rw [if_neg h2, if_neg h2]
theorem names_rot (k : Nat) (rs : List ER) : namesOf (rot k rs) = rot k (namesOf rs) := (rot_map _ k rs).symm
/-- What is built of the rules in another order. -/
theorem out_rot {us : List EU} {rs : List ER} {start : ByteArray} {ts : List T} {L : List (List CN)} {k : Nat} {l' : List CR} {s' at_ code : Int} (hfu : ∀ u ∈ us, u.f0.size ≤ 140737488351232) (hfit : ∀ r ∈ rs, FitR r) (ht : Trees rs ts) (hk : k < rs.length)
  (h1 : Ev (fun k => script_Check.f k us rs) 0) (h2 : Ev (fun k => macro_Flat.f k us rs) true) (h3 : (namesOf rs).Nodup) (h4 : ∀ r ∈ rs, knownR (namesOf rs) r) (h5 : start ∈ namesOf rs) (h6 : layR (placeN (namesOf rs)) 16384 ts = some L)
  (h : Out [] (rot k rs) start (rot k ts) l' s' at_ code) : at_ = 0 ∧ code = 0 ∧ l' = mkC (rot k (namesOf rs)) (rot k (L.map (mapB (phi rs.length k)))) ∧ s' = phi rs.length k (placeN (namesOf rs) start) := by
 have hck : Checked rs := by obtain ⟨v, hv, hv2⟩ := check_any us rs hfu hfit; exact hv2 (hv.det h1)
 have hfl : ∀ r ∈ rs, FlatR r := by obtain ⟨b, hb, hb2⟩ := flat_any us rs hck.few hck.nodes; exact hb2 (hb.det h2)
 have hps := passes_of hfu hfit h1
 have hSl : (namesOf rs).length = rs.length := by unfold namesOf; rw [List.length_map]
 have hLl : L.length = ts.length := layR_len h6
 have htl := ht.len
 have hrl := rot_len (l := rs) (k := k) (by omega)
 have e1 : Ev (fun k' => script_Check.f k' [] (rot k rs)) 0 := check_yes (rot k rs) (fun r hr => hps r (rot_mem.1 hr)) (by rw [hrl]; exact hck.few) (by rw [hrl]; exact hck.pos) (by rw [nodes_rot]; exact hck.nodes)
 have e2 : Ev (fun k' => macro_Flat.f k' [] (rot k rs)) true := flat_yes [] (rot k rs) (fun r hr => hfl r (rot_mem.1 hr)) (by rw [hrl]; exact hck.few) (by rw [nodes_rot]; exact hck.nodes)
 have hparts : ∀ t ∈ ts, wfT t ∧ ∀ x ∈ flatT t, MayF x := fun t hm => by
  obtain ⟨i, hi⟩ := List.getElem?_of_mem hm
  obtain ⟨r, hr⟩ : ∃ r, rs[i]? = some r := ⟨_, List.getElem?_eq_getElem (by have := (List.getElem?_eq_some_iff.1 hi).1; omega)⟩
  have h7 := ht.at_ i r t hr hi
  refine ⟨h7.1, fun x hx => ?_⟩
  rw [h7.2] at hx
  exact ⟨(hck.good r (List.mem_of_getElem? hr)).body.may x hx, (hfl r (List.mem_of_getElem? hr)).plain x hx⟩
 have hla := layR_parts hparts h6
 have e6 : layR (placeN (namesOf (rot k rs))) 16384 (rot k ts) = some (rot k (L.map (mapB (phi rs.length k)))) := by
  refine layR_make (by rw [rot_len (by rw [List.length_map]; omega), rot_len (by omega), List.length_map, hLl]) (fun i t l hti hli => ?_) ?_
  ·have hi : i < ts.length := by have := (List.getElem?_eq_some_iff.1 hti).1; rwa [rot_len (by omega)] at this
   rw [rot_get (by omega) hi] at hti
   rw [rot_get (by rw [List.length_map]; omega) (by rw [List.length_map]; omega), List.length_map, hLl, List.getElem?_map] at hli
   obtain ⟨b, hb, hb2⟩ := Option.map_eq_some_iff.1 hli
   subst hb2
   obtain ⟨p1, p2, q, p3⟩ := hla _ t b hti hb
   refine ⟨p1, p2, q, ?_⟩
   have h8 : layT q (placeN (namesOf (rot k rs))) t = layT q (fun s => phi rs.length k (placeN (namesOf rs) s)) t := layT_same t (fun x hx h4' => by
    obtain ⟨r, hr⟩ : ∃ r, rs[(i + k) % ts.length]? = some r := ⟨_, List.getElem?_eq_getElem (by have := Nat.mod_lt (i + k) (show 0 < ts.length by omega); omega)⟩
    have h9 := ht.at_ _ r t hr hti
    rw [h9.2] at hx
    rw [names_rot, place_rot h3 (by omega) (h4 r (List.mem_of_getElem? hr) x hx h4'), hSl])
   rw [h8, layT_map, p3]
   rfl
  ·rw [rot_flat]
   have h7 := layR_le (by decide) h6
   have : (L.map (mapB (phi rs.length k))).flatten.length = L.flatten.length := by
    have : (L.map (mapB (phi rs.length k))).flatten = mapB (phi rs.length k) L.flatten := by rw [mapB, List.map_flatten]
    rw [this, List.length_map]
   omega
 cases h with
 | shape v hv hv0 => exact absurd (hv.det e1) hv0
 | params hp => exact absurd (hp.det e2) (by decide)
 | twice i r hr hin =>
  exfalso
  have hnd : (namesOf (rot k rs)).Nodup := by rw [names_rot]; exact rot_nodup h3
  obtain ⟨j, hj⟩ := List.getElem?_of_mem hin
  have hji : j < i := by
   have := (List.getElem?_eq_some_iff.1 hj).1
   unfold namesOf at this
   rw [List.length_map, List.length_take] at this
   omega
  have hj2 : (namesOf (rot k rs))[j]? = some r.f0 := by
   unfold namesOf at hj ⊢
   rw [List.map_take, List.getElem?_take_of_lt hji] at hj
   exact hj
  have hi2 : (namesOf (rot k rs))[i]? = some r.f0 := by unfold namesOf; rw [List.getElem?_map, hr]; rfl
  have := (List.getElem?_inj (List.getElem?_eq_some_iff.1 hj2).1 hnd).1 (hj2.trans hi2.symm)
  omega
 | unknown i r hr hun =>
  refine absurd (fun x hx h4' => ?_) hun
  rw [names_rot]
  exact rot_mem.2 (h4 r (rot_mem.1 (List.mem_of_getElem? hr)) x hx h4')
 | start hs => exact absurd (by rw [names_rot]; exact rot_mem.2 h5) hs
 | budget i hi hb =>
  have := layR_none (us := (rot k ts).drop (i + 1)) hb
  rw [List.take_append_drop, e6] at this
  cases this
 | built L' q1 q2 q3 q4 q5 q6 =>
  rw [e6] at q6
  cases q6
  refine ⟨rfl, rfl, by rw [names_rot], ?_⟩
  rw [names_rot, place_rot h3 (by omega) h5, hSl]
end Go.Proofs.YtihiicjnjhideaaDoor.Build
end
