/- Parts of the proof of coreOrder: BuildRight, BuildChecked. No condition beyond each lemma's own. -/
import Derived.Test.YtihiicjnjhideaaDoorTO31
import Derived.Test.YtihiicjnjhideaaDoorTO35
section
namespace Go.Proofs.YtihiicjnjhideaaDoor.Build
open Go.RowKit Go.Proofs.YtihiicjnjhideaaDoorW.PrintWords Go.Proofs.YtihiicjnjhideaaDoor.PAll Go.Proofs.YtihiicjnjhideaaDoor.Core Go.Proofs.YtihiicjnjhideaaDoor.Names
set_option linter.unusedVariables false
set_option linter.unusedSimpArgs false
theorem body_node {r : Int} {x : CN} {rest : List CN} {d : Int} (h0 : 0 ≤ ct x.f0) (h1 : ct x.f0 ≤ d) (h2 : cleanB x r = true) : bodyB r (x :: rest) d = bodyB r rest (d - ct x.f0 + 1) := by
 rw [bodyB, if_neg (by rw [h2]; simp; omega)]
/-- A body that is one tree. -/
def RightL (r : Int) (l : List CN) : Prop := ∀ (d : Int) (rest : List CN), 0 ≤ d → bodyB r (l ++ rest) d = bodyB r rest (d + 1)
theorem RightL.leaf {r : Int} {x : CN} (h0 : ct x.f0 = 0) (h2 : cleanB x r = true) : RightL r [x] := fun d rest hd => by
 rw [List.singleton_append, body_node (by omega) (by omega) h2, h0]
 congr 1; omega
theorem body_one {r : Int} {x : CN} {rest : List CN} {d : Int} (h0 : ct x.f0 = 1) (h2 : cleanB x r = true) (hd : 1 ≤ d) : bodyB r (x :: rest) d = bodyB r rest d := by
 rw [body_node (by omega) (by omega) h2, h0]
 congr 1; omega
theorem body_two {r : Int} {x : CN} {rest : List CN} {d : Int} (h0 : ct x.f0 = 2) (h2 : cleanB x r = true) (hd : 2 ≤ d) : bodyB r (x :: rest) d = bodyB r rest (d - 1) := by
 rw [body_node (by omega) (by omega) h2, h0]
 congr 1; omega
theorem clean_op {r k : Int} (hk : k = 0 ∨ k = 4 ∨ k = 5 ∨ k = 6 ∨ k = 7) : cleanB (opN k) r = true := by
 rcases hk with rfl | rfl | rfl | rfl | rfl <;> rfl
theorem RightL.zero (r : Int) : RightL r [opN 0] := RightL.leaf (by decide) (clean_op (.inl rfl))
theorem RightL.set (r : Int) (cl : List Int) : RightL r [setN cl] := RightL.leaf rfl rfl
theorem many_right {r : Int} : ∀ {L : List (List CN)}, (∀ l ∈ L, RightL r l) → ∀ (d : Int) (rest : List CN), 0 ≤ d → bodyB r (L.flatten ++ rest) d = bodyB r rest (d + L.length)
 | [], _, d, rest, _ => by simp
 | l :: L, h, d, rest, hd => by
  rw [List.flatten_cons, List.append_assoc, h l (List.mem_cons_self ..) d _ hd, many_right (fun x hx => h x (List.mem_cons_of_mem _ hx)) (d + 1) rest (by omega), List.length_cons]
  congr 1; omega
theorem ops_right {r k : Int} (hk : k = 4 ∨ k = 5) : ∀ (m : Nat) (d : Int) (rest : List CN), (m : Int) + 1 ≤ d → bodyB r ((List.replicate m [opN k]).flatten ++ rest) d = bodyB r rest (d - m)
 | 0, d, rest, _ => by simp
 | m + 1, d, rest, hd => by
  rw [List.replicate_succ, List.flatten_cons, List.append_assoc, List.singleton_append, body_two (by rcases hk with rfl | rfl <;> rfl) (clean_op (by omega)) (by omega), ops_right hk m (d - 1) rest (by omega)]
  congr 1; omega
theorem joinL_some {left : Int} {L : List (List CN)} {l : List CN} (h : joinL left L = some l) : l = L.flatten := by
 unfold joinL at h
 split at h
 ·cases h
 ·cases h; rfl
theorem rowL_right {r left k : Int} {L : List (List CN)} {l : List CN} (hk : k = 4 ∨ k = 5) (hL : ∀ l ∈ L, RightL r l) (h : rowL left k L = some l) : RightL r l := by
 unfold rowL at h
 split at h
 ·cases h; exact RightL.zero r
 ·rename_i hne
  rw [joinL_some h]
  intro d rest hd
  have hp : 0 < L.length := List.length_pos_iff.2 hne
  rw [List.flatten_append, List.append_assoc, many_right hL d _ hd, ops_right hk (L.length - 1) (d + L.length) rest (by omega)]
  congr 1; omega
theorem star_right {r left : Int} {b l : List CN} {k : Int} (hk : k = 6 ∨ k = 7) (hb : RightL r b) (h : joinL left [b, [opN k]] = some l) : RightL r l := by
 rw [joinL_some h]
 intro d rest hd
 show bodyB r ((b ++ ([opN k] ++ [])) ++ rest) d = _
 rw [List.append_nil, List.append_assoc, hb d _ hd, List.singleton_append, body_one (by rcases hk with rfl | rfl <;> rfl) (clean_op (by omega)) (by omega)]
theorem perh_right {r left : Int} {b : List CN} (hb : RightL r b) : ∀ {n : Nat} {l : List CN}, perhL left b n = some l → RightL r l
 | 0, l, h => by cases h
 | 1, l, h => by
  rw [joinL_some h]
  intro d rest hd
  show bodyB r ((b ++ ([opN 0] ++ ([opN 5] ++ []))) ++ rest) d = _
  rw [List.append_nil, List.append_assoc, hb d _ hd, List.append_assoc, RightL.zero r (d + 1) _ (by omega), List.singleton_append, body_two rfl (clean_op (by omega)) (by omega)]
  congr 1; omega
 | n + 2, l, h => by
  obtain ⟨o, h1, h2⟩ := Option.bind_eq_some_iff.1 h
  have ho := perh_right hb h1
  rw [joinL_some h2]
  intro d rest hd
  show bodyB r ((b ++ (o ++ ([opN 4] ++ ([opN 0] ++ ([opN 5] ++ []))))) ++ rest) d = _
  rw [List.append_nil, List.append_assoc, hb d _ hd, List.append_assoc, ho (d + 1) _ (by omega), List.append_assoc, List.singleton_append, body_two rfl (clean_op (by omega)) (by omega), List.append_assoc, RightL.zero r _ _ (by omega), List.singleton_append, body_two rfl (clean_op (by omega)) (by omega)]
  congr 1; omega
theorem count_right {r left : Int} {b l : List CN} {lo : Nat} {hi : Int} (hb : RightL r b) (h : countL left b lo hi = some l) : RightL r l := by
 unfold countL at h
 obtain ⟨t, ht, h⟩ := Option.bind_eq_some_iff.1 h
 refine rowL_right (.inl rfl) (fun x hx => ?_) h
 rcases List.mem_append.1 hx with hx | hx
 ·rw [List.eq_of_mem_replicate hx]; exact hb
 ·unfold tailL at ht
  split at ht
  ·obtain ⟨y, hy, rfl⟩ := Option.map_eq_some_iff.1 ht
   rw [List.mem_singleton.1 hx]
   exact star_right (.inl rfl) hb hy
  ·split at ht
   ·obtain ⟨y, hy, rfl⟩ := Option.map_eq_some_iff.1 ht
    rw [List.mem_singleton.1 hx]
    exact perh_right hb hy
   ·cases ht; simp at hx
theorem lit_right {r left : Int} {f : Bool} {s : ByteArray} {l : List CN} (h : litL left f s = some l) : RightL r l := by
 unfold litL at h
 split at h
 ·cases h
 ·refine rowL_right (.inl rfl) (fun x hx => ?_) h
  unfold litB at hx
  obtain ⟨b, _, rfl⟩ := List.mem_map.1 hx
  exact RightL.set r _
theorem place_inK {κ : Type} [DecidableEq κ] {S : List κ} {x : κ} (h : x ∈ S) : 0 ≤ placeK S x ∧ placeK S x < S.length ∧ S[(placeK S x).toNat]? = some x := by
 unfold placeK
 rw [if_pos (inD_yes h)]
 have h1 := List.idxOf_lt_length_iff.2 h
 refine ⟨by omega, by omega, ?_⟩
 rw [Int.toNat_natCast, List.getElem?_eq_getElem h1, List.getElem_idxOf]
theorem place_in {S : List ByteArray} {x : ByteArray} (h : x ∈ S) : 0 ≤ placeN S x ∧ placeN S x < S.length ∧ S[(placeN S x).toNat]? = some x := place_inK h
theorem fin_right {S : List ByteArray} {left : Int} {n : EN} {L : List (List CN)} {l : List CN} (hm : May n) (hk : n.f0 = 4 → n.f2 ∈ S) (h1 : 8 ≤ n.f0 → L.length = 1) (hL : ∀ l ∈ L, RightL S.length l) (h : finL left (placeN S) n L = some l) : RightL S.length l := by
 have hb : 8 ≤ n.f0 → RightL S.length (L.getD 0 []) := fun h8 => by
  have := h1 h8
  match L, this, hL with
  | [b], _, hL => exact hL b (List.mem_singleton.2 rfl)
 unfold finL at h
 by_cases h0 : n.f0 = 0
 ·rw [if_pos h0] at h; cases h; exact RightL.zero _
 rw [if_neg h0] at h
 by_cases h0 : n.f0 = 2
 ·rw [if_pos h0] at h; cases h; exact RightL.set _ _
 rw [if_neg h0] at h
 by_cases h0 : n.f0 = 3
 ·rw [if_pos h0] at h; cases h; exact RightL.set _ _
 rw [if_neg h0] at h
 by_cases h0 : n.f0 = 4
 ·rw [if_pos h0] at h; cases h
  have hp := place_in (hk h0)
  refine RightL.leaf rfl ?_
  rw [cleanB_2 _ _ rfl]
  show (zeroC _ && (decide (0 ≤ placeN S n.f2) && decide (placeN S n.f2 < (S.length : Int))) && _) = true
  rw [decide_eq_true hp.1, decide_eq_true hp.2.1]
  rfl
 rw [if_neg h0] at h
 by_cases h0 : n.f0 = 5
 ·rw [if_pos h0] at h; cases h
  have ho := hm.own (.inl h0)
  unfold okName at ho
  rw [Bool.and_eq_true] at ho
  refine RightL.leaf rfl ?_
  rw [cleanB_38 _ _ (.inl rfl)]
  show (zeroC _ && _ && (isName n.f2.data.toList && isOwn n.f2.data.toList)) = true
  rw [ho.1, ho.2]
  rfl
 rw [if_neg h0] at h
 by_cases h0 : n.f0 = 1
 ·rw [if_pos h0] at h; exact lit_right h
 rw [if_neg h0] at h
 by_cases h0 : n.f0 = 6
 ·rw [if_pos h0] at h; exact rowL_right (.inl rfl) hL h
 rw [if_neg h0] at h
 by_cases h0 : n.f0 = 7
 ·rw [if_pos h0] at h; exact rowL_right (.inr rfl) hL h
 rw [if_neg h0] at h
 have h8 : 8 ≤ n.f0 := by have := hm.lo; omega
 have hb := hb h8
 generalize L.getD 0 [] = b at *
 by_cases h0 : n.f0 = 8
 ·rw [if_pos h0] at h; exact perh_right hb h
 rw [if_neg h0] at h
 by_cases h0 : n.f0 = 9
 ·rw [if_pos h0] at h; exact star_right (.inl rfl) hb h
 rw [if_neg h0] at h
 by_cases h0 : n.f0 = 10
 ·rw [if_pos h0] at h
  rw [joinL_some h]
  intro d rest hd
  show bodyB _ ((b ++ (b ++ ([opN 6] ++ ([opN 4] ++ [])))) ++ rest) d = _
  rw [List.append_nil, List.append_assoc, hb d _ hd, List.append_assoc, hb (d + 1) _ (by omega), List.append_assoc, List.singleton_append, body_one rfl (clean_op (by omega)) (by omega), List.singleton_append, body_two rfl (clean_op (by omega)) (by omega)]
  congr 1; omega
 rw [if_neg h0] at h
 by_cases h0 : n.f0 = 11
 ·rw [if_pos h0] at h; exact count_right hb h
 rw [if_neg h0] at h
 by_cases h0 : n.f0 = 12
 ·rw [if_pos h0] at h
  rw [joinL_some h]
  intro d rest hd
  show bodyB _ ((b ++ ([opN 7] ++ ([opN 7] ++ []))) ++ rest) d = _
  rw [List.append_nil, List.append_assoc, hb d _ hd, List.append_assoc, List.singleton_append, body_one rfl (clean_op (by omega)) (by omega), List.singleton_append, body_one rfl (clean_op (by omega)) (by omega)]
 rw [if_neg h0] at h
 by_cases h0 : n.f0 = 13
 ·rw [if_pos h0] at h; exact star_right (.inr rfl) hb h
 rw [if_neg h0] at h
 have ho := hm.own (.inr (by have := hm.hi; omega))
 unfold okName at ho
 rw [Bool.and_eq_true] at ho
 rw [joinL_some h]
 intro d rest hd
 show bodyB _ ((b ++ ([_] ++ [])) ++ rest) d = _
 rw [List.append_nil, List.append_assoc, hb d _ hd, List.singleton_append, body_one rfl (by
  rw [cleanB_38 _ _ (.inr rfl)]
  show (zeroC _ && _ && (isName n.f2.data.toList && isOwn n.f2.data.toList)) = true
  rw [ho.1, ho.2]
  rfl) (by omega)]
mutual
theorem lay_right {S : List ByteArray} {left : Int} : ∀ (t : T) {l : List CN}, wfT t → (∀ x ∈ flatT t, May x ∧ (x.f0 = 4 → x.f2 ∈ S)) → layT left (placeN S) t = some l → RightL S.length l
 | .mk n ps, l, hw, hx, h => by
  rw [wfT] at hw
  rw [flatT] at hx
  have hn := hx n (List.mem_append_right _ (List.mem_singleton.2 rfl))
  rw [layT] at h
  split at h
  ·cases h; exact RightL.zero _
  ·obtain ⟨L, h1, h2⟩ := Option.bind_eq_some_iff.1 h
   refine fin_right hn.1 hn.2 (fun h8 => ?_) (layF_right ps hw.2 (fun x h => hx x (List.mem_append_left _ h)) h1) h2
   have := hn.1.one (by have := hn.1.hi; omega)
   rw [layF_len h1]
   omega
theorem layF_right {S : List ByteArray} {left : Int} : ∀ (ps : List T) {L : List (List CN)}, wfF ps → (∀ x ∈ flatF ps, May x ∧ (x.f0 = 4 → x.f2 ∈ S)) → layF left (placeN S) ps = some L → ∀ l ∈ L, RightL S.length l
 | [], L, _, _, h => by rw [layF] at h; cases h; simp
 | t :: ps, L, hw, hx, h => by
  rw [wfF] at hw
  rw [flatF] at hx
  rw [layF] at h
  obtain ⟨b, h1, h⟩ := Option.bind_eq_some_iff.1 h
  obtain ⟨bs, h2, h⟩ := Option.bind_eq_some_iff.1 h
  cases h
  intro l hl
  rcases List.mem_cons.1 hl with rfl | hl
  ·exact lay_right t hw.1 (fun x h => hx x (List.mem_append_left _ h)) h1
  ·exact layF_right ps hw.2 (fun x h => hx x (List.mem_append_right _ h)) h2 l hl
end
theorem layR_right {S : List ByteArray} : ∀ {ts : List T} {left : Int} {L : List (List CN)}, (∀ t ∈ ts, wfT t ∧ ∀ x ∈ flatT t, May x ∧ (x.f0 = 4 → x.f2 ∈ S)) → layR (placeN S) left ts = some L → ∀ l ∈ L, RightL S.length l
 | [], left, L, _, h => by rw [layR] at h; cases h; simp
 | t :: ts, left, L, hx, h => by
  rw [layR] at h
  obtain ⟨b, h1, h⟩ := Option.bind_eq_some_iff.1 h
  obtain ⟨bs, h2, h⟩ := Option.bind_eq_some_iff.1 h
  cases h
  intro l hl
  rcases List.mem_cons.1 hl with rfl | hl
  ·unfold ruleL at h1
   obtain ⟨l', h3, h4⟩ := Option.bind_eq_some_iff.1 h1
   split at h4
   ·cases h4
    exact lay_right t (hx t (List.mem_cons_self ..)).1 (hx t (List.mem_cons_self ..)).2 h3
   ·cases h4
  ·exact layR_right (fun y hy => hx y (List.mem_cons_of_mem _ hy)) h2 l hl
end Go.Proofs.YtihiicjnjhideaaDoor.Build
end
section
namespace Go.Proofs.YtihiicjnjhideaaDoor.Build
open Go.RowKit Go.Proofs.YtihiicjnjhideaaDoorW.PrintWords Go.Proofs.YtihiicjnjhideaaDoor.PAll Go.Proofs.YtihiicjnjhideaaDoor.Core Go.Proofs.YtihiicjnjhideaaDoor.Names
set_option linter.unusedVariables false
set_option linter.unusedSimpArgs false
theorem clean_fit {x : CN} {r : Int} (h : cleanB x r = true) : FitN x := by
 unfold cleanB at h
 rw [Bool.and_eq_true] at h
 have h2 := h.2
 unfold nameB at h2
 unfold FitN
 rw [size_list]
 split at h2
 ·rw [Bool.and_eq_true] at h2
  have := (isName_all h2.1).1
  omega
 ·have h3 : x.f3.data.toList = [] := by simpa using h2
  rw [h3]; decide
theorem body_fit {r : Int} : ∀ {l : List CN} {d : Int}, bodyB r l d = true → ∀ x ∈ l, FitN x
 | [], _, _, x, hx => by simp at hx
 | n :: l, d, h, x, hx => by
  rw [bodyB] at h
  split at h
  ·cases h
  ·rename_i hc
   rcases List.mem_cons.1 hx with rfl | hx
   ·exact clean_fit (by cases hcb : cleanB x r with | true => rfl | false => exact absurd (.inr (.inr hcb)) hc)
   ·exact body_fit h x hx
theorem right_body {r : Int} {l : List CN} (h : RightL r l) : bodyB r l 0 = true := by
 have := h 0 [] (by decide)
 rw [List.append_nil] at this
 rw [this]
 rfl
abbrev mkC (S : List ByteArray) (L : List (List CN)) : List CR := List.zipWith (fun x l => (⟨x, l⟩ : CR)) S L
theorem mkC_len {S : List ByteArray} {L : List (List CN)} (h : L.length = S.length) : (mkC S L).length = S.length := by rw [List.length_zipWith, h, Nat.min_self]
theorem mkC_get {S : List ByteArray} {L : List (List CN)} {i : Nat} {x : ByteArray} {l : List CN} (h1 : S[i]? = some x) (h2 : L[i]? = some l) : (mkC S L)[i]? = some ⟨x, l⟩ := by rw [List.getElem?_zipWith, h1, h2]
theorem mkC_size : ∀ (S : List ByteArray) (L : List (List CN)), L.length = S.length → sizeL (mkC S L) = (L.flatten.length : Int)
 | [], [], _ => rfl
 | x :: S, l :: L, h => by
  show sizeL (⟨x, l⟩ :: mkC S L) = _
  rw [sizeL, mkC_size S L (by simpa using h), List.flatten_cons, List.length_append]
  show (l.length : Int) + _ = _
  omega
theorem mkC_mem {S : List ByteArray} {L : List (List CN)} {c : CR} (h : c ∈ mkC S L) : c.f0 ∈ S ∧ c.f1 ∈ L := by
 obtain ⟨i, hi⟩ := List.getElem?_of_mem h
 rw [List.getElem?_zipWith] at hi
 cases h1 : S[i]? with
 | none => rw [h1] at hi; simp at hi
 | some x =>
  cases h2 : L[i]? with
  | none => rw [h1, h2] at hi; simp at hi
  | some l =>
   rw [h1, h2] at hi
   cases hi
   exact ⟨List.mem_of_getElem? h1, List.mem_of_getElem? h2⟩
/-- What stands of a core grammar that was built. -/
structure Built (rs : List ER) (start : ByteArray) (l : List CR) (st : Int) : Prop where
 check : checkB l st = true
 fit : Fit l
 size : sizeL l ≤ 16384
 len : l.length = rs.length
 st0 : 0 ≤ st
 st1 : st < rs.length
 names : ∀ (i : Nat) (r : ER), rs[i]? = some r → ∃ c, l[i]? = some c ∧ c.f0 = r.f0
 start : ∃ r, rs[st.toNat]? = some r ∧ r.f0 = start
theorem built_right {rs : List ER} {start : ByteArray} {ts : List T} {L : List (List CN)} (hc : Checked rs) (ht : Trees rs ts) (hn : (namesOf rs).Nodup) (hk : ∀ r ∈ rs, knownR (namesOf rs) r) (hs : start ∈ namesOf rs) (hL : layR (placeN (namesOf rs)) 16384 ts = some L) : Built rs start (mkC (namesOf rs) L) (placeN (namesOf rs) start) := by
 have hSl : (namesOf rs).length = rs.length := by unfold namesOf; rw [List.length_map]
 have hLl : L.length = (namesOf rs).length := by rw [layR_len hL, ht.len, hSl]
 have hl := mkC_len hLl
 have hsz := mkC_size _ _ hLl
 have hle := layR_le (by decide) hL
 have hp := place_in hs
 have hR := layR_right (S := namesOf rs) (fun t hm => by
  obtain ⟨i, hi⟩ := List.getElem?_of_mem hm
  obtain ⟨r, hr⟩ : ∃ r, rs[i]? = some r := ⟨_, List.getElem?_eq_getElem (by have := (List.getElem?_eq_some_iff.1 hi).1; rw [ht.len] at this; exact this)⟩
  have h1 := ht.at_ i r t hr hi
  refine ⟨h1.1, fun x hx => ?_⟩
  rw [h1.2] at hx
  exact ⟨(hc.good r (List.mem_of_getElem? hr)).body.may x hx, hk r (List.mem_of_getElem? hr) x hx⟩) hL
 have hbody : ∀ l ∈ L, l.length ≤ 16384 := fun l hl => by
  have : l.length ≤ L.flatten.length := by
   obtain ⟨a, b, rfl⟩ := List.append_of_mem hl
   rw [List.flatten_append, List.length_append, List.flatten_cons, List.length_append]
   omega
  omega
 have hname : ∀ x ∈ namesOf rs, isName x.data.toList = true := fun x hx => by
  obtain ⟨r, hr, rfl⟩ := List.mem_map.1 hx
  exact (hc.good r hr).name
 have hfew := hc.few
 have hpos := hc.pos
 refine ⟨?_, ⟨by rw [hl, hSl]; omega, fun c hm => ?_⟩, by rw [hsz]; exact hle, by rw [hl, hSl], hp.1, by rw [← hSl]; exact hp.2.1, fun i r hr => ?_, ?_⟩
 ·unfold checkB
  rw [Bool.and_eq_true]
  constructor
  ·unfold boundsB
   rw [hl, hSl, hsz, decide_eq_true hpos, decide_eq_true hfew, decide_eq_true hp.1, decide_eq_true (by rw [← hSl]; exact hp.2.1), decide_eq_true hle]
   rfl
  ·rw [allFrom_iff]
   intro i _ hi
   rw [Nat.zero_add, hl, hSl] at hi
   obtain ⟨r, hr⟩ : ∃ r, rs[i]? = some r := ⟨_, List.getElem?_eq_getElem hi⟩
   obtain ⟨l, hli⟩ : ∃ l, L[i]? = some l := ⟨_, List.getElem?_eq_getElem (by rw [hLl, hSl]; exact hi)⟩
   have hSi : ∀ {j : Nat} {q : ER}, rs[j]? = some q → (namesOf rs)[j]? = some q.f0 := fun h => by unfold namesOf; rw [List.getElem?_map, h]; rfl
   have hnm : ∀ {j : Nat} {q : ER}, rs[j]? = some q → nm (mkC (namesOf rs) L) j = q.f0.data.toList := fun {j q} h => by
    obtain ⟨l2, hl2⟩ : ∃ l, L[j]? = some l := ⟨_, List.getElem?_eq_getElem (by rw [hLl, hSl]; exact (List.getElem?_eq_some_iff.1 h).1)⟩
    unfold nm
    rw [List.getD_eq_getElem?_getD, mkC_get (hSi h) hl2]
    rfl
   unfold okAt
   rw [hnm hr, hname r.f0 (List.mem_of_getElem? (hSi hr)), Bool.true_and, Bool.and_eq_true]
   constructor
   ·rw [List.getD_eq_getElem?_getD, mkC_get (hSi hr) hli, hl]
    exact right_body (hR l (List.mem_of_getElem? hli))
   ·rw [allFrom_iff]
    intro j _ hj
    rw [Nat.zero_add] at hj
    obtain ⟨q, hq⟩ : ∃ q, rs[j]? = some q := ⟨_, List.getElem?_eq_getElem (by omega)⟩
    show (nm _ j != r.f0.data.toList) = true
    rw [hnm hq, bne_iff_ne]
    intro he
    have he2 : q.f0 = r.f0 := by
     have h3 : q.f0.data = r.f0.data := Array.toList_inj.1 he
     cases hq0 : q.f0; cases hr0 : r.f0
     rw [hq0, hr0] at h3
     simpa using h3
    have h4 := (List.getElem?_inj (by rw [hSl]; omega) hn).1 ((hSi hq).trans (he2 ▸ (hSi hr).symm))
    omega
 ·obtain ⟨h1, h2⟩ := mkC_mem hm
  have hb := right_body (hR c.f1 h2)
  refine ⟨by rw [size_list]; have := (isName_all (hname c.f0 h1)).1; omega, by have := hbody c.f1 h2; omega, body_fit hb⟩
 ·obtain ⟨l, hli⟩ : ∃ l, L[i]? = some l := ⟨_, List.getElem?_eq_getElem (by rw [hLl, hSl]; exact (List.getElem?_eq_some_iff.1 hr).1)⟩
  exact ⟨⟨r.f0, l⟩, mkC_get (by unfold namesOf; rw [List.getElem?_map, hr]; rfl) hli, rfl⟩
 ·have h5 := hp.2.2
  unfold namesOf at h5
  rw [List.getElem?_map] at h5
  obtain ⟨r, hr, hr2⟩ := Option.map_eq_some_iff.1 h5
  exact ⟨r, hr, hr2⟩
end Go.Proofs.YtihiicjnjhideaaDoor.Build
end
