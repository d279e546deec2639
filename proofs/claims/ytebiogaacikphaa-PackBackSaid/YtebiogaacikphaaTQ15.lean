/- Parts of the proof of packBack and packOne and packCuts and packSpoilt and packSmall: EncodeSpec, Gather, RightOk. No condition beyond each lemma's own. -/
import Derived.Test.YtebiogaacikphaaTQ10
import Derived.Test.YtebiogaacikphaaTQ14
section
namespace Go.Proofs.Ytebiogaacikphaa.Pack
open Go.RowKit Go.Proofs.YtebiogaacikphaaW.PrintWords Go.Proofs.Ytebiogaacikphaa.PAll Go.Proofs.Ytebiogaacikphaa.Names
set_option linter.unusedVariables false
/-- A count's bytes. -/
def cntE (n : Nat) : List Int := if h : n < 128 then [(n : Int)] else (((n % 128 : Nat) : Int) + 128) :: cntE (n / 128)
  termination_by n
  decreasing_by omega
theorem cnt_back (e fr : Nat) (r : List Int) : ∀ (m n : Nat), n ≤ m → ∀ (k : Nat) (a : Int), 0 ≤ a → (k = 0 ∨ 0 < n) → k ≤ 4 → a + (n : Int) * 128 ^ k ≤ 2147483647 → cntL e fr k a (cntE n ++ r) = .ok (a + (n : Int) * 128 ^ k, r) := by
  intro m
  induction m with
  | zero =>
    intro n hn k a ha hk h4 hle
    obtain rfl : n = 0 := by omega
    obtain rfl : k = 0 := by omega
    rw [cntE, dif_pos (by omega)]
    simp [cntL]
    omega
  | succ m ih =>
    intro n hn k a ha hk h4 hle
    by_cases c : n < 128
    · have hm : ((n : Int) % 128) = (n : Int) := by omega
      have h5 : k < 5 := by omega
      rw [cntE, dif_pos c, List.singleton_append, cntL, if_neg (by omega)]
      simp only [hm, if_pos h5]
      rw [if_neg (by rintro (h | ⟨h1, h2⟩ | h) <;> omega)]
    · have e1 : (((n % 128 : Nat) : Int) + 128) % 128 = ((n % 128 : Nat) : Int) := by omega
      have hstep : a + ((n % 128 : Nat) : Int) * 128 ^ k + ((n / 128 : Nat) : Int) * 128 ^ (k + 1) = a + (n : Int) * 128 ^ k := by
        have e2 : (n : Int) = ((n % 128 : Nat) : Int) + 128 * ((n / 128 : Nat) : Int) := by omega
        rw [Int.pow_succ, ← Int.mul_assoc, show ((n / 128 : Nat) : Int) * 128 ^ k * 128 = 128 * ((n / 128 : Nat) : Int) * 128 ^ k by rw [Int.mul_right_comm, Int.mul_comm _ 128], Int.add_assoc, ← Int.add_mul, ← e2]
      have hk3 : k + 1 ≤ 4 := by
        obtain rfl | rfl | rfl | rfl | rfl : k = 0 ∨ k = 1 ∨ k = 2 ∨ k = 3 ∨ k = 4 := by omega
        all_goals omega
      have hp : (0 : Int) ≤ 128 ^ k := Int.pow_nonneg (by decide)
      have h0 : 0 ≤ ((n % 128 : Nat) : Int) * 128 ^ k := Int.mul_nonneg (by omega) hp
      have := ih (n / 128) (by omega) (k + 1) (a + ((n % 128 : Nat) : Int) * 128 ^ k) (by omega) (.inr (by omega)) hk3 (by rw [hstep]; exact hle)
      rw [cntE, dif_neg c, List.cons_append, cntL, if_pos (by omega), if_pos (by omega), e1, this, hstep]
theorem cntE_back (e fr n : Nat) (r : List Int) (h : n ≤ 2147483647) : cntL e fr 0 0 (cntE n ++ r) = .ok ((n : Int), r) := by
  have := cnt_back e fr r n n (Nat.le_refl _) 0 0 (by omega) (.inl rfl) (by omega) (by omega)
  simpa using this
theorem word_le : ∀ (m : Nat) (s : Int), 0 ≤ s → s < 256 ^ m → wordOf (leN m s) = s
  | 0, s, h0, h1 => by
    rw [leN, wordOf]
    have : (256 : Int) ^ 0 = 1 := rfl
    omega
  | m + 1, s, h0, h1 => by
    have h2 : s / 256 < 256 ^ m := by
      rw [Int.pow_succ] at h1
      omega
    rw [leN, wordOf, word_le m (s / 256) (by omega) h2]
    omega
/-- A class of four words that may be. -/
def FourOk (c : Four) : Prop := (0 ≤ c.1 ∧ c.1 < 18446744073709551616) ∧ (0 ≤ c.2.1 ∧ c.2.1 < 18446744073709551616) ∧ (0 ≤ c.2.2.1 ∧ c.2.2.1 < 18446744073709551616) ∧ (0 ≤ c.2.2.2 ∧ c.2.2.2 < 18446744073709551616)
/-- A class's bytes. -/
def clsE (c : Four) : List Int := leN 8 c.1 ++ (leN 8 c.2.1 ++ (leN 8 c.2.2.1 ++ leN 8 c.2.2.2))
theorem clsE_length (c : Four) : (clsE c).length = 32 := by simp [clsE, leN_length]
theorem cls_back {c : Four} (h : FourOk c) : clsOf (clsE c) = c := by
  obtain ⟨⟨a1, a2⟩, ⟨b1, b2⟩, ⟨c1, c2⟩, ⟨d1, d2⟩⟩ := h
  have e : (256 : Int) ^ 8 = 18446744073709551616 := by decide
  have w1 := word_le 8 c.1 a1 (by omega)
  have w2 := word_le 8 c.2.1 b1 (by omega)
  have w3 := word_le 8 c.2.2.1 c1 (by omega)
  have w4 := word_le 8 c.2.2.2 d1 (by omega)
  have t8 : ∀ (s : Int) (r : List Int), (leN 8 s ++ r).take 8 = leN 8 s := fun s r => by rw [List.take_append_of_le_length (by rw [leN_length]; exact Nat.le_refl _), List.take_of_length_le (by rw [leN_length]; exact Nat.le_refl _)]
  have d8 : ∀ (s : Int) (r : List Int) (k : Nat), (leN 8 s ++ r).drop (8 + k) = r.drop k := fun s r k => by rw [List.drop_append, leN_length, List.drop_of_length_le (by rw [leN_length]; omega), List.nil_append, Nat.add_sub_cancel_left]
  have t4 : (leN 8 c.2.2.2).take 8 = leN 8 c.2.2.2 := List.take_of_length_le (by rw [leN_length]; exact Nat.le_refl _)
  rw [clsOf, clsE, t8, show (8 : Nat) = 8 + 0 from rfl, d8, List.drop_zero, t8, show (16 : Nat) = 8 + (8 + 0) from rfl, d8, d8, List.drop_zero, t8, show (24 : Nat) = 8 + (8 + (8 + 0)) from rfl, d8, d8, d8, List.drop_zero, t4, w1, w2, w3, w4]
theorem classes_back (e : Nat) (r : List Int) : ∀ (S acc : List Four), (∀ c ∈ S, FourOk c) → (acc ++ S).Nodup → classesL e S.length acc (S.flatMap clsE ++ r) = .ok (acc ++ S, r)
  | [], acc, _, _ => by simp [classesL]
  | c :: S, acc, hok, hnd => by
    have hc := hok c List.mem_cons_self
    have hlen : ((c :: S).flatMap clsE ++ r).length = 32 + (S.flatMap clsE ++ r).length := by
      rw [List.flatMap_cons, List.append_assoc, List.length_append, clsE_length]
    have htake : ((c :: S).flatMap clsE ++ r).take 32 = clsE c := by
      rw [List.flatMap_cons, List.append_assoc, List.take_append_of_le_length (by rw [clsE_length]; exact Nat.le_refl _), List.take_of_length_le (by rw [clsE_length]; exact Nat.le_refl _)]
    have hdrop : ((c :: S).flatMap clsE ++ r).drop 32 = S.flatMap clsE ++ r := by
      rw [List.flatMap_cons, List.append_assoc, ← clsE_length c, List.drop_left]
    have hnot : c ∉ acc := by
      intro hm
      have := List.nodup_append.1 hnd
      exact this.2.2 c hm c List.mem_cons_self rfl
    rw [List.length_cons, classesL, if_neg (by omega), htake, cls_back hc, if_neg hnot, hdrop]
    have := classes_back e r S (acc ++ [c]) (fun x hx => hok x (List.mem_cons_of_mem _ hx)) (by rw [List.append_assoc]; exact hnd)
    rw [this, List.append_assoc]
    rfl
/-- A name's bytes as numbers. -/
def numsOf (s : ByteArray) : List Int := s.data.toList.map fun b => (b.toNat : Int)
theorem numsOf_length (s : ByteArray) : (numsOf s).length = s.size := by rw [numsOf, List.length_map, Array.length_toList]; rfl
theorem str_numsOf (s : ByteArray) : strOfNums (numsOf s) = s := by
  cases s with
  | mk d =>
    have h : (strOfNums (numsOf ⟨d⟩)).data.toList = d.toList := by
      rw [strOfNums_data, numsOf, List.map_map]
      have : ((fun n : Int => UInt8.ofNat n.toNat) ∘ fun b : UInt8 => (b.toNat : Int)) = id := by
        funext b
        simp
      rw [this, List.map_id]
    have h2 := congrArg List.toArray h
    simp only [Array.toArray_toList] at h2
    cases hs : strOfNums (numsOf ⟨d⟩) with
    | mk d2 => rw [hs] at h2; simp only at h2; rw [h2]
/-- A name's bytes. -/
def nameE (s : ByteArray) : List Int := cntE s.size ++ numsOf s
theorem okName_size {s : ByteArray} (h : okName s = true) : 0 < s.size ∧ s.size ≤ 64 := by
  have h2 : isName s.data.toList = true := by rw [okName, Bool.and_eq_true] at h; exact h.2
  rw [isName, Bool.and_eq_true, Bool.and_eq_true, decide_eq_true_eq, decide_eq_true_eq] at h2
  have hl : s.data.toList.length = s.size := Array.length_toList
  have := List.length_pos_iff.2 h2.1.1
  omega
theorem names_back (e : Nat) (r : List Int) : ∀ (S acc : List ByteArray), (∀ s ∈ S, okName s = true) → (acc ++ S).Nodup → namesL e S.length acc (S.flatMap nameE ++ r) = .ok (acc ++ S, r)
  | [], acc, _, _ => by simp [namesL]
  | s :: S, acc, hok, hnd => by
    have hs := hok s List.mem_cons_self
    have hz := okName_size hs
    have hsplit : (s :: S).flatMap nameE ++ r = cntE s.size ++ (numsOf s ++ (S.flatMap nameE ++ r)) := by
      rw [List.flatMap_cons, nameE, List.append_assoc, List.append_assoc]
    have htake : (numsOf s ++ (S.flatMap nameE ++ r)).take (s.size : Int).toNat = numsOf s := by
      rw [Int.toNat_natCast, ← numsOf_length s, List.take_left]
    have hdrop : (numsOf s ++ (S.flatMap nameE ++ r)).drop (s.size : Int).toNat = S.flatMap nameE ++ r := by
      rw [Int.toNat_natCast, ← numsOf_length s, List.drop_left]
    have hnot : among s acc = false := by
      rw [Bool.eq_false_iff]
      intro hm
      have := List.nodup_append.1 hnd
      exact this.2.2 s ((among_iff s acc).1 hm) s List.mem_cons_self rfl
    rw [hsplit, List.length_cons, namesL, cntE_back e _ s.size _ (by omega)]
    dsimp only
    rw [if_neg (by omega), if_neg (by rw [List.length_append, numsOf_length]; omega), htake, str_numsOf, hs, hnot, if_neg (by simp), hdrop]
    have := names_back e r S (acc ++ [s]) (fun x hx => hok x (List.mem_cons_of_mem _ hx)) (by rw [List.append_assoc]; exact hnd)
    rw [this, List.append_assoc]
    rfl
/-- An instruction's bytes: its kind, and its operand's number. -/
def insE (op : Int) (n : Nat) : List Int := if n < 15 then [op + (n : Int) * 16] else (op + 240) :: cntE (n - 15)
theorem ins_head (op : Int) (n : Nat) (h : 0 ≤ op ∧ op ≤ 15) : ∃ x l, insE op n = x :: l ∧ x % 16 = op ∧ 0 ≤ x ∧ x < 256 := by
  unfold insE
  split
  · exact ⟨_, _, rfl, by omega, by omega, by omega⟩
  · exact ⟨_, _, rfl, by omega, by omega, by omega⟩
theorem num_back (e : Nat) (op : Int) (n : Nat) (r : List Int) (h : 0 ≤ op ∧ op ≤ 15) (hn : n ≤ 2147483647) : ∃ x l, insE op n = x :: l ∧ x % 16 = op ∧ numL e x (l ++ r) = .ok (n, r) := by
  unfold insE
  split
  · refine ⟨_, _, rfl, by omega, ?_⟩
    rw [numL, if_neg (by omega), List.nil_append, show ((op + (n : Int) * 16) / 16).toNat = n by omega]
  · refine ⟨_, _, rfl, by omega, ?_⟩
    rw [numL, if_pos (by omega), cntE_back e _ (n - 15) r (by omega)]
    dsimp only
    rw [show 15 + ((n - 15 : Nat) : Int).toNat = n by omega]
/-- A place's number: how far it lies from here. -/
def farN (i : Nat) (t : Int) : Nat := if t - (i : Int) < 0 then (-2 * (t - (i : Int)) - 1).toNat else (2 * (t - (i : Int))).toNat
theorem far_back (i : Nat) (t : Int) : toOf i (farN i t) = t := by
  unfold farN
  split
  · rw [toOf, if_pos (by omega)]; omega
  · rw [toOf, if_neg (by omega)]; omega
theorem place_back {op : Int} (hk : kindOf op = 1) (i size kc kn : Nat) (S : List Four) (T : List ByteArray) (t : Int) (h : 0 ≤ t ∧ t < size) : putL op i (farN i t) size kc kn S T = some ({ zIns with f0 := op, f1 := t }, kc, kn) := by
  rw [putL, if_pos hk, far_back, if_pos h]
theorem class_back {op : Int} (hk : kindOf op = 2) (i n size kc kn : Nat) (S : List Four) (T : List ByteArray) (c : Four) (hn : n ≤ kc) (hc : S[n]? = some c) : putL op i n size kc kn S T = some ({ zIns with f0 := op, f2 := ⟨c.1, c.2.1, c.2.2.1, c.2.2.2⟩ }, max kc (n + 1), kn) := by
  rw [putL, if_neg (by omega), if_pos hk, if_pos hn, hc]
theorem name_back {op : Int} (hk : kindOf op = 3) (i n size kc kn : Nat) (S : List Four) (T : List ByteArray) (s : ByteArray) (hn : n ≤ kn) (hs : T[n]? = some s) : putL op i n size kc kn S T = some ({ zIns with f0 := op, f3 := s }, kc, max kn (n + 1)) := by
  rw [putL, if_neg (by omega), if_neg (by omega), if_pos hk, if_pos hn, hs]
theorem none_back {op : Int} (hk : kindOf op = 0) (i size kc kn : Nat) (S : List Four) (T : List ByteArray) : putL op i 0 size kc kn S T = some ({ zIns with f0 := op }, kc, kn) := by
  rw [putL, if_neg (by omega), if_neg (by omega), if_neg (by omega), if_pos rfl]
end Go.Proofs.Ytebiogaacikphaa.Pack
end
section
namespace Go.Proofs.Ytebiogaacikphaa.Pack
open Go.RowKit Go.Proofs.YtebiogaacikphaaW.PrintWords Go.Proofs.Ytebiogaacikphaa.PAll Go.Proofs.Ytebiogaacikphaa.Names
set_option linter.unusedVariables false
section
variable {α : Type} [DecidableEq α]
/-- One more, if it isn't there. -/
def once (S : List α) (x : α) : List α := if x ∈ S then S else S ++ [x]
theorem once_prefix (S : List α) (x : α) : S <+: once S x := by
  unfold once
  split
  · exact List.prefix_rfl
  · exact List.prefix_append _ _
theorem once_nodup {S : List α} (h : S.Nodup) (x : α) : (once S x).Nodup := by
  unfold once
  split
  · exact h
  · rename_i hx
    exact List.nodup_append.2 ⟨h, by simp, fun a ha b hb => by
      rw [List.mem_singleton] at hb
      subst hb
      intro e
      exact hx (e ▸ ha)⟩
theorem once_mem (S : List α) (x : α) : x ∈ once S x := by
  unfold once
  split
  · assumption
  · simp
/-- Where it stands. -/
def placeOf (L : List α) (x : α) : Nat := L.idxOf x
/-- Where it stands in all, and how many there are behind it. -/
theorem once_idx {S L : List α} (h : S.Nodup) (x : α) (hp : once S x <+: L) : placeOf L x ≤ S.length ∧ L[placeOf L x]? = some x ∧ max S.length (placeOf L x + 1) = (once S x).length := by
  unfold placeOf
  obtain ⟨R, rfl⟩ := hp
  have hm := once_mem S x
  have hi : (once S x ++ R).idxOf x = (once S x).idxOf x := by rw [List.idxOf_append, if_pos hm]
  have hlt := List.idxOf_lt_length_of_mem hm
  have hget : (once S x ++ R)[(once S x).idxOf x]? = some x := by
    rw [List.getElem?_append_left hlt, List.getElem?_eq_getElem hlt, List.getElem_idxOf]
  rw [hi]
  refine ⟨?_, hget, ?_⟩
  · unfold once at *
    split
    · rename_i hx
      have := List.idxOf_lt_length_of_mem hx
      omega
    · rename_i hx
      rw [if_neg hx] at hlt
      rw [List.length_append, List.length_singleton] at hlt
      omega
  · unfold once at *
    split
    · rename_i hx
      have := List.idxOf_lt_length_of_mem hx
      omega
    · rename_i hx
      rw [List.idxOf_append, if_neg hx, List.length_append, List.length_singleton]
      simp
end
def clsI (x : Ins) : Four := (x.f2.f0, x.f2.f1, x.f2.f2, x.f2.f3)
def addC (S : List Four) (x : Ins) : List Four := if kindOf x.f0 = 2 then once S (clsI x) else S
def addN (T : List ByteArray) (x : Ins) : List ByteArray := if kindOf x.f0 = 3 then once T x.f3 else T
theorem addC_prefix (S : List Four) (x : Ins) : S <+: addC S x := by
  unfold addC
  split
  · exact once_prefix S _
  · exact List.prefix_rfl
theorem addN_prefix (S : List ByteArray) (x : Ins) : S <+: addN S x := by
  unfold addN
  split
  · exact once_prefix S _
  · exact List.prefix_rfl
theorem foldC_prefix : ∀ (l : List Ins) (S : List Four), S <+: l.foldl addC S
  | [], S => List.prefix_rfl
  | x :: l, S => (addC_prefix S x).trans (foldC_prefix l _)
theorem foldN_prefix : ∀ (l : List Ins) (S : List ByteArray), S <+: l.foldl addN S
  | [], S => List.prefix_rfl
  | x :: l, S => (addN_prefix S x).trans (foldN_prefix l _)
theorem addC_nodup {S : List Four} (h : S.Nodup) (x : Ins) : (addC S x).Nodup := by
  unfold addC
  split
  · exact once_nodup h _
  · exact h
theorem addN_nodup {S : List ByteArray} (h : S.Nodup) (x : Ins) : (addN S x).Nodup := by
  unfold addN
  split
  · exact once_nodup h _
  · exact h
/-- An instruction of a program of so many, as it may be. -/
structure InsOk (size : Nat) (x : Ins) : Prop where
  op : 0 ≤ x.f0 ∧ x.f0 ≤ 15
  k0 : kindOf x.f0 = 0 → x = { zIns with f0 := x.f0 }
  k1 : kindOf x.f0 = 1 → x = { zIns with f0 := x.f0, f1 := x.f1 } ∧ 0 ≤ x.f1 ∧ x.f1 < size
  k2 : kindOf x.f0 = 2 → x = { zIns with f0 := x.f0, f2 := x.f2 }
  k3 : kindOf x.f0 = 3 → x = { zIns with f0 := x.f0, f3 := x.f3 }
def operN (i : Nat) (x : Ins) (S : List Four) (T : List ByteArray) : Nat := if kindOf x.f0 = 1 then farN i x.f1 else if kindOf x.f0 = 2 then placeOf S (clsI x) else if kindOf x.f0 = 3 then placeOf T x.f3 else 0
theorem kind4 (a : Int) : kindOf a = 0 ∨ kindOf a = 1 ∨ kindOf a = 2 ∨ kindOf a = 3 := by
  unfold kindOf
  split
  · exact .inr (.inl rfl)
  · split
    · exact .inr (.inr (.inl rfl))
    · split
      · exact .inr (.inr (.inr rfl))
      · exact .inl rfl
theorem oper_back {size i : Nat} {x : Ins} {S C : List Four} {T N : List ByteArray} (h : InsOk size x) (hC : C.Nodup) (hN : N.Nodup) (hS : addC C x <+: S) (hT : addN N x <+: T) :
    putL x.f0 i (operN i x S T) size C.length N.length S T = some (x, (addC C x).length, (addN N x).length) := by
  rcases kind4 x.f0 with k | k | k | k
  · rw [operN, if_neg (by omega), if_neg (by omega), if_neg (by omega), none_back k, addC, if_neg (by omega), addN, if_neg (by omega), ← h.k0 k]
  · obtain ⟨e, h1⟩ := h.k1 k
    rw [operN, if_pos k, place_back k i size _ _ S T x.f1 h1, addC, if_neg (by omega), addN, if_neg (by omega), ← e]
  · rw [addC, if_pos k] at hS
    obtain ⟨a1, a2, a3⟩ := once_idx hC (clsI x) hS
    rw [operN, if_neg (by omega), if_pos k, class_back k i _ size _ _ S T (clsI x) a1 a2, a3, addC, if_pos k, addN, if_neg (by omega)]
    have e := h.k2 k
    rw [show ({ zIns with f0 := x.f0, f2 := ⟨(clsI x).1, (clsI x).2.1, (clsI x).2.2.1, (clsI x).2.2.2⟩ } : Ins) = { zIns with f0 := x.f0, f2 := x.f2 } from rfl, ← e]
  · rw [addN, if_pos k] at hT
    obtain ⟨a1, a2, a3⟩ := once_idx hN x.f3 hT
    rw [operN, if_neg (by omega), if_neg (by omega), if_pos k, name_back k i _ size _ _ S T x.f3 a1 a2, a3, addC, if_neg (by omega), addN, if_pos k, ← h.k3 k]
def progE (S : List Four) (T : List ByteArray) : Nat → List Ins → List Int
  | _, [] => []
  | i, x :: l => insE x.f0 (operN i x S T) ++ progE S T (i + 1) l
theorem operN_le {size i : Nat} {x : Ins} {S C : List Four} {T N : List ByteArray} (h : InsOk size x) (hC : C.Nodup) (hN : N.Nodup) (hS : addC C x <+: S) (hT : addN N x <+: T) (hi : i ≤ 65536) (hz : size ≤ 65536) (hSl : S.length ≤ 65536) (hTl : T.length ≤ 65536) : operN i x S T ≤ 131072 := by
  have c1 := ((addC_prefix C x).trans hS).length_le
  have c2 := ((addN_prefix N x).trans hT).length_le
  rcases kind4 x.f0 with k | k | k | k
  · rw [operN, if_neg (by omega), if_neg (by omega), if_neg (by omega)]
    omega
  · obtain ⟨e, h1⟩ := h.k1 k
    rw [operN, if_pos k]
    unfold farN
    split <;> omega
  · rw [addC, if_pos k] at hS
    have := (once_idx hC (clsI x) hS).1
    rw [operN, if_neg (by omega), if_pos k]
    omega
  · rw [addN, if_pos k] at hT
    have := (once_idx hN x.f3 hT).1
    rw [operN, if_neg (by omega), if_neg (by omega), if_pos k]
    omega
theorem prog_back (e size : Nat) (S : List Four) (T : List ByteArray) (r : List Int) (hz : size ≤ 65536) (hSl : S.length ≤ 65536) (hTl : T.length ≤ 65536) : ∀ (l : List Ins) (i : Nat) (C : List Four) (N : List ByteArray) (acc : List Ins), C.Nodup → N.Nodup → l.foldl addC C <+: S → l.foldl addN N <+: T → (∀ x ∈ l, InsOk size x) → i + l.length ≤ 65536 →
    insL e size S T l.length i C.length N.length acc (progE S T i l ++ r) = .ok (acc ++ l, (l.foldl addC C).length, (l.foldl addN N).length, r)
  | [], i, C, N, acc, hC, hN, hS, hT, hok, hi => by simp [insL, progE]
  | x :: l, i, C, N, acc, hC, hN, hS, hT, hok, hi => by
    have hx := hok x List.mem_cons_self
    have hS1 : addC C x <+: S := (foldC_prefix l _).trans hS
    have hT1 : addN N x <+: T := (foldN_prefix l _).trans hT
    rw [List.length_cons] at hi
    have hle := operN_le (i := i) hx hC hN hS1 hT1 (by omega) hz hSl hTl
    obtain ⟨b, lb, hb, hb2, hb3⟩ := num_back e x.f0 (operN i x S T) (progE S T (i + 1) l ++ r) hx.op (by omega)
    have ih := prog_back e size S T r hz hSl hTl l (i + 1) (addC C x) (addN N x) (acc ++ [x]) (addC_nodup hC x) (addN_nodup hN x) hS hT (fun y hy => hok y (List.mem_cons_of_mem _ hy)) (by omega)
    rw [progE, List.append_assoc, hb, List.cons_append, List.length_cons, insL, hb3]
    dsimp only
    rw [hb2, oper_back hx hC hN hS1 hT1]
    dsimp only
    rw [ih, List.append_assoc]
    rfl
theorem foldC_nodup : ∀ (l : List Ins) (S : List Four), S.Nodup → (l.foldl addC S).Nodup
  | [], S, h => h
  | x :: l, S, h => foldC_nodup l _ (addC_nodup h x)
theorem foldN_nodup : ∀ (l : List Ins) (S : List ByteArray), S.Nodup → (l.foldl addN S).Nodup
  | [], S, h => h
  | x :: l, S, h => foldN_nodup l _ (addN_nodup h x)
theorem foldC_mem : ∀ (l : List Ins) (S : List Four) (c : Four), c ∈ l.foldl addC S → c ∈ S ∨ ∃ x ∈ l, kindOf x.f0 = 2 ∧ clsI x = c
  | [], S, c, h => .inl h
  | x :: l, S, c, h => by
    rcases foldC_mem l (addC S x) c h with h | ⟨y, hy, h⟩
    · unfold addC at h
      split at h
      · rename_i hk
        unfold once at h
        split at h
        · exact .inl h
        · rcases List.mem_append.1 h with h | h
          · exact .inl h
          · exact .inr ⟨x, List.mem_cons_self, hk, (List.mem_singleton.1 h).symm⟩
      · exact .inl h
    · exact .inr ⟨y, List.mem_cons_of_mem _ hy, h⟩
theorem foldN_mem : ∀ (l : List Ins) (S : List ByteArray) (c : ByteArray), c ∈ l.foldl addN S → c ∈ S ∨ ∃ x ∈ l, kindOf x.f0 = 3 ∧ x.f3 = c
  | [], S, c, h => .inl h
  | x :: l, S, c, h => by
    rcases foldN_mem l (addN S x) c h with h | ⟨y, hy, h⟩
    · unfold addN at h
      split at h
      · rename_i hk
        unfold once at h
        split at h
        · exact .inl h
        · rcases List.mem_append.1 h with h | h
          · exact .inl h
          · exact .inr ⟨x, List.mem_cons_self, hk, (List.mem_singleton.1 h).symm⟩
      · exact .inl h
    · exact .inr ⟨y, List.mem_cons_of_mem _ hy, h⟩
theorem once_length {α : Type} [DecidableEq α] (S : List α) (x : α) : (once S x).length ≤ S.length + 1 := by
  unfold once
  split
  · omega
  · rw [List.length_append]; exact Nat.le_refl _
theorem foldC_length : ∀ (l : List Ins) (S : List Four), (l.foldl addC S).length ≤ S.length + l.length
  | [], S => Nat.le_refl _
  | x :: l, S => by
    have h1 := foldC_length l (addC S x)
    have h2 : (addC S x).length ≤ S.length + 1 := by
      unfold addC
      split
      · exact once_length _ _
      · omega
    rw [List.foldl_cons, List.length_cons]
    omega
theorem foldN_length : ∀ (l : List Ins) (S : List ByteArray), (l.foldl addN S).length ≤ S.length + l.length
  | [], S => Nat.le_refl _
  | x :: l, S => by
    have h1 := foldN_length l (addN S x)
    have h2 : (addN S x).length ≤ S.length + 1 := by
      unfold addN
      split
      · exact once_length _ _
      · omega
    rw [List.foldl_cons, List.length_cons]
    omega
theorem many_back (e fr n : Nat) (r : List Int) (h : n ≤ 65536) : manyL e fr (cntE n ++ r) = .ok ((n : Int), r) := by
  rw [manyL, cntE_back e fr n r (by omega)]
  dsimp only
  rw [if_neg (by omega)]
/-- What stands between the first five bytes and the sum, of a program. -/
def insideE (l : List Ins) : List Int := cntE (l.foldl addC []).length ++ ((l.foldl addC []).flatMap clsE ++ (cntE (l.foldl addN []).length ++ ((l.foldl addN []).flatMap nameE ++ (cntE l.length ++ progE (l.foldl addC []) (l.foldl addN []) 0 l))))
theorem inside_back (e : Nat) (l : List Ins) (h0 : 0 < l.length) (h1 : l.length ≤ 65536) (hok : ∀ x ∈ l, InsOk l.length x) (hc : ∀ x ∈ l, kindOf x.f0 = 2 → FourOk (clsI x)) (hn : ∀ x ∈ l, kindOf x.f0 = 3 → okName x.f3 = true) : insideL e (insideE l) = .ok l := by
  have hCn := foldC_nodup l [] List.nodup_nil
  have hNn := foldN_nodup l [] List.nodup_nil
  have hCl := foldC_length l []
  have hNl := foldN_length l []
  have hCm : ∀ c ∈ l.foldl addC [], FourOk c := fun c h => by
    rcases foldC_mem l [] c h with h | ⟨x, hx, hk, rfl⟩
    · cases h
    · exact hc x hx hk
  have hNm : ∀ c ∈ l.foldl addN [], okName c = true := fun c h => by
    rcases foldN_mem l [] c h with h | ⟨x, hx, hk, rfl⟩
    · cases h
    · exact hn x hx hk
  rw [List.length_nil, Nat.zero_add] at hCl hNl
  have hp := fun r => prog_back e l.length (l.foldl addC []) (l.foldl addN []) r h1 (by omega) (by omega) l 0 [] [] [] List.nodup_nil List.nodup_nil List.prefix_rfl List.prefix_rfl hok (by omega)
  have hcb := fun r => classes_back e r (l.foldl addC []) [] hCm (by simpa using hCn)
  have hnb := fun r => names_back e r (l.foldl addN []) [] hNm (by simpa using hNn)
  have hpr := hp []
  rw [List.append_nil] at hpr
  have t1 : tableC e (insideE l) = .ok (l.foldl addC [], cntE (l.foldl addN []).length ++ ((l.foldl addN []).flatMap nameE ++ (cntE l.length ++ progE (l.foldl addC []) (l.foldl addN []) 0 l))) := by
    rw [tableC, insideE, many_back e _ _ _ (by omega)]
    show classesL e ((l.foldl addC []).length : Int).toNat [] _ = _
    rw [Int.toNat_natCast, hcb]
    rfl
  have t2 : tableN e (cntE (l.foldl addN []).length ++ ((l.foldl addN []).flatMap nameE ++ (cntE l.length ++ progE (l.foldl addC []) (l.foldl addN []) 0 l))) = .ok (l.foldl addN [], cntE l.length ++ progE (l.foldl addC []) (l.foldl addN []) 0 l) := by
    rw [tableN, many_back e _ _ _ (by omega)]
    show namesL e ((l.foldl addN []).length : Int).toNat [] _ = _
    rw [Int.toNat_natCast, hnb]
    rfl
  have t3 : programL e (l.foldl addC []) (l.foldl addN []) (cntE l.length ++ progE (l.foldl addC []) (l.foldl addN []) 0 l) = .ok (l, (l.foldl addC []).length, (l.foldl addN []).length, []) := by
    rw [programL, many_back e _ _ _ (by omega)]
    dsimp only
    rw [if_neg (by omega), Int.toNat_natCast]
    exact hpr
  rw [insideL, t1]
  dsimp only
  rw [t2]
  dsimp only
  rw [t3]
  dsimp only
  rw [if_neg (by omega), if_neg (by omega), if_neg (by simp)]
/-- A program's bytes. -/
def encodeE (l : List Ins) : List Int := (magicL ++ insideE l) ++ leN 4 (crcL (magicL ++ insideE l))
theorem miss_magic (r : List Int) : missL 0 magicL (magicL ++ r) = none := by
  simp [magicL, missL]
theorem encodeE_length (l : List Ins) : (encodeE l).length = 5 + (insideE l).length + 4 := by
  rw [encodeE, List.length_append, List.length_append, leN_length]; rfl
theorem decode_back (l : List Ins) (h0 : 0 < l.length) (h1 : l.length ≤ 65536) (hok : ∀ x ∈ l, InsOk l.length x) (hc : ∀ x ∈ l, kindOf x.f0 = 2 → FourOk (clsI x)) (hn : ∀ x ∈ l, kindOf x.f0 = 3 → okName x.f3 = true) (hz : (encodeE l).length ≤ 4194304) : decodeL (encodeE l) = .ok l := by
  have hlen := encodeE_length l
  have hpre : (magicL ++ insideE l).length = (encodeE l).length - 4 := by rw [hlen, List.length_append]; rfl
  have htake : (encodeE l).take ((encodeE l).length - 4) = magicL ++ insideE l := by
    rw [← hpre, encodeE, List.take_left]
  have hdrop : (encodeE l).drop ((encodeE l).length - 4) = leN 4 (crcL (magicL ++ insideE l)) := by
    rw [← hpre, encodeE, List.drop_left]
  have hf : framedL (encodeE l) = (0, 0) := by
    rw [framedL, if_neg (by omega)]
    have hm : missL 0 magicL (encodeE l) = none := by rw [encodeE, List.append_assoc]; exact miss_magic _
    rw [hm]
    dsimp only
    rw [if_neg (by omega), htake, hdrop, if_pos rfl]
  rw [decodeL, hf, if_neg (by simp), htake]
  have h5 : (magicL ++ insideE l).drop 5 = insideE l := List.drop_left (l₁ := magicL) (l₂ := insideE l)
  rw [h5]
  exact inside_back _ l h0 h1 hok hc hn
theorem cntE_pos (n : Nat) : 1 ≤ (cntE n).length := by
  rw [cntE]
  split
  · exact Nat.le_refl _
  · rw [List.length_cons]; omega
theorem cntE_three (n : Nat) (h : n < 2097152) : (cntE n).length ≤ 3 := by
  rw [cntE]
  split
  · simp
  · rw [List.length_cons, cntE]
    split
    · simp
    · rw [List.length_cons, cntE, dif_pos (by omega)]
      simp
theorem insE_len (op : Int) (n : Nat) (h : n ≤ 131072) : 1 ≤ (insE op n).length ∧ (insE op n).length ≤ 4 := by
  unfold insE
  split
  · simp
  · have h1 := cntE_pos (n - 15)
    have h2 := cntE_three (n - 15) (by omega)
    rw [List.length_cons]
    omega
theorem progE_len (size : Nat) (S : List Four) (T : List ByteArray) (hz : size ≤ 65536) (hSl : S.length ≤ 65536) (hTl : T.length ≤ 65536) : ∀ (l : List Ins) (i : Nat) (C : List Four) (N : List ByteArray), C.Nodup → N.Nodup → l.foldl addC C <+: S → l.foldl addN N <+: T → (∀ x ∈ l, InsOk size x) → i + l.length ≤ 65536 → l.length ≤ (progE S T i l).length ∧ (progE S T i l).length ≤ 4 * l.length
  | [], i, C, N, hC, hN, hS, hT, hok, hi => by simp [progE]
  | x :: l, i, C, N, hC, hN, hS, hT, hok, hi => by
    have hx := hok x List.mem_cons_self
    have hS1 : addC C x <+: S := (foldC_prefix l _).trans hS
    have hT1 : addN N x <+: T := (foldN_prefix l _).trans hT
    rw [List.length_cons] at hi
    have h1 := insE_len x.f0 (operN i x S T) (operN_le (i := i) hx hC hN hS1 hT1 (by omega) hz hSl hTl)
    have ih := progE_len size S T hz hSl hTl l (i + 1) (addC C x) (addN N x) (addC_nodup hC x) (addN_nodup hN x) hS hT (fun y hy => hok y (List.mem_cons_of_mem _ hy)) (by omega)
    rw [progE, List.length_append, List.length_cons]
    omega
theorem namesE_len : ∀ T : List ByteArray, (∀ s ∈ T, okName s = true) → (T.flatMap nameE).length ≤ 65 * T.length
  | [], _ => by simp
  | s :: T, h => by
    have h1 := okName_size (h s List.mem_cons_self)
    have ih := namesE_len T (fun x hx => h x (List.mem_cons_of_mem _ hx))
    have h2 : (cntE s.size).length = 1 := by rw [cntE, dif_pos (by omega)]; rfl
    rw [List.flatMap_cons, List.length_append, nameE, List.length_append, numsOf_length, h2, List.length_cons]
    omega
theorem clsE_len : ∀ S : List Four, (S.flatMap clsE).length = 32 * S.length
  | [] => rfl
  | c :: S => by rw [List.flatMap_cons, List.length_append, clsE_length, clsE_len S, List.length_cons]; omega
/-- How many bytes a program has. -/
theorem encodeE_small (l : List Ins) (h1 : l.length ≤ 65536) (hok : ∀ x ∈ l, InsOk l.length x) (hn : ∀ x ∈ l, kindOf x.f0 = 3 → okName x.f3 = true) :
    (encodeE l).length ≤ 5 + 32 * (l.foldl addC []).length + 65 * (l.foldl addN []).length + 5 * l.length + 19 ∧ 12 + 32 * (l.foldl addC []).length + l.length ≤ (encodeE l).length := by
  have hCl := foldC_length l []
  have hNl := foldN_length l []
  rw [List.length_nil, Nat.zero_add] at hCl hNl
  have hp := progE_len l.length (l.foldl addC []) (l.foldl addN []) h1 (by omega) (by omega) l 0 [] [] List.nodup_nil List.nodup_nil List.prefix_rfl List.prefix_rfl hok (by omega)
  have hnl := namesE_len (l.foldl addN []) (fun c h => by
    rcases foldN_mem l [] c h with h | ⟨x, hx, hk, rfl⟩
    · cases h
    · exact hn x hx hk)
  have hcl := clsE_len (l.foldl addC [])
  have a1 := cntE_pos (l.foldl addC []).length
  have a2 := cntE_three (l.foldl addC []).length (by omega)
  have b1 := cntE_pos (l.foldl addN []).length
  have b2 := cntE_three (l.foldl addN []).length (by omega)
  have c1 := cntE_pos l.length
  have c2 := cntE_three l.length (by omega)
  rw [encodeE_length, insideE]
  simp only [List.length_append]
  omega
end Go.Proofs.Ytebiogaacikphaa.Pack
end
section
namespace Go.Proofs.Ytebiogaacikphaa.Pack
open Go.RowKit Go.Proofs.YtebiogaacikphaaW.PrintWords Go.Proofs.Ytebiogaacikphaa.PAll Go.Proofs.Ytebiogaacikphaa.Names
set_option linter.unusedVariables false
theorem rightB_ok {x : Ins} {n : Nat} (h : rightB x n = true) : InsOk n x ∧ (kindOf x.f0 = 3 → okName x.f3 = true) := by
  unfold rightB at h
  split at h
  · cases h
  · rename_i hr
    split at h
    · cases h
    · rename_i he
      have hx : x = bareI x := (eqI_iff x (bareI x)).1 (by simpa using he)
      refine ⟨⟨by omega, fun k => hx.trans (by rw [bareI, if_neg (by omega), if_neg (by omega), if_neg (by omega)]), fun k => ⟨hx.trans (by rw [bareI, if_pos k]), ?_⟩, fun k => hx.trans (by rw [bareI, if_neg (by omega), if_pos k]), fun k => hx.trans (by rw [bareI, if_neg (by omega), if_neg (by omega), if_pos k])⟩, fun k => ?_⟩
      · rw [if_pos k] at h
        exact of_decide_eq_true h
      · rw [if_neg (by omega), if_pos k] at h
        exact h
theorem right_of_ok {x : Ins} {n : Nat} (h : InsOk n x) (hn : kindOf x.f0 = 3 → okName x.f3 = true) : rightB x n = true := by
  have hx : x = bareI x := by
    rcases kind4 x.f0 with k | k | k | k
    · exact (h.k0 k).trans (by rw [bareI, if_neg (by omega), if_neg (by omega), if_neg (by omega)])
    · exact (h.k1 k).1.trans (by rw [bareI, if_pos k])
    · exact (h.k2 k).trans (by rw [bareI, if_neg (by omega), if_pos k])
    · exact (h.k3 k).trans (by rw [bareI, if_neg (by omega), if_neg (by omega), if_pos k])
  have hop := h.op
  unfold rightB
  rw [if_neg (by omega), if_neg (by rw [(eqI_iff x (bareI x)).2 hx]; decide)]
  split
  · rename_i k
    exact decide_eq_true (h.k1 k).2
  · split
    · rename_i k
      exact hn k
    · rfl
theorem checkAt_none (n : Nat) : ∀ (l : List Ins) (i : Nat), checkAt n i l = none ↔ ∀ x ∈ l, rightB x n = true
  | [], i => by simp [checkAt]
  | x :: l, i => by
    rw [checkAt]
    split
    · rename_i h
      rw [checkAt_none n l (i + 1)]
      simp [h]
    · rename_i h
      simp [h]
theorem checkL_ok (l : List Ins) : checkL l = (0, 0) ↔ 0 < l.length ∧ l.length ≤ 65536 ∧ ∀ x ∈ l, rightB x l.length = true := by
  rw [← checkAt_none l.length l 0]
  unfold checkL
  by_cases c0 : 65536 < l.length
  · rw [if_pos c0]
    constructor
    · intro h; simp at h
    · intro h; omega
  · rw [if_neg c0]
    by_cases c1 : l.length = 0
    · rw [if_pos c1]
      constructor
      · intro h; simp at h
      · intro h; omega
    · rw [if_neg c1]
      cases hc : checkAt l.length 0 l with
      | some i => simp
      | none => simp; omega
end Go.Proofs.Ytebiogaacikphaa.Pack
end
