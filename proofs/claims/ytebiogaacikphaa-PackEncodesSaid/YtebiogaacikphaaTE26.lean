/- Parts of the proof of packEncodes: RefTables. No condition beyond each lemma's own. -/
import Derived.Test.YtebiogaacikphaaTE8
import Derived.Test.YtebiogaacikphaaTE23
import Derived.Test.YtebiogaacikphaaTE24
import Derived.Test.YtebiogaacikphaaTE25
section
namespace Go.Proofs.Ytebiogaacikphaa.Pack
open Go.RowKit Go.Proofs.YtebiogaacikphaaW.PrintWords Go.Proofs.Ytebiogaacikphaa.PAll Go.Proofs.Ytebiogaacikphaa.Names
set_option linter.unusedVariables false
abbrev CS := S76
def toC (c : Four) : CS := ⟨c.1, c.2.1, c.2.2.1, c.2.2.2⟩
theorem kindR_ev (a : Int) : Ev (fun k => dowelref20_kind.f k a) (kindOf a) := by
  unfold dowelref20_kind.f
  have j1 : ∀ b : Bool, ¬ (a = 3 ∨ a = 4 ∨ a = 5 ∨ a = 6 ∨ a = 7 ∨ a = 10 ∨ a = 15) → (b = true ↔ (a = 1 ∨ a = 2)) → Ev (fun k => dowelref20_kind.j1 k a b) (kindOf a) := by
    intro b h0 hb
    refine Ev.step (fun _ => by rw [dowelref20_kind.j1]) ?_
    unfold kindOf
    rw [if_neg h0]
    refine Ev.ite (fun h => Ev.some_ (by rw [if_pos (hb.1 h)])) (fun h => ?_)
    rw [if_neg (fun h' => h (hb.2 h'))]
    refine Ev.ite (fun h => Ev.some_ (by rw [if_pos (.inl h)])) (fun h4 => ?_)
    exact Ev.ite (fun h => Ev.some_ (by rw [if_pos (.inr h)])) (fun h5 => Ev.some_ (by rw [if_neg (by omega)]))
  have j0 : ∀ b : Bool, (b = true ↔ (a = 3 ∨ a = 4 ∨ a = 5 ∨ a = 6 ∨ a = 7 ∨ a = 10 ∨ a = 15)) → Ev (fun k => dowelref20_kind.j0 k a b) (kindOf a) := by
    intro b hb
    refine Ev.step (fun _ => by rw [dowelref20_kind.j0]) ?_
    refine Ev.ite (fun h => Ev.some_ (by rw [kindOf, if_pos (hb.1 h)])) (fun h => ?_)
    have h0 : ¬ (a = 3 ∨ a = 4 ∨ a = 5 ∨ a = 6 ∨ a = 7 ∨ a = 10 ∨ a = 15) := fun h' => h (hb.2 h')
    exact Ev.ite (fun h1 => j1 _ h0 (by simp [h1])) (fun h1 => j1 _ h0 (by simp [h1]))
  refine Ev.ite (fun h => j0 _ (by simp [h])) (fun h3 => ?_)
  refine Ev.ite (fun h => j0 _ (by simp [h])) (fun h4 => ?_)
  refine Ev.ite (fun h => j0 _ (by simp [h])) (fun h5 => ?_)
  refine Ev.ite (fun h => j0 _ (by simp [h])) (fun h6 => ?_)
  refine Ev.ite (fun h => j0 _ (by simp [h])) (fun h7 => ?_)
  exact Ev.ite (fun h => j0 _ (by simp [h])) (fun h10 => j0 _ (by simp [h3, h4, h5, h6, h7, h10]))
/-- An instruction's number in the tables. -/
def tabN (S : List Four) (T : List ByteArray) (x : Ins) : Int := if kindOf x.f0 = 2 then (placeOf S (clsI x) : Int) else if kindOf x.f0 = 3 then (placeOf T x.f3 : Int) else 0
theorem place_prefix {α : Type} [DecidableEq α] {L M : List α} {x : α} (h : L <+: M) (hx : x ∈ L) : placeOf M x = placeOf L x := by
  obtain ⟨R, rfl⟩ := h
  unfold placeOf
  rw [List.idxOf_append, if_pos hx]
theorem place_new {α : Type} [DecidableEq α] {L : List α} {x : α} (h : x ∉ L) : placeOf (L ++ [x]) x = L.length := by
  unfold placeOf
  rw [List.idxOf_append, if_neg h]
  simp
theorem set_fill (A : List Int) (m : Nat) (v : Int) : (A ++ List.replicate (m + 1) 0).set A.length v = (A ++ [v]) ++ List.replicate m 0 := by
  rw [List.replicate_succ, List.set_append_right _ _ (Nat.le_refl _), Nat.sub_self, List.set_cons_zero, List.append_assoc]
  rfl
theorem rd_cls {S : List Four} {k : Nat} {y : Four} (h : S[k]? = some y) : rd_T76 (S.map toC) (k : Int) = toC y := by
  unfold rd_T76
  rw [Int.toNat_natCast, List.getD_eq_getElem?_getD, List.getElem?_map, h]
  rfl
theorem rd_str {T : List ByteArray} {k : Nat} {y : ByteArray} (h : T[k]? = some y) : rdOf ByteArray.empty T (k : Int) = y := by
  unfold rdOf
  rw [Int.toNat_natCast, List.getD_eq_getElem?_getD, h, Option.getD_some]
theorem cls_ne (y : Four) (x : Ins) : (!((toC y).f0 == x.f2.f0) || (!((toC y).f1 == x.f2.f1) || (!((toC y).f2 == x.f2.f2) || (!((toC y).f3 == x.f2.f3))))) = true ↔ y ≠ clsI x := by
  obtain ⟨y0, y1, y2, y3⟩ := y
  simp only [toC, clsI, Bool.or_eq_true, Bool.not_eq_true', beq_eq_false_iff_ne, ne_eq, Prod.mk.injEq, not_and]
  constructor
  · rintro h h0 h1 h2 h3
    rcases h with h | h | h | h
    · exact h h0
    · exact h h1
    · exact h h2
    · exact h h3
  · intro h
    by_cases h0 : y0 = x.f2.f0
    · by_cases h1 : y1 = x.f2.f1
      · by_cases h2 : y2 = x.f2.f2
        · exact .inr (.inr (.inr (h h0 h1 h2)))
        · exact .inr (.inr (.inl h2))
      · exact .inr (.inl h1)
    · exact .inl h0
theorem wrap_succ {k : Nat} (h : k ≤ 65536) : wrap64 ((k : Int) + 1) = ((k + 1 : Nat) : Int) := by rw [w64] <;> omega
theorem bytes_eq (a b : ByteArray) : a.toList = b.toList ↔ a = b := by
  constructor
  · intro h
    have e1 := congrArg List.toArray h
    cases a; cases b; simpa [ByteArray.toList_eq] using e1
  · intro h; rw [h]
section
variable (l : List Ins) (hl : l.length ≤ 65536)
include hl
theorem tab_cls (i : Nat) (x : Ins) (hx : l[i]? = some x) (S : List Four) (hS : S.Nodup) (hSl : S.length ≤ 65536) (T : List ByteArray) (N : List Int) (hN : N.length = l.length) (R : List CS × List ByteArray × List Int)
    (hr : Ev (fun k => dowelref20_tables.l0 k l ((i + 1 : Nat) : Int) ((once S (clsI x)).map toC) T (N.set i (placeOf (once S (clsI x)) (clsI x) : Int))) R) : ∀ d k : Nat, k + d = S.length → (∀ j, j < k → S[j]? ≠ some (clsI x)) → Ev (fun n => dowelref20_tables.l1 n l (i : Int) (k : Int) (S.map toC) T N) R
  | 0, k, h, hno => by
    have hi := (List.getElem?_eq_some_iff.1 hx).1
    have hk : k = S.length := by omega
    subst hk
    have hnot : clsI x ∉ S := fun hm => by
      obtain ⟨j, hj⟩ := List.mem_iff_getElem?.1 hm
      exact hno j (List.getElem?_eq_some_iff.1 hj).1 hj
    have ho : once S (clsI x) = S ++ [clsI x] := by rw [once, if_neg hnot]
    have hp : placeOf (S ++ [clsI x]) (clsI x) = S.length := place_new hnot
    rw [ho, hp, List.map_append] at hr
    refine Ev.step (fun _ => by rw [dowelref20_tables.l1]) ?_
    refine Ev.neg (by simp) (Ev.pos (by simp) (Ev.pos (by omega) (Ev.pos (by omega) (Ev.pos (by rw [List.length_map]; omega) (Ev.pos (by omega) ?_)))))
    rw [rd_ins hx, wrap_succ (by omega), Int.toNat_natCast]
    exact hr
  | d + 1, k, h, hno => by
    have hi := (List.getElem?_eq_some_iff.1 hx).1
    have hkl : k < S.length := by omega
    have hy : S[k]? = some S[k] := List.getElem?_eq_getElem hkl
    refine Ev.step (fun _ => by rw [dowelref20_tables.l1]) ?_
    refine Ev.pos (by rw [List.length_map]; omega) (Ev.pos (by omega) (Ev.pos (by omega) (Ev.pos (by omega) ?_)))
    rw [rd_cls hy, rd_ins hx]
    refine Ev.ite (fun hne => ?_) (fun hne => ?_)
    · rw [wrap_succ (by omega)]
      exact tab_cls i x hx S hS hSl T N hN R hr d (k + 1) (by omega) (fun j hj => by
        by_cases e : j = k
        · subst e; rw [hy]; intro e; injection e with e; exact (cls_ne _ _).1 hne e
        · exact hno j (by omega))
    · have he : S[k] = clsI x := by
        by_cases he : S[k] = clsI x
        · exact he
        · exact absurd ((cls_ne _ _).2 he) hne
      rw [he] at hy
      have ho : once S (clsI x) = S := by rw [once, if_pos (List.mem_of_getElem? hy)]
      have hp : placeOf S (clsI x) = k := idx_uniq hS hy
      rw [ho, hp] at hr
      refine Ev.neg (by rw [List.length_map]; omega) (Ev.pos (by omega) ?_)
      rw [wrap_succ (by omega), Int.toNat_natCast]
      exact hr
theorem tab_name (i : Nat) (x : Ins) (hx : l[i]? = some x) (S : List CS) (T : List ByteArray) (hT : T.Nodup) (hTl : T.length ≤ 65536) (N : List Int) (hN : N.length = l.length) (R : List CS × List ByteArray × List Int)
    (hr : Ev (fun k => dowelref20_tables.l0 k l ((i + 1 : Nat) : Int) S (once T x.f3) (N.set i (placeOf (once T x.f3) x.f3 : Int))) R) : ∀ d k : Nat, k + d = T.length → (∀ j, j < k → T[j]? ≠ some x.f3) → Ev (fun n => dowelref20_tables.l2 n l (i : Int) (k : Int) S T N) R
  | 0, k, h, hno => by
    have hi := (List.getElem?_eq_some_iff.1 hx).1
    have hk : k = T.length := by omega
    subst hk
    have hnot : x.f3 ∉ T := fun hm => by
      obtain ⟨j, hj⟩ := List.mem_iff_getElem?.1 hm
      exact hno j (List.getElem?_eq_some_iff.1 hj).1 hj
    have ho : once T x.f3 = T ++ [x.f3] := by rw [once, if_neg hnot]
    have hp : placeOf (T ++ [x.f3]) x.f3 = T.length := place_new hnot
    rw [ho, hp] at hr
    refine Ev.step (fun _ => by rw [dowelref20_tables.l2]) ?_
    refine Ev.neg (by omega) (Ev.pos rfl (Ev.pos (by omega) (Ev.pos (by omega) (Ev.pos (by omega) (Ev.pos (by omega) ?_)))))
    rw [rd_ins hx, wrap_succ (by omega), Int.toNat_natCast]
    exact hr
  | d + 1, k, h, hno => by
    have hi := (List.getElem?_eq_some_iff.1 hx).1
    have hkl : k < T.length := by omega
    have hy : T[k]? = some T[k] := List.getElem?_eq_getElem hkl
    refine Ev.step (fun _ => by rw [dowelref20_tables.l2]) ?_
    refine Ev.pos (by omega) (Ev.pos (by omega) (Ev.pos (by omega) (Ev.pos (by omega) ?_)))
    rw [rd_str hy, rd_ins hx]
    refine Ev.ite (fun heq => ?_) (fun hne => ?_)
    · have he : T[k] = x.f3 := (bytes_eq _ _).1 heq
      rw [he] at hy
      have ho : once T x.f3 = T := by rw [once, if_pos (List.mem_of_getElem? hy)]
      have hp : placeOf T x.f3 = k := idx_uniq hT hy
      rw [ho, hp] at hr
      refine Ev.neg (by omega) (Ev.pos (by omega) ?_)
      rw [wrap_succ (by omega), Int.toNat_natCast]
      exact hr
    · rw [wrap_succ (by omega)]
      exact tab_name i x hx S T hT hTl N hN R hr d (k + 1) (by omega) (fun j hj => by
        by_cases e : j = k
        · subst e; rw [hy]; intro e; injection e with e; exact hne ((bytes_eq _ _).2 e)
        · exact hno j (by omega))
theorem tab_loop (Sf : List Four) (Tf : List ByteArray) : ∀ (d i : Nat) (S : List Four) (T : List ByteArray), i + d = l.length → S.Nodup → T.Nodup → S.length ≤ i → T.length ≤ i → (l.drop i).foldl addC S = Sf → (l.drop i).foldl addN T = Tf →
    Ev (fun k => dowelref20_tables.l0 k l (i : Int) (S.map toC) T ((l.take i).map (tabN Sf Tf) ++ List.replicate d 0)) (Sf.map toC, Tf, l.map (tabN Sf Tf))
  | 0, i, S, T, h, hS, hT, h1, h2, h3, h4 => by
    rw [List.drop_of_length_le (by omega), List.foldl_nil] at h3 h4
    subst h3 h4
    refine Ev.step (fun _ => by rw [dowelref20_tables.l0]) ?_
    refine Ev.neg (by omega) (Ev.some_ ?_)
    rw [List.take_of_length_le (by omega)]
    simp
  | d + 1, i, S, T, h, hS, hT, h1, h2, h3, h4 => by
    have hi : i < l.length := by omega
    have hx : l[i]? = some l[i] := List.getElem?_eq_getElem hi
    have h3' := h3
    have h4' := h4
    rw [List.drop_eq_getElem_cons hi, List.foldl_cons] at h3 h4
    generalize l[i] = x at hx h3 h4
    have hp3 : addC S x <+: Sf := by rw [← h3]; exact foldC_prefix _ _
    have hp4 : addN T x <+: Tf := by rw [← h4]; exact foldN_prefix _ _
    have hlS : (addC S x).length ≤ i + 1 := by
      unfold addC
      split
      · have := once_length S (clsI x); omega
      · omega
    have hlT : (addN T x).length ≤ i + 1 := by
      unfold addN
      split
      · have := once_length T x.f3; omega
      · omega
    have ih := tab_loop Sf Tf d (i + 1) (addC S x) (addN T x) (by omega) (addC_nodup hS x) (addN_nodup hT x) hlS hlT h3 h4
    have hNl : ((l.take i).map (tabN Sf Tf) ++ List.replicate (d + 1) 0).length = l.length := by
      rw [List.length_append, List.length_map, List.length_take, List.length_replicate]; omega
    have hset : ∀ v : Int, tabN Sf Tf x = v → ((l.take i).map (tabN Sf Tf) ++ List.replicate (d + 1) 0).set i v = (l.take (i + 1)).map (tabN Sf Tf) ++ List.replicate d 0 := by
      intro v hv
      have hlen : ((l.take i).map (tabN Sf Tf)).length = i := by rw [List.length_map, List.length_take]; omega
      have := set_fill ((l.take i).map (tabN Sf Tf)) d v
      rw [hlen] at this
      rw [this, take_snoc hx, List.map_append, ← hv]
      rfl
    refine Ev.step (fun _ => by rw [dowelref20_tables.l0]) ?_
    refine Ev.pos (by omega) (Ev.pos (by omega) ?_)
    rw [rd_ins hx]
    refine Ev.bind (kindR_ev x.f0) ?_
    refine Ev.ite (fun k2 => ?_) (fun k2 => ?_)
    · have eC : addC S x = once S (clsI x) := by rw [addC, if_pos k2]
      have eN : addN T x = T := by rw [addN, if_neg (by omega)]
      rw [eC] at hp3
      rw [eC, eN] at ih
      refine tab_cls l hl i x hx S hS (by omega) T _ hNl _ ?_ S.length 0 (by omega) (fun j hj => by omega)
      rw [hset _ (by rw [tabN, if_pos k2, place_prefix hp3 (once_mem S _)])]
      exact ih
    · refine Ev.ite (fun k3 => ?_) (fun k3 => ?_)
      · have eC : addC S x = S := by rw [addC, if_neg (by omega)]
        have eN : addN T x = once T x.f3 := by rw [addN, if_pos k3]
        rw [eN] at hp4
        rw [eC, eN] at ih
        refine tab_name l hl i x hx (S.map toC) T hT (by omega) _ hNl _ ?_ T.length 0 (by omega) (fun j hj => by omega)
        rw [hset _ (by rw [tabN, if_neg k2, if_pos k3, place_prefix hp4 (once_mem T _)])]
        exact ih
      · have eC : addC S x = S := by rw [addC, if_neg k2]
        have eN : addN T x = T := by rw [addN, if_neg k3]
        rw [eC, eN] at ih
        refine Ev.pos (by rw [hNl]; omega) ?_
        rw [wrap_succ (by omega), Int.toNat_natCast, hset 0 (by rw [tabN, if_neg k2, if_neg k3])]
        exact ih
theorem tables_ev : Ev (fun k => dowelref20_tables.f k l) ((l.foldl addC []).map toC, l.foldl addN [], l.map (tabN (l.foldl addC []) (l.foldl addN []))) := by
  unfold dowelref20_tables.f
  refine Ev.pos (by omega) (Ev.pos (by omega) ?_)
  have := tab_loop l hl (l.foldl addC []) (l.foldl addN []) l.length 0 [] [] (by omega) List.nodup_nil List.nodup_nil (by simp) (by simp) (by rw [List.drop_zero]) (by rw [List.drop_zero])
  simpa using this
end
theorem countR_ev : ∀ (m n : Nat), n ≤ m → ∀ (b : List Int), b.length + n < 140737488355328 → Ev (fun k => dowelref20_count.l0 k b (n : Int)) (b ++ cntE n) := by
  intro m
  induction m with
  | zero =>
    intro n hn b hb
    obtain rfl : n = 0 := by omega
    refine Ev.step (fun _ => by rw [dowelref20_count.l0]) ?_
    refine Ev.neg (by omega) (Ev.pos (by omega) (Ev.some_ ?_))
    rw [cntE, dif_pos (by omega)]
    rfl
  | succ m ih =>
    intro n hn b hb
    refine Ev.step (fun _ => by rw [dowelref20_count.l0]) ?_
    rw [cntE]
    by_cases c : n < 128
    · rw [dif_pos c]
      refine Ev.neg (by omega) (Ev.pos (by omega) (Ev.some_ ?_))
      rw [show ((n : Int) % 256) = (n : Int) by omega]
    · rw [dif_neg c]
      refine Ev.pos (by omega) (Ev.pos (by omega) ?_)
      have e1 : Int.tmod (n : Int) 128 = ((n % 128 : Nat) : Int) := by rw [Int.tmod_eq_emod_of_nonneg (by omega)]; omega
      have e2 : Int.tdiv (n : Int) 128 = ((n / 128 : Nat) : Int) := by rw [Int.tdiv_eq_ediv_of_nonneg (by omega)]; omega
      rw [e1, e2, w64 (by omega) (by omega), w64 (by omega) (by omega), show (((n % 128 : Nat) : Int) + 128) % 256 = ((n % 128 : Nat) : Int) + 128 by omega]
      have := ih (n / 128) (by omega) (b ++ [((n % 128 : Nat) : Int) + 128]) (by rw [List.length_append, List.length_singleton]; omega)
      rw [List.append_assoc] at this
      exact this
end Go.Proofs.Ytebiogaacikphaa.Pack
end
