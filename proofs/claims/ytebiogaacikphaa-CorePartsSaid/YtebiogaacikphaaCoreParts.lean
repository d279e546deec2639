/- core.Parts and the reference's: of a right body's nodes the same; the pure statement of CoreParts. Bodies and texts are of at most 2^47 bytes. -/
import Derived.Test.YtebiogaacikphaaCoreRef
import Derived.Test.YtebiogaacikphaaPAllx5
import Derived.Test.YtebiogaacikphaaPAllx11
import Derived.Test.YtebiogaacikphaaPAllx12
namespace Go.Proofs.Ytebiogaacikphaa.Core
open Go.RowKit Go.Proofs.YtebiogaacikphaaW.PrintWords Go.Proofs.Ytebiogaacikphaa.PAll Go.Proofs.Ytebiogaacikphaa.Names
set_option linter.unusedVariables false

def ar (a : Int) : Int := if a = 4 ∨ a = 5 then 2 else if a = 6 ∨ a = 7 ∨ a = 8 then 1 else 0
theorem ar_range (a : Int) : 0 ≤ ar a ∧ ar a ≤ 2 := by
  unfold ar
  repeat' split
  all_goals omega
theorem arity_ev (a : Int) : Ev (fun k => core_arity.f k a) (ar a) := by
  unfold core_arity.f
  have j0 : ∀ b : Bool, (b = true ↔ (a = 4 ∨ a = 5)) → Ev (fun k => core_arity.j0 k a b) (ar a) := by
    intro b hb
    refine Ev.step (fun _ => by rw [core_arity.j0]) ?_
    unfold ar
    refine Ev.ite (fun h => Ev.some_ (by rw [if_pos (hb.1 h)])) (fun h => ?_)
    rw [if_neg (fun h' => h (hb.2 h'))]
    refine Ev.ite (fun h => Ev.some_ (by rw [if_pos (.inl h)])) (fun h6 => ?_)
    refine Ev.ite (fun h => Ev.some_ (by rw [if_pos (.inr (.inl h))])) (fun h7 => ?_)
    exact Ev.ite (fun h => Ev.some_ (by rw [if_pos (.inr (.inr h))])) (fun h8 => Ev.some_ (by rw [if_neg (by omega)]))
  exact Ev.ite (fun h => j0 _ (by simp [h])) (fun h => j0 _ (by simp [h]))
theorem ar_ct {a : Int} (h : 0 ≤ ct a) : ar a = ct a := by
  unfold ct at h ⊢
  unfold ar
  repeat' split
  all_goals first | rfl | omega | (exfalso; omega)

/-- The kind of node i. -/
def kd (l : List Node) (i : Nat) : Int := (l.getD i zNode).f0
theorem kd_at (l : List Node) (i : Nat) (h : i < l.length) : kd l i = l[i].f0 := by
  rw [kd, List.getD_eq_getElem?_getD, List.getElem?_eq_getElem h]
  rfl
/-- Back from place n on: where so many that are missing are there. -/
def bk (l : List Node) : Nat → Int → Option Nat
  | 0, _ => none
  | n + 1, m => if m + (ar (kd l n) - 1) = 0 then some n else bk l n (m + (ar (kd l n) - 1))

theorem parts_loop (l : List Node) (i : Int) : ∀ (n : Nat) (m : Int), n ≤ l.length → l.length ≤ 140737488351232 → -(140737488351232 - n) ≤ m → m ≤ 140737488351233 - n →
    Ev (fun k => core_Parts.l0 k l i ((n : Int) - 1) m) (match bk l n m with | none => (-1, wrap64 (i - 1)) | some p => (((p : Int) - 1), wrap64 (i - 1))) := by
  intro n
  induction n with
  | zero =>
    intro m hn hl h1 h2
    refine Ev.step (fun _ => by rw [core_Parts.l0]) ?_
    refine Ev.neg (by omega) ?_
    exact Ev.some_ rfl
  | succ n ih =>
    intro m hn hl h1 h2
    have e : ((n + 1 : Nat) : Int) - 1 = (n : Int) := by omega
    rw [e]
    refine Ev.step (fun _ => by rw [core_Parts.l0]) ?_
    refine Ev.pos (by omega) ?_
    refine Ev.pos (by omega) ?_
    refine Ev.pos (by omega) ?_
    rw [rdN l n (by omega)]
    refine Ev.bind (arity_ev _) ?_
    rw [← kd_at l n (by omega)]
    have hr := ar_range (kd l n)
    have hw1 : wrap64 (ar (kd l n) - 1) = ar (kd l n) - 1 := by rw [w64] <;> omega
    rw [hw1]
    have hw2 : wrap64 (m + (ar (kd l n) - 1)) = m + (ar (kd l n) - 1) := by rw [w64] <;> omega
    have hw3 : wrap64 ((n : Int) - 1) = (n : Int) - 1 := by rw [w64] <;> omega
    rw [hw2, hw3, bk]
    refine Ev.ite (fun h => Ev.some_ (by rw [if_pos h])) (fun h => ?_)
    rw [if_neg h]
    exact ih _ (by omega) hl (by omega) (by omega)

/-- What core.Parts answers. -/
def partsB (l : List Node) (i : Int) : Int × Int :=
  if i < 0 ∨ (l.length : Int) ≤ i then (-1, -1)
  else if ar (kd l i.toNat) = 0 ∨ i = 0 then (-1, -1)
  else if ar (kd l i.toNat) = 1 then (i - 1, -1)
  else match bk l i.toNat 1 with | none => (-1, i - 1) | some p => ((p : Int) - 1, i - 1)

theorem parts_ev (l : List Node) (i : Int) (hl : l.length ≤ 140737488351232) : Ev (fun k => core_Parts.f k l i) (partsB l i) := by
  unfold core_Parts.f partsB
  have out : ∀ b : Bool, b = true → Ev (fun k => core_Parts.j0 k l i b) (-1, -1) := by
    intro b hb
    refine Ev.step (fun _ => by rw [core_Parts.j0]) ?_
    exact Ev.pos hb (Ev.now _)
  refine Ev.ite (fun h => (out true rfl).to (by rw [if_pos (.inl h)])) (fun h => ?_)
  rcases Int.lt_or_le i l.length with hi | hi
  · rw [if_neg (by omega)]
    obtain ⟨n, rfl⟩ := Int.eq_ofNat_of_zero_le (show 0 ≤ i by omega)
    refine Ev.step (fun _ => by rw [core_Parts.j0]) ?_
    refine Ev.neg (by simp; omega) ?_
    refine Ev.pos (by omega) ?_
    refine Ev.pos (by omega) ?_
    rw [rdN l n (by omega), Int.toNat_natCast, kd_at l n (by omega)]
    refine Ev.bind (arity_ev _) ?_
    have j1 : ∀ b : Bool, (b = true ↔ (ar l[n].f0 = 0 ∨ (n : Int) = 0)) → Ev (fun k => core_Parts.j1 k l (n : Int) (ar l[n].f0) b) (if ar l[n].f0 = 0 ∨ (n : Int) = 0 then (-1, -1) else if ar l[n].f0 = 1 then ((n : Int) - 1, -1) else match bk l n 1 with | none => (-1, (n : Int) - 1) | some p => ((p : Int) - 1, (n : Int) - 1)) := by
      intro b hb
      refine Ev.step (fun _ => by rw [core_Parts.j1]) ?_
      have hw3 : wrap64 ((n : Int) - 1) = (n : Int) - 1 := by rw [w64] <;> omega
      refine Ev.ite (fun h => Ev.some_ (by rw [if_pos (hb.1 h)])) (fun h => ?_)
      rw [if_neg (fun h' => h (hb.2 h')), hw3]
      refine Ev.ite (fun h => Ev.some_ (by rw [if_pos h])) (fun h1 => ?_)
      rw [if_neg h1]
      have := parts_loop l (n : Int) n 1 (by omega) hl (by omega) (by omega)
      rwa [hw3] at this
    exact Ev.ite (fun h => j1 _ (by simp [h])) (fun h => j1 _ (by simp [h]))
  · rw [if_pos (.inr hi)]
    exact out _ (by simpa using hi)

/-! ### The reference's -/
theorem whole_loop (l : List Node) (hl : l.length ≤ 140737488351232) : ∀ (n : Nat) (m acc : Int) (p : Nat), n ≤ l.length → (∀ j, j < n → 0 ≤ ct (kd l j)) → 0 < m → m ≤ 140737488351233 - n → 0 ≤ acc → acc ≤ 140737488351232 - n → bk l n m = some p →
    Ev (fun k => dowelref09_Whole.l0 k l acc m ((n : Int) - 1)) (acc + (n - p)) := by
  intro n
  induction n with
  | zero => intro m acc p hn hc h0 h1 h2 h3 hb; simp [bk] at hb
  | succ n ih =>
    intro m acc p hn hc h0 h1 h2 h3 hb
    have e : ((n + 1 : Nat) : Int) - 1 = (n : Int) := by omega
    rw [e]
    refine Ev.step (fun _ => by rw [dowelref09_Whole.l0]) ?_
    refine Ev.pos (by omega) ?_
    refine Ev.pos (by omega) ?_
    refine Ev.pos (by omega) ?_
    rw [rdN l n (by omega)]
    refine Ev.bind (count_ev _) ?_
    rw [← kd_at l n (by omega)]
    have hr := ct_range (kd l n)
    have hcn := hc n (by omega)
    rw [bk, ar_ct hcn] at hb
    have hw1 : wrap64 (m - 1) = m - 1 := by rw [w64] <;> omega
    have hw4 : wrap64 (acc + 1) = acc + 1 := by rw [w64] <;> omega
    have hw3 : wrap64 ((n : Int) - 1) = (n : Int) - 1 := by rw [w64] <;> omega
    rw [hw1, hw3, hw4]
    have hw2 : wrap64 (m - 1 + ct (kd l n)) = m + (ct (kd l n) - 1) := by rw [w64] <;> omega
    rw [hw2]
    split at hb
    · rename_i h
      obtain rfl : n = p := Option.some.inj hb
      rw [h]
      refine Ev.step (fun _ => by rw [dowelref09_Whole.l0]) ?_
      refine Ev.neg (by omega) ?_
      exact Ev.some_ (by omega)
    · rename_i h
      refine (ih _ (acc + 1) p (by omega) (fun j hj => hc j (by omega)) (by omega) (by omega) (by omega) (by omega) hb).to (by omega)

theorem whole_ev (l : List Node) (hl : l.length ≤ 140737488351232) (n p : Nat) (hn : n < l.length) (hc : ∀ j, j ≤ n → 0 ≤ ct (kd l j)) (hb : bk l (n + 1) 1 = some p) :
    Ev (fun k => dowelref09_Whole.f k l (n : Int)) ((n : Int) + 1 - p) := by
  unfold dowelref09_Whole.f
  refine Ev.pos (by omega) ?_
  refine Ev.pos (by omega) ?_
  rw [rdN l n hn]
  refine Ev.bind (count_ev _) ?_
  rw [← kd_at l n hn]
  have hr := ct_range (kd l n)
  have hcn := hc n (by omega)
  rw [bk, ar_ct hcn] at hb
  have hw3 : wrap64 ((n : Int) - 1) = (n : Int) - 1 := by rw [w64] <;> omega
  rw [hw3]
  split at hb
  · rename_i h
    obtain rfl : n = p := Option.some.inj hb
    have h' : ct (kd l n) = 0 := by omega
    rw [h']
    refine Ev.step (fun _ => by rw [dowelref09_Whole.l0]) ?_
    refine Ev.neg (by omega) ?_
    exact Ev.some_ (by omega)
  · rename_i h
    refine (whole_loop l hl n (ct (kd l n)) 1 p (by omega) (fun j hj => hc j (by omega)) (by omega) (by omega) (by omega) (by omega) ?_).to (by omega)
    rw [show (1 : Int) + (ct (kd l n) - 1) = ct (kd l n) by omega] at hb
    exact hb

/-- How many expressions lie ahead of place i. -/
def deep (l : List Node) : Nat → Int
  | 0 => 0
  | i + 1 => deep l i - ct (kd l i) + 1
/-- A right body. -/
structure Right (l : List Node) : Prop where
  kind : ∀ j, j < l.length → 0 ≤ ct (kd l j)
  has : ∀ j, j < l.length → ct (kd l j) ≤ deep l j
  one : deep l l.length = 1
theorem right_from (r : Int) (l : List Node) : ∀ (d i : Nat), i + d = l.length → bodyB r (l.drop i) (deep l i) = true → (∀ j, i ≤ j → j < l.length → 0 ≤ ct (kd l j) ∧ ct (kd l j) ≤ deep l j ∧ cleanB (l.getD j zNode) r = true) ∧ deep l l.length = 1 := by
  intro d
  induction d with
  | zero =>
    intro i hi h
    rw [List.drop_of_length_le (by omega)] at h
    simp only [bodyB, beq_iff_eq] at h
    rw [show i = l.length by omega] at h
    exact ⟨fun j h1 h2 => by omega, h⟩
  | succ d ih =>
    intro i hi h
    have hlt : i < l.length := by omega
    have hd : l.getD i zNode = l[i] := by rw [List.getD_eq_getElem?_getD, List.getElem?_eq_getElem hlt]; rfl
    rw [List.drop_eq_getElem_cons hlt, bodyB, ← hd, show (l.getD i zNode).f0 = kd l i from rfl] at h
    split at h
    · cases h
    · rename_i hn
      obtain ⟨h1, h2⟩ := ih (i + 1) (by omega) h
      refine ⟨fun j hj1 hj2 => ?_, h2⟩
      rcases Nat.lt_or_ge i j with h3 | h3
      · exact h1 j (by omega) hj2
      · obtain rfl : j = i := by omega
        refine ⟨by omega, by omega, ?_⟩
        cases hc : cleanB (l.getD j zNode) r with
        | true => rfl
        | false => exact absurd (.inr (.inr hc)) hn
theorem right_of (r : Int) (l : List Node) (h : bodyB r l 0 = true) : Right l := by
  obtain ⟨h1, h2⟩ := right_from r l l.length 0 (by omega) (by rwa [List.drop_zero])
  exact ⟨fun j hj => (h1 j (by omega) hj).1, fun j hj => (h1 j (by omega) hj).2.1, h2⟩

theorem bk_some (l : List Node) (hk : ∀ j, j < l.length → 0 ≤ ct (kd l j)) : ∀ (n : Nat) (m : Int), n ≤ l.length → 0 < m → m ≤ deep l n → ∃ p, bk l n m = some p ∧ p < n := by
  intro n
  induction n with
  | zero => intro m hn h0 h1; simp only [deep] at h1; omega
  | succ n ih =>
    intro m hn h0 h1
    have hc := hk n (by omega)
    rw [deep] at h1
    rw [bk, ar_ct hc]
    split
    · exact ⟨n, rfl, by omega⟩
    · obtain ⟨p, hp, hlt⟩ := ih (m + (ct (kd l n) - 1)) (by omega) (by omega) (by omega)
      exact ⟨p, hp, by omega⟩

theorem refparts_ev (l : List Node) (hl : l.length ≤ 140737488351232) (hr : Right l) (i : Int) : Ev (fun k => dowelref09_Parts.f k l i) (partsB l i) := by
  unfold dowelref09_Parts.f partsB
  have out : ∀ b : Bool, b = true → Ev (fun k => dowelref09_Parts.j0 k l i b) (-1, -1) := by
    intro b hb
    refine Ev.step (fun _ => by rw [dowelref09_Parts.j0]) ?_
    exact Ev.pos hb (Ev.now _)
  refine Ev.ite (fun h => (out true rfl).to (by rw [if_pos (.inl h)])) (fun h => ?_)
  rcases Int.lt_or_le i l.length with hi | hi
  · rw [if_neg (by omega)]
    obtain ⟨n, rfl⟩ := Int.eq_ofNat_of_zero_le (show 0 ≤ i by omega)
    refine Ev.step (fun _ => by rw [dowelref09_Parts.j0]) ?_
    refine Ev.neg (by simp; omega) ?_
    refine Ev.pos (by omega) ?_
    refine Ev.pos (by omega) ?_
    have hn : n < l.length := by omega
    rw [rdN l n hn, Int.toNat_natCast, ← kd_at l n hn]
    refine Ev.bind (count_ev _) ?_
    have hk := hr.kind n hn
    have hh := hr.has n hn
    have hrg := ct_range (kd l n)
    rw [ar_ct hk]
    have hw3 : wrap64 ((n : Int) - 1) = (n : Int) - 1 := by rw [w64] <;> omega
    rw [hw3]
    have hn0 : ct (kd l n) ≠ 0 → 0 < n := by
      intro h0
      rcases Nat.eq_zero_or_pos n with h1 | h1
      · subst h1
        simp only [deep] at hh
        omega
      · exact h1
    refine Ev.ite (fun h1 => ?_) (fun h1 => ?_)
    · have := hn0 (by omega)
      exact Ev.some_ (by rw [if_neg (by omega), if_pos h1])
    · refine Ev.ite (fun h2 => ?_) (fun h2 => ?_)
      · have h0 := hn0 (by omega)
        obtain ⟨q, rfl⟩ : ∃ q, n = q + 1 := ⟨n - 1, by omega⟩
        obtain ⟨p, hp, hlt⟩ := bk_some l hr.kind (q + 1) 1 (by omega) (by omega) (by omega)
        rw [if_neg (by omega), if_neg h1, hp]
        have hw := whole_ev l hl q p (by omega) (fun j hj => hr.kind j (by omega)) hp
        rw [show ((q + 1 : Nat) : Int) - 1 = (q : Int) by omega]
        refine Ev.bind hw ?_
        have hw5 : wrap64 ((q : Int) - ((q : Int) + 1 - p)) = (p : Int) - 1 := by rw [w64] <;> omega
        exact Ev.some_ (by rw [hw5])
      · exact Ev.some_ (by rw [if_pos (.inl (by omega))])
  · rw [if_pos (.inr hi)]
    exact out _ (by simpa using hi)

/-! ### The law -/
theorem law_rules (l : List Rule) (st : Int) (hf : Fit l) (hr : ∀ r ∈ l, Right r.f1) : ∀ (d i : Nat), i + d = l.length → Ev (fun k => dowellaw09_CoreParts.l0 k (i : Int) l st) true := by
  intro d
  induction d with
  | zero =>
    intro i hi
    refine Ev.step (fun _ => by rw [dowellaw09_CoreParts.l0]) ?_
    exact Ev.neg (by omega) (Ev.now _)
  | succ d ih =>
    intro i hi
    have hlt : i < l.length := by omega
    have hlen := hf.len
    refine Ev.step (fun _ => by rw [dowellaw09_CoreParts.l0]) ?_
    refine Ev.pos (by omega) ?_
    have hb := hf.body l[i] (List.getElem_mem _)
    have hri := hr l[i] (List.getElem_mem _)
    have hend : Ev (fun k => dowellaw09_CoreParts.l0 k (wrap64 ((i : Int) + 1)) l st) true := by
      have hw3 : wrap64 ((i : Int) + 1) = ((i + 1 : Nat) : Int) := by rw [w64] <;> omega
      rw [hw3]
      exact ih (i + 1) (by omega)
    have inner : ∀ (e : Nat) (j : Int), j + e = 300 → -1 ≤ j → Ev (fun k => dowellaw09_CoreParts.l1 k (i : Int) j l st) true := by
      intro e
      induction e with
      | zero =>
        intro j hj h1
        refine Ev.step (fun _ => by rw [dowellaw09_CoreParts.l1]) ?_
        refine Ev.pos (by omega) ?_
        refine Ev.pos (by omega) ?_
        have : ∀ b : Bool, b = false → Ev (fun k => dowellaw09_CoreParts.j3 k (i : Int) j b l st) true := by
          intro b hb
          refine Ev.step (fun _ => by rw [dowellaw09_CoreParts.j3]) ?_
          exact Ev.neg (by simp [hb]) hend
        exact Ev.ite (fun h => this _ (by simp; omega)) (fun h => this _ rfl)
      | succ e ihe =>
        intro j hj h1
        refine Ev.step (fun _ => by rw [dowellaw09_CoreParts.l1]) ?_
        refine Ev.pos (by omega) ?_
        refine Ev.pos (by omega) ?_
        refine Ev.ite (fun h => ?_) (fun h => ?_)
        · refine Ev.step (fun _ => by rw [dowellaw09_CoreParts.j3]) ?_
          refine Ev.pos (by simp; omega) ?_
          refine Ev.pos (by omega) ?_
          refine Ev.pos (by omega) ?_
          rw [rdR l i hlt]
          refine Ev.bind (parts_ev _ _ hb.2.1) ?_
          refine Ev.bind (refparts_ev _ hb.2.1 hri _) ?_
          refine Ev.pos rfl ?_
          refine Ev.pos rfl ?_
          have hw3 : wrap64 (j + 1) = j + 1 := by rw [w64] <;> omega
          rw [hw3]
          exact ihe (j + 1) (by omega) (by omega)
        · refine Ev.step (fun _ => by rw [dowellaw09_CoreParts.j3]) ?_
          exact Ev.neg (by simp) hend
    exact inner 301 (-1) (by omega) (by omega)

theorem law_pure (l : List Rule) (st : Int) (b : List Node) (i : Int) (hf : Fit l) (hb : b.length ≤ 140737488351232) : Ev (fun k => dowellaw09_CoreParts.f k l st b i) true := by
  unfold dowellaw09_CoreParts.f
  refine Ev.ite (fun _ => Ev.now _) (fun h => ?_)
  refine Ev.bind (parts_ev b i hb) ?_
  have j0 : ∀ q : Bool, q = false → Ev (fun k => dowellaw09_CoreParts.j0 k q l st) true := by
    intro q hq
    refine Ev.step (fun _ => by rw [dowellaw09_CoreParts.j0]) ?_
    refine Ev.neg (by simp [hq]) ?_
    refine Ev.bind (check_ev l st hf) ?_
    refine Ev.ite (fun h0 => ?_) (fun _ => Ev.now _)
    have hc : checkB l st = true := by
      cases hc : checkB l st with
      | true => rfl
      | false => rw [hc] at h0; simp at h0
    refine law_rules l st hf (fun r hr => ?_) l.length 0 (by omega)
    obtain ⟨j, hj, rfl⟩ := List.mem_iff_getElem.1 hr
    simp only [checkB, Bool.and_eq_true] at hc
    have := (allFrom_iff (okAt l) l.length 0).1 hc.2 j (by omega) (by omega)
    simp only [okAt, Bool.and_eq_true] at this
    rw [getD_at l j hj] at this
    exact right_of _ _ this.1.2
  have hout : i < 0 ∨ (b.length : Int) ≤ i → partsB b i = (-1, -1) := fun h => by rw [partsB, if_pos h]
  refine Ev.ite (fun h1 => ?_) (fun h1 => ?_)
  · rw [hout (.inl h1)]
    exact Ev.pos rfl (j0 _ rfl)
  · refine Ev.ite (fun h2 => ?_) (fun h2 => j0 _ rfl)
    rw [hout (.inr h2)]
    exact Ev.pos rfl (j0 _ rfl)
end Go.Proofs.Ytebiogaacikphaa.Core
