/- Parts of the proof of packEncodes: RefCheck. No condition beyond each lemma's own. -/
import Derived.Test.YtebiogaacikphaaTE7
import Derived.Test.YtebiogaacikphaaTE8
import Derived.Test.YtebiogaacikphaaTE13
import Derived.Test.YtebiogaacikphaaTE22
import Derived.Test.YtebiogaacikphaaTE23
import Derived.Test.YtebiogaacikphaaTE24
section
namespace Go.Proofs.Ytebiogaacikphaa.Pack
open Go.RowKit Go.Proofs.YtebiogaacikphaaW.PrintWords Go.Proofs.Ytebiogaacikphaa.PAll Go.Proofs.Ytebiogaacikphaa.Names
set_option linter.unusedVariables false
theorem far19 (a : Int) : dowelref19_far.f a = some (decide (kindOf a = 1)) := by
  unfold dowelref19_far.f kindOf
  by_cases h : a = 3 ∨ a = 4 ∨ a = 5 ∨ a = 6 ∨ a = 7 ∨ a = 10 ∨ a = 15
  · rw [if_pos h]
    rcases h with h | h | h | h | h | h | h <;> subst h <;> rfl
  · have e : ∀ b, (b = 3 ∨ b = 4 ∨ b = 5 ∨ b = 6 ∨ b = 7 ∨ b = 10 ∨ b = 15) → a ≠ b := fun b hb e => h (e ▸ hb)
    rw [if_neg (e 3 (by decide)), if_neg (e 4 (by decide)), if_neg (e 5 (by decide)), if_neg (e 6 (by decide)), if_neg (e 7 (by decide)), if_neg (e 10 (by decide)), if_neg (e 15 (by decide)), if_neg h]
    split
    · rfl
    · split <;> rfl
/-- What makes an instruction right, one thing after the other. -/
structure RC (x : Ins) (n : Nat) : Prop where
  op : 0 ≤ x.f0 ∧ x.f0 ≤ 15
  far : kindOf x.f0 = 1 → 0 ≤ x.f1 ∧ x.f1 < n
  near : kindOf x.f0 ≠ 1 → x.f1 = 0
  cls : kindOf x.f0 ≠ 2 → x.f2.f0 = 0 ∧ x.f2.f1 = 0 ∧ x.f2.f2 = 0 ∧ x.f2.f3 = 0
  name : kindOf x.f0 = 3 → okName x.f3 = true
  bare : kindOf x.f0 ≠ 3 → x.f3 = (⟨#[]⟩ : ByteArray)
theorem ins_ext {x y : Ins} (h0 : x.f0 = y.f0) (h1 : x.f1 = y.f1) (h2 : x.f2.f0 = y.f2.f0) (h3 : x.f2.f1 = y.f2.f1) (h4 : x.f2.f2 = y.f2.f2) (h5 : x.f2.f3 = y.f2.f3) (h6 : x.f3 = y.f3) : x = y := by
  obtain ⟨a0, a1, ⟨a2, a3, a4, a5⟩, a6⟩ := x
  obtain ⟨b0, b1, ⟨b2, b3, b4, b5⟩, b6⟩ := y
  simp only at h0 h1 h2 h3 h4 h5 h6
  subst h0 h1 h2 h3 h4 h5 h6
  rfl
theorem rightC (x : Ins) (n : Nat) : rightB x n = true ↔ RC x n := by
  constructor
  · intro h
    obtain ⟨h1, h2⟩ := rightB_ok h
    rcases kind4 x.f0 with k | k | k | k
    · have e := h1.k0 k
      exact ⟨h1.op, fun k' => absurd (k.symm.trans k') (by decide), fun _ => congrArg (·.f1) e, fun _ => ⟨congrArg (·.f2.f0) e, congrArg (·.f2.f1) e, congrArg (·.f2.f2) e, congrArg (·.f2.f3) e⟩, h2, fun _ => congrArg (·.f3) e⟩
    · have e := (h1.k1 k).1
      exact ⟨h1.op, fun _ => (h1.k1 k).2, fun k' => absurd k k', fun _ => ⟨congrArg (·.f2.f0) e, congrArg (·.f2.f1) e, congrArg (·.f2.f2) e, congrArg (·.f2.f3) e⟩, h2, fun _ => congrArg (·.f3) e⟩
    · have e := h1.k2 k
      exact ⟨h1.op, fun k' => absurd (k.symm.trans k') (by decide), fun _ => congrArg (·.f1) e, fun k' => absurd k k', h2, fun _ => congrArg (·.f3) e⟩
    · have e := h1.k3 k
      exact ⟨h1.op, fun k' => absurd (k.symm.trans k') (by decide), fun _ => congrArg (·.f1) e, fun _ => ⟨congrArg (·.f2.f0) e, congrArg (·.f2.f1) e, congrArg (·.f2.f2) e, congrArg (·.f2.f3) e⟩, h2, fun k' => absurd k k'⟩
  · intro h
    refine right_of_ok ⟨h.op, fun k => ?_, fun k => ⟨?_, h.far k⟩, fun k => ?_, fun k => ?_⟩ h.name
    · have c := h.cls (by rw [k]; decide)
      exact ins_ext rfl (h.near (by rw [k]; decide)) c.1 c.2.1 c.2.2.1 c.2.2.2 (h.bare (by rw [k]; decide))
    · have c := h.cls (by rw [k]; decide)
      exact ins_ext rfl rfl c.1 c.2.1 c.2.2.1 c.2.2.2 (h.bare (by rw [k]; decide))
    · exact ins_ext rfl (h.near (by rw [k]; decide)) rfl rfl rfl rfl (h.bare (by rw [k]; decide))
    · have c := h.cls (by rw [k]; decide)
      exact ins_ext rfl (h.near (by rw [k]; decide)) c.1 c.2.1 c.2.2.1 c.2.2.2 rfl
theorem right_no {x : Ins} {n : Nat} (h : ¬ RC x n) : rightB x n = false := by
  cases hb : rightB x n with
  | false => rfl
  | true => exact absurd ((rightC x n).1 hb) h
theorem empty_list (s : ByteArray) : (s.toList == ([] : List UInt8)) = true ↔ s = (⟨#[]⟩ : ByteArray) := by
  rw [ByteArray.toList_eq]
  constructor
  · intro h
    cases s with
    | mk d =>
      have : d.toList = [] := by simpa using h
      have : d = #[] := by simpa using this
      rw [this]
  · rintro rfl; rfl
theorem kind_c {a : Int} : kindOf a = 2 ↔ (a = 1 ∨ a = 2) := by
  unfold kindOf
  constructor
  · intro h
    split at h
    · cases h
    · split at h
      · assumption
      · split at h <;> cases h
  · rintro (rfl | rfl) <;> rfl
theorem kind_n {a : Int} : kindOf a = 3 ↔ (a = 12 ∨ a = 14) := by
  unfold kindOf
  constructor
  · intro h
    split at h
    · cases h
    · split at h
      · cases h
      · split at h
        · assumption
        · cases h
  · rintro (rfl | rfl) <;> rfl
theorem right19_ev (x : Ins) (n : Nat) (hs : x.f3.size ≤ 140737488351232) : Ev (fun k => dowelref19_right.f k x.f0 x.f1 x.f2.f0 x.f2.f1 x.f2.f2 x.f2.f3 x.f3 (n : Int)) (rightB x n) := by
  have j3 : ∀ b : Bool, (b = true ↔ kindOf x.f0 = 3) → (0 ≤ x.f0 ∧ x.f0 ≤ 15) → (kindOf x.f0 = 1 → 0 ≤ x.f1 ∧ x.f1 < n) → (kindOf x.f0 ≠ 1 → x.f1 = 0) → (kindOf x.f0 ≠ 2 → x.f2.f0 = 0 ∧ x.f2.f1 = 0 ∧ x.f2.f2 = 0 ∧ x.f2.f3 = 0) → Ev (fun k => dowelref19_right.j3 k b x.f0 x.f1 x.f2.f0 x.f2.f1 x.f2.f2 x.f2.f3 x.f3) (rightB x n) := by
    intro b hb h1 h2 h3 h4
    refine Ev.step (fun _ => by rw [dowelref19_right.j3]) ?_
    refine Ev.ite (fun h => ?_) (fun h => ?_)
    · have k := hb.1 h
      have hr : rightB x n = (isName x.f3.data.toList && isOwn x.f3.data.toList) := by
        rw [Bool.eq_iff_iff, rightC, Bool.and_eq_true]
        constructor
        · intro hc
          have := hc.name k
          rw [okName, Bool.and_eq_true] at this
          exact ⟨this.2, this.1⟩
        · intro hc
          exact ⟨h1, h2, h3, h4, fun _ => by rw [okName, Bool.and_eq_true]; exact ⟨hc.2, hc.1⟩, fun k' => absurd k k'⟩
      rw [hr]
      refine Ev.bind (refName_ev x.f3 hs) ?_
      refine Ev.ite (fun hn => ?_) (fun hn => Ev.some_ (by rw [show isName x.f3.data.toList = false by simpa using hn]; rfl))
      rw [hn, Bool.true_and]
      exact Ev.bind (Names.own_ev x.f3 hs) (Ev.some_ rfl)
    · have k : kindOf x.f0 ≠ 3 := fun k => h (hb.2 k)
      refine Ev.some_ ?_
      rw [Bool.eq_iff_iff, rightC, empty_list]
      exact ⟨fun hc => ⟨h1, h2, h3, h4, fun k' => absurd k' k, fun _ => hc⟩, fun hc => hc.bare k⟩
  have j2 : ∀ b : Bool, (b = false ↔ (kindOf x.f0 ≠ 2 → x.f2.f0 = 0 ∧ x.f2.f1 = 0 ∧ x.f2.f2 = 0 ∧ x.f2.f3 = 0)) → (0 ≤ x.f0 ∧ x.f0 ≤ 15) → (kindOf x.f0 = 1 → 0 ≤ x.f1 ∧ x.f1 < n) → (kindOf x.f0 ≠ 1 → x.f1 = 0) → Ev (fun k => dowelref19_right.j2 k b x.f0 x.f1 x.f2.f0 x.f2.f1 x.f2.f2 x.f2.f3 x.f3) (rightB x n) := by
    intro b hb h1 h2 h3
    refine Ev.step (fun _ => by rw [dowelref19_right.j2]) ?_
    refine Ev.ite (fun h => Ev.some_ (right_no (fun hc => by have := hb.2 hc.cls; rw [h] at this; cases this)).symm) (fun h => ?_)
    have hc := hb.1 (by simpa using h)
    refine Ev.ite (fun e => j3 _ ⟨fun _ => kind_n.2 (.inl e), fun _ => rfl⟩ h1 h2 h3 hc) (fun e => j3 _ ?_ h1 h2 h3 hc)
    rw [kind_n, beq_iff_eq]
    exact ⟨.inr, fun h => h.resolve_left e⟩
  have j1 : ∀ b : Bool, (b = false ↔ ((kindOf x.f0 = 1 → 0 ≤ x.f1 ∧ x.f1 < n) ∧ (kindOf x.f0 ≠ 1 → x.f1 = 0))) → (0 ≤ x.f0 ∧ x.f0 ≤ 15) → Ev (fun k => dowelref19_right.j1 k b x.f0 x.f1 x.f2.f0 x.f2.f1 x.f2.f2 x.f2.f3 x.f3) (rightB x n) := by
    intro b hb h1
    refine Ev.step (fun _ => by rw [dowelref19_right.j1]) ?_
    refine Ev.ite (fun h => Ev.some_ (right_no (fun hc => by have := hb.2 ⟨hc.far, hc.near⟩; rw [h] at this; cases this)).symm) (fun h => ?_)
    have hc := hb.1 (by simpa using h)
    refine Ev.ite (fun e => j2 _ ⟨fun _ k => absurd (kind_c.2 (.inl e)) k, fun _ => rfl⟩ h1 hc.1 hc.2) (fun e1 => ?_)
    refine Ev.ite (fun e => j2 _ ⟨fun _ k => absurd (kind_c.2 (.inr e)) k, fun _ => rfl⟩ h1 hc.1 hc.2) (fun e2 => j2 _ ?_ h1 hc.1 hc.2)
    have k2 : kindOf x.f0 ≠ 2 := fun k => by
      rcases kind_c.1 k with e | e
      · exact e1 e
      · exact e2 e
    simp only [Bool.or_eq_false_iff, Bool.not_eq_false', beq_iff_eq]
    exact ⟨fun h _ => h, fun h => h k2⟩
  have j0 : ∀ b : Bool, (b = false ↔ (0 ≤ x.f0 ∧ x.f0 ≤ 15)) → Ev (fun k => dowelref19_right.j0 k (n : Int) b x.f0 x.f1 x.f2.f0 x.f2.f1 x.f2.f2 x.f2.f3 x.f3) (rightB x n) := by
    intro b hb
    refine Ev.step (fun _ => by rw [dowelref19_right.j0]) ?_
    refine Ev.ite (fun h => Ev.some_ (right_no (fun hc => by have := hb.2 hc.op; rw [h] at this; cases this)).symm) (fun h => ?_)
    have hop := hb.1 (by simpa using h)
    refine Ev.bind (Ev.const (far19 _)) ?_
    refine Ev.ite (fun hk => ?_) (fun hk => ?_)
    · have k := of_decide_eq_true hk
      refine Ev.ite (fun h => j1 _ ⟨fun h' => (by cases h'), fun h' => absurd (h'.1 k) (by omega)⟩ hop) (fun h0 => ?_)
      refine Ev.ite (fun h => j1 _ ⟨fun h' => (by cases h'), fun h' => absurd (h'.1 k) (by omega)⟩ hop) (fun h2 => ?_)
      refine Ev.bind (Ev.const (far19 _)) ?_
      refine Ev.pos hk (j1 _ ⟨fun _ => ⟨fun _ => ⟨by omega, by omega⟩, fun k' => absurd k k'⟩, fun _ => rfl⟩ hop)
    · have k : kindOf x.f0 ≠ 1 := fun k => hk (decide_eq_true k)
      refine Ev.bind (Ev.const (far19 _)) ?_
      refine Ev.neg hk (j1 _ ?_ hop)
      rw [bne_eq_false_iff_eq]
      exact ⟨fun h => ⟨fun k' => absurd k' k, fun _ => h⟩, fun h => h.2 k⟩
  unfold dowelref19_right.f
  refine Ev.ite (fun h => j0 _ ⟨fun h' => (by cases h'), fun h' => absurd h'.1 (by omega)⟩) (fun h => j0 _ ?_)
  rw [decide_eq_false_iff_not]
  exact ⟨fun h' => by omega, fun h' => by omega⟩
theorem rd_ins {l : List Ins} {i : Nat} {x : Ins} (h : l[i]? = some x) : rd_T78 l (i : Int) = x := by
  unfold rd_T78
  rw [Int.toNat_natCast, List.getD_eq_getElem?_getD, h, Option.getD_some]
theorem check19_loop (l : List Ins) (hl : l.length ≤ 65536) (hs : ∀ x ∈ l, x.f3.size ≤ 140737488351232) : ∀ d i : Nat, i + d = l.length → Ev (fun k => dowelref19_Check.l0 k l (i : Int)) (match checkAt l.length i (l.drop i) with | some j => ((j : Int), 190) | none => (0, 0))
  | 0, i, h => by
    refine Ev.step (fun _ => by rw [dowelref19_Check.l0]) ?_
    rw [List.drop_of_length_le (by omega), checkAt]
    exact Ev.neg (by omega) (Ev.some_ rfl)
  | d + 1, i, h => by
    have hi : i < l.length := by omega
    have ih := check19_loop l hl hs d (i + 1) (by omega)
    have hg : l[i]? = some l[i] := List.getElem?_eq_getElem hi
    refine Ev.step (fun _ => by rw [dowelref19_Check.l0]) ?_
    refine Ev.pos (by omega) (Ev.pos (by omega) ?_)
    rw [rd_ins hg, List.drop_eq_getElem_cons hi, checkAt]
    refine Ev.bind (right19_ev l[i] l.length (hs _ (List.getElem_mem hi))) ?_
    refine Ev.ite (fun hr => ?_) (fun hr => ?_)
    · rw [if_pos hr, show wrap64 ((i : Int) + 1) = ((i + 1 : Nat) : Int) by rw [w64] <;> omega]
      exact ih
    · rw [if_neg hr]
      exact Ev.some_ rfl
theorem check19_ev (l : List Ins) (hs : ∀ x ∈ l, x.f3.size ≤ 140737488351232) : Ev (fun k => dowelref19_Check.f k l) (checkL l) := by
  unfold dowelref19_Check.f checkL
  refine Ev.ite (fun h => Ev.some_ (by rw [if_pos (by omega)])) (fun h => ?_)
  rw [if_neg (by omega)]
  refine Ev.ite (fun h => Ev.some_ (by rw [if_pos (by omega)])) (fun h0 => ?_)
  rw [if_neg (by omega)]
  exact (check19_loop l (by omega) hs l.length 0 (by omega)).to rfl
theorem check19_lit (A : Option Addr) (c : Nat) (l : List Ins) (w : World) (hr : Kd.C k78 w A l.length l) (hc : l.length ≤ c) (hs : ∀ x ∈ l, x.f3.size ≤ 140737488351232) :
    Calls Try.prog 77 #[.slice A l.length c] w fun e w' => e = .returned (.agg #[.int .i64 (checkL l).1, .int .i64 (checkL l).2]) ∧ Below w.heap.size w w' := by
  obtain ⟨k, hk⟩ := check19_ev l hs
  exact dowelref19_Check.calls k A c l _ _ w hr hc (hk k (Nat.le_refl _))
end Go.Proofs.Ytebiogaacikphaa.Pack
end
