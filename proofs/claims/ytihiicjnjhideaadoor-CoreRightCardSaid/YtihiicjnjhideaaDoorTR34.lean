/- Parts of the proof of coreRight: CoreRight. No condition beyond each lemma's own. -/
import Derived.Test.YtihiicjnjhideaaDoorTR4
import Derived.Test.YtihiicjnjhideaaDoorTR5
import Derived.Test.YtihiicjnjhideaaDoorTR7
import Derived.Test.YtihiicjnjhideaaDoorTR31
import Derived.Test.YtihiicjnjhideaaDoorTR32
import Derived.Test.YtihiicjnjhideaaDoorTR33
section
namespace Go.Proofs.YtihiicjnjhideaaDoor.Names
open Go.RowKit Go.Proofs.YtihiicjnjhideaaDoorW.PrintWords Go.Proofs.YtihiicjnjhideaaDoor.PAll
set_option linter.unusedVariables false
/-- A byte that may stand in a name. -/
def nameByte (b : UInt8) : Bool := inName b || b == 58 || b == 126
theorem run_all (p : UInt8 → Bool) : ∀ l : List UInt8, ∀ b ∈ l.take (run p l), p b = true
  | [], b, h => by simp at h
  | c :: r, b, h => by
    rw [run] at h
    split at h
    · rename_i hc
      rw [List.take_succ_cons] at h
      rcases List.mem_cons.1 h with rfl | h
      · exact hc
      · exact run_all p r b h
    · simp at h
theorem ownLen_all : ∀ l : List UInt8, ∀ b ∈ l.take (ownLen l), inName b = true
  | [], b, h => by simp at h
  | c :: r, b, h => by
    rw [ownLen] at h
    split at h
    · rename_i hc
      rw [List.take_succ_cons] at h
      rcases List.mem_cons.1 h with rfl | h
      · rw [inName, hc, Bool.true_or]
      · exact run_all _ r b h
    · simp at h
theorem digit_in {b : UInt8} (h : digit b = true) : nameByte b = true := by rw [nameByte, inName, h, Bool.or_true, Bool.true_or, Bool.true_or]
theorem more_all (l : List UInt8) : ∀ b ∈ l.take (more l), nameByte b = true := by
  intro b h
  unfold more at h
  split at h
  · rename_i r
    split at h
    · simp at h
    · rw [List.take_succ_cons, List.take_succ_cons] at h
      rcases List.mem_cons.1 h with rfl | h
      · rfl
      rcases List.mem_cons.1 h with rfl | h
      · rfl
      rw [nameByte, ownLen_all r b h]
      rfl
  · simp at h
theorem tilde_all (l : List UInt8) : ∀ b ∈ l.take (tilde l), nameByte b = true := by
  intro b h
  unfold tilde at h
  split at h
  · rename_i r
    split at h
    · simp at h
    · rw [List.take_succ_cons] at h
      rcases List.mem_cons.1 h with rfl | h
      · rfl
      exact digit_in (run_all digit r b h)
  · simp at h
theorem named_all (l : List UInt8) : ∀ b ∈ l.take (namedLen l), nameByte b = true := by
  intro b h
  unfold namedLen at h
  split at h
  · simp at h
  rw [List.take_add, List.take_add, List.mem_append, List.mem_append] at h
  rcases h with (h | h) | h
  · rw [nameByte, ownLen_all _ b h]
    rfl
  · exact more_all _ b h
  · exact tilde_all _ b h
theorem isName_all {l : List UInt8} (h : isName l = true) : l.length ≤ 64 ∧ ∀ b ∈ l, nameByte b = true := by
  unfold isName at h
  simp only [Bool.and_eq_true, decide_eq_true_eq] at h
  refine ⟨h.1.2, fun b hb => named_all l b ?_⟩
  rw [h.2, List.take_of_length_le (Nat.le_refl _)]
  exact hb
theorem nameByte_ascii {b : UInt8} (h : nameByte b = true) : b.toNat < 128 := by
  have h1 : b = 58 → b.toNat < 128 := by rintro rfl; decide
  have h2 : b = 126 → b.toNat < 128 := by rintro rfl; decide
  unfold nameByte inName letter digit letterI digitI at h
  simp only [Bool.or_eq_true, Bool.and_eq_true, decide_eq_true_eq, beq_iff_eq] at h
  rcases h with (((h | h) | h) | h) | h
  · rcases h with h | h <;> omega
  · omega
  · omega
  · exact h1 h
  · exact h2 h
theorem indexAny_own : ∀ l : List UInt8, decide (0 ≤ Lib.indexAny l [58, 126]) = !isOwn l
  | [] => rfl
  | c :: r => by
    have ih := indexAny_own r
    have hge := Lib.indexAny_ge [58, 126] r
    rw [Lib.indexAny, isOwn, List.all_cons]
    rw [isOwn] at ih
    by_cases h1 : c = 58
    · subst h1; simp
    by_cases h2 : c = 126
    · subst h2; simp
    have e : ([58, 126] : List UInt8).contains c = false := by simp [h1, h2]
    rw [e]
    simp only [Bool.false_eq_true, if_false, bne, beq_eq_false_iff_ne.2 h1, beq_eq_false_iff_ne.2 h2, Bool.not_false, Bool.true_and, Bool.and_self]
    simp only [bne] at ih
    rw [← ih]
    by_cases h3 : Lib.indexAny r [58, 126] = -1
    · simp [h3]
    · have h3' : (Lib.indexAny r [58, 126] == -1) = false := by simpa using h3
      rw [h3', if_neg (by simp), decide_eq_true (by omega), decide_eq_true (by omega)]
theorem containsAny_some (s : ByteArray) (h : isName s.data.toList = true) : strings_ContainsAny.f s (⟨#[58, 126]⟩ : ByteArray) = some (!isOwn s.data.toList) := by
  unfold strings_ContainsAny.f
  have ha := isName_all h
  rw [if_pos ⟨by rw [size_list]; omega, by decide, fun b hb => nameByte_ascii (ha.2 b hb), by decide⟩]
  rw [Lib.containsAny]
  exact congrArg some (indexAny_own _)
end Go.Proofs.YtihiicjnjhideaaDoor.Names
namespace Go.Proofs.YtihiicjnjhideaaDoor.Core
open Go.RowKit Go.Proofs.YtihiicjnjhideaaDoorW.PrintWords Go.Proofs.YtihiicjnjhideaaDoor.PAll Go.Proofs.YtihiicjnjhideaaDoor.Names
set_option linter.unusedVariables false
/-- How many parts a kind has, as the program counts it. -/
def ar (a : Int) : Int := if a = 4 ∨ a = 5 then 2 else if a = 6 ∨ a = 7 ∨ a = 8 then 1 else 0
theorem ar_ct (a : Int) (h : ct a ≠ -1) : ar a = ct a := by
  unfold ct at h ⊢
  unfold ar
  repeat' split
  all_goals first | rfl | omega
theorem ct_neg (a : Int) : ct a = -1 ↔ ¬ (0 ≤ a ∧ a ≤ 8) := by
  unfold ct
  constructor
  · intro h
    repeat' split at h
    all_goals omega
  · intro h
    rw [if_neg (by omega), if_neg (by omega), if_neg (by omega)]
theorem arity_ev (a : Int) : Ev (fun k => core_arity.f k a) (ar a) := by
  unfold core_arity.f
  have j0 : ∀ b : Bool, (b = true ↔ (a = 4 ∨ a = 5)) → Ev (fun k => core_arity.j0 k a b) (ar a) := by
    intro b hb
    refine Ev.step (fun _ => by rw [core_arity.j0]) ?_
    unfold ar
    refine Ev.ite (fun h => Ev.some_ (by rw [if_pos (hb.1 h)])) (fun h => ?_)
    rw [if_neg (fun h' => h (hb.2 h'))]
    refine Ev.ite (fun h => Ev.some_ (by rw [if_pos (.inl h)])) (fun h4 => ?_)
    refine Ev.ite (fun h => Ev.some_ (by rw [if_pos (.inr (.inl h))])) (fun h5 => ?_)
    exact Ev.ite (fun h => Ev.some_ (by rw [if_pos (.inr (.inr h))])) (fun h6 => Ev.some_ (by rw [if_neg (by omega)]))
  exact Ev.ite (fun h => j0 _ (by simp [h])) (fun h => j0 _ (by simp [h]))
/-- The kinds and the place of a node, as the program tests them. -/
theorem cleanB_1 (n : Node) (r : Int) (h : n.f0 = 1) : cleanB n r = (n.f2 == 0 && n.f3.data.toList == []) := by
  unfold cleanB ruleB nameB
  rw [h]
  simp
theorem cleanB_2 (n : Node) (r : Int) (h : n.f0 = 2) : cleanB n r = (zeroC n.f1 && (decide (0 ≤ n.f2) && decide (n.f2 < r)) && n.f3.data.toList == []) := by
  unfold cleanB ruleB nameB
  rw [h]
  simp
theorem cleanB_38 (n : Node) (r : Int) (h : n.f0 = 3 ∨ n.f0 = 8) : cleanB n r = (zeroC n.f1 && n.f2 == 0 && (isName n.f3.data.toList && isOwn n.f3.data.toList)) := by
  unfold cleanB ruleB nameB
  rcases h with h | h <;> rw [h] <;> simp
theorem cleanB_o (n : Node) (r : Int) (h1 : n.f0 ≠ 1) (h2 : n.f0 ≠ 2) (h : ¬ (n.f0 = 3 ∨ n.f0 = 8)) : cleanB n r = (zeroC n.f1 && n.f2 == 0 && n.f3.data.toList == []) := by
  unfold cleanB ruleB nameB
  rw [if_neg h2, if_neg h, show (n.f0 == 1) = false by simpa using h1, Bool.false_or]
theorem t1 : ∀ e f : Bool, (!true || (!e || !f)) = !(e && f) := by decide
theorem t2 : ∀ a b c d f : Bool, (!true || ((!a || (!b || (!c || !d))) || !f)) = !((a && b && c && d) && (true && true) && f) := by decide
theorem t3 : ∀ a b c d e : Bool, (!true || ((!a || (!b || (!c || !d))) || !e)) = !((a && b && c && d) && e && true) := by decide
theorem t4 : ∀ a b c d e f : Bool, (!true || ((!a || (!b || (!c || !d))) || (!e || !f))) = !((a && b && c && d) && e && f) := by decide
theorem nb {x : Bool} (h : (!x) = true) : x = false := by simpa using h
theorem nb' {x : Bool} (h : ¬ (!x) = true) : x = true := by simpa using h
theorem right_loop (l : List Node) (r : Int) (hl : l.length ≤ 140737488351232) (hf : ∀ n ∈ l, FitN n) : ∀ (d i : Nat) (deep : Int), i + d = l.length → 0 ≤ deep → deep ≤ i →
    Ev (fun k => core_right.l0 k r deep l (l.length : Int) (i : Int)) (bodyB r (l.drop i) deep) := by
  intro d
  induction d with
  | zero =>
    intro i deep hi h0 h1
    refine Ev.step (fun _ => by rw [core_right.l0]) ?_
    refine Ev.neg (by omega) ?_
    exact Ev.some_ (by rw [List.drop_of_length_le (by omega)]; rfl)
  | succ d ih =>
    intro i deep hi h0 h1
    have hlt : i < l.length := by omega
    refine Ev.step (fun _ => by rw [core_right.l0]) ?_
    refine Ev.pos (by omega) ?_
    refine Ev.pos (by omega) ?_
    refine Ev.pos (by omega) ?_
    rw [rdN l i hlt, List.drop_eq_getElem_cons hlt, bodyB]
    have hn := hf l[i] (List.getElem_mem _)
    generalize l[i] = n at *
    have har : 0 ≤ ar n.f0 ∧ ar n.f0 ≤ 2 := by unfold ar; repeat' split <;> omega
    have hct := ct_range n.f0
    have hcn := ct_neg n.f0
    have hac := ar_ct n.f0
    have hw3 : wrap64 ((i : Int) + 1) = ((i + 1 : Nat) : Int) := by rw [w64] <;> omega
    -- the joint: what is right so far is b
    have key : ∀ (t : Int) (b : Bool), t = ar n.f0 → (b = true ↔ (ct n.f0 ≠ -1 ∧ t ≤ deep)) →
        Ev (fun k => core_right.j1 k r deep t b l (l.length : Int) (i : Int) n.f0 n.f1.f0 n.f1.f1 n.f1.f2 n.f1.f3 n.f2 n.f3 n.f0 0 0 0 0 0 (⟨#[]⟩ : ByteArray)) (if ct n.f0 < 0 ∨ deep < ct n.f0 ∨ cleanB n r = false then false else bodyB r (l.drop (i + 1)) (deep - ct n.f0 + 1)) := by
      intro t b ht hb
      have hbad : b = false → (ct n.f0 < 0 ∨ deep < ct n.f0 ∨ cleanB n r = false) := by
        intro hbf
        have : ¬ (ct n.f0 ≠ -1 ∧ t ≤ deep) := fun h => by rw [hb.2 h] at hbf; cases hbf
        by_cases h1 : ct n.f0 = -1
        · exact .inl (by omega)
        · have := hac h1
          exact .inr (.inl (by omega))
      have hno : b = false → Ev (fun _ => some false) (if ct n.f0 < 0 ∨ deep < ct n.f0 ∨ cleanB n r = false then false else bodyB r (l.drop (i + 1)) (deep - ct n.f0 + 1)) := fun h => Ev.some_ (by rw [if_pos (hbad h)])
      have hun : cleanB n r = false → Ev (fun _ => some false) (if ct n.f0 < 0 ∨ deep < ct n.f0 ∨ cleanB n r = false then false else bodyB r (l.drop (i + 1)) (deep - ct n.f0 + 1)) := fun h => Ev.some_ (by rw [if_pos (.inr (.inr h))])
      have hgo : b = true → cleanB n r = true → Ev (fun k => core_right.l0 k r (wrap64 (deep + wrap64 (1 - t))) l (l.length : Int) (wrap64 ((i : Int) + 1))) (if ct n.f0 < 0 ∨ deep < ct n.f0 ∨ cleanB n r = false then false else bodyB r (l.drop (i + 1)) (deep - ct n.f0 + 1)) := by
        intro hbt hc
        have hb' := hb.1 hbt
        have e := hac hb'.1
        have hw1 : wrap64 (1 - t) = 1 - t := by rw [w64] <;> omega
        have hw2 : wrap64 (deep + (1 - t)) = deep - ct n.f0 + 1 := by rw [w64] <;> omega
        rw [hw1, hw2, hw3, if_neg (by rintro (h | h | h); omega; omega; rw [hc] at h; cases h)]
        exact ih (i + 1) _ (by omega) (by omega) (by omega)
      have ez : zeroC n.f1 = (n.f1.f0 == 0 && n.f1.f1 == 0 && n.f1.f2 == 0 && n.f1.f3 == 0) := rfl
      have e0 : (⟨#[]⟩ : ByteArray).toList = [] := by rw [ByteArray.toList_eq]
      refine Ev.step (fun _ => by rw [core_right.j1]) ?_
      rw [ByteArray.toList_eq n.f3, e0, show (n.f0 == n.f0) = true from beq_self_eq_true _]
      refine Ev.ite (fun k1 => ?_) (fun k1 => ?_)
      · have hc := cleanB_1 n r k1
        refine Ev.ite (fun hb1 => ?_) (fun hb1 => hno (by simpa using hb1))
        rw [t1]
        exact Ev.ite (fun h2 => hun (hc.trans (nb h2))) (fun h2 => hgo hb1 (hc.trans (nb' h2)))
      refine Ev.ite (fun k2 => ?_) (fun k2 => ?_)
      · have hc := cleanB_2 n r k2
        refine Ev.ite (fun hb1 => ?_) (fun hb1 => hno (by simpa using hb1))
        refine Ev.ite (fun h2 => ?_) (fun h2 => hun (by rw [hc, decide_eq_false (show ¬ 0 ≤ n.f2 by omega)]; simp))
        refine Ev.ite (fun h3 => ?_) (fun h3 => hun (by rw [hc, decide_eq_false (show ¬ n.f2 < r by omega)]; simp))
        rw [decide_eq_true (show 0 ≤ n.f2 from h2), decide_eq_true h3, ez] at hc
        rw [t2]
        exact Ev.ite (fun h2 => hun (hc.trans (nb h2))) (fun h2 => hgo hb1 (hc.trans (nb' h2)))
      have j2 : ∀ q : Bool, (q = true ↔ (n.f0 = 3 ∨ n.f0 = 8)) → Ev (fun k => core_right.j2 k r deep t b l (l.length : Int) (i : Int) q n.f0 n.f1.f0 n.f1.f1 n.f1.f2 n.f1.f3 n.f2 n.f3 n.f0 0 0 0 0 0 (⟨#[]⟩ : ByteArray)) (if ct n.f0 < 0 ∨ deep < ct n.f0 ∨ cleanB n r = false then false else bodyB r (l.drop (i + 1)) (deep - ct n.f0 + 1)) := by
        intro q hq
        refine Ev.step (fun _ => by rw [core_right.j2]) ?_
        rw [ByteArray.toList_eq n.f3, e0, show (n.f0 == n.f0) = true from beq_self_eq_true _]
        refine Ev.ite (fun k3 => ?_) (fun k3 => ?_)
        · have hc := cleanB_38 n r (hq.1 k3)
          refine Ev.ite (fun hb1 => ?_) (fun hb1 => hno (by simpa using hb1))
          refine Ev.bind (lexName_ev _ hn) ?_
          refine Ev.ite (fun h2 => ?_) (fun h2 => hun (by rw [hc, show isName n.f3.data.toList = false by simpa using h2]; simp))
          refine Ev.bind (Ev.const (containsAny_some _ h2)) ?_
          rw [h2, Bool.true_and] at hc
          refine Ev.ite (fun h3 => hun (by rw [hc, show isOwn n.f3.data.toList = false by simpa using h3]; simp)) (fun h3 => ?_)
          rw [show isOwn n.f3.data.toList = true by simpa using h3, ez] at hc
          rw [t3]
          exact Ev.ite (fun h2 => hun (hc.trans (nb h2))) (fun h2 => hgo hb1 (hc.trans (nb' h2)))
        · have hc := cleanB_o n r k1 k2 (fun h => k3 (hq.2 h))
          rw [ez] at hc
          refine Ev.ite (fun hb1 => ?_) (fun hb1 => hno (by simpa using hb1))
          rw [t4]
          exact Ev.ite (fun h2 => hun (hc.trans (nb h2))) (fun h2 => hgo hb1 (hc.trans (nb' h2)))
      refine Ev.ite (fun k3 => j2 _ (by simp [k3])) (fun k3 => j2 _ (by simp [k3]))
    refine Ev.bind (arity_ev _) ?_
    refine Ev.ite (fun h2 => ?_) (fun h2 => key _ _ rfl (by simp; intro _; omega))
    refine Ev.ite (fun h3 => key _ _ rfl ?_) (fun h3 => key _ _ rfl ?_)
    · simp only [decide_eq_true_eq, ne_eq, hcn]
      omega
    · simp only [Bool.false_eq_true, false_iff, ne_eq, hcn]
      omega
theorem right_ev (l : List Node) (r : Int) (hl : l.length ≤ 140737488351232) (hf : ∀ n ∈ l, FitN n) : Ev (fun k => core_right.f k l r) (bodyB r l 0) := by
  have := right_loop l r hl hf l.length 0 0 (by omega) (by omega) (by omega)
  rwa [List.drop_zero] at this
theorem csize_loop (l : List Rule) (hf : Fit l) (hs : l.length ≤ 65536) : ∀ (d i : Nat) (acc : Int), i + d = l.length → acc + sizeL (l.drop i) = sizeL l → 0 ≤ acc →
    Ev (fun k => core_Size.l0 k acc l (l.length : Int) (i : Int)) (sizeL l) := by
  intro d
  induction d with
  | zero =>
    intro i acc hi ha h0
    refine Ev.step (fun _ => by rw [core_Size.l0]) ?_
    refine Ev.neg (by omega) ?_
    rw [List.drop_of_length_le (by omega)] at ha
    simp only [sizeL] at ha
    exact Ev.some_ (by omega)
  | succ d ih =>
    intro i acc hi ha h0
    have hlt : i < l.length := by omega
    refine Ev.step (fun _ => by rw [core_Size.l0]) ?_
    refine Ev.pos (by omega) ?_
    refine Ev.pos (by omega) ?_
    refine Ev.pos (by omega) ?_
    rw [rdR l i hlt]
    rw [List.drop_eq_getElem_cons hlt, sizeL] at ha
    have := hf.len
    have := hf.size hs
    have := sizeL_nonneg (l.drop (i + 1))
    have hw1 : wrap64 (acc + (l[i].f1.length : Int)) = acc + (l[i].f1.length : Int) := by rw [w64] <;> omega
    have hw3 : wrap64 ((i : Int) + 1) = ((i + 1 : Nat) : Int) := by rw [w64] <;> omega
    rw [hw1, hw3]
    exact ih (i + 1) _ (by omega) (by omega) (by omega)
theorem csize_ev (l : List Rule) (st : Int) (hf : Fit l) (hs : l.length ≤ 65536) : Ev (fun k => core_Size.f k l st) (sizeL l) := csize_loop l hf hs l.length 0 0 (by omega) (by simp) (by omega)
theorem ccheck_loop (l : List Rule) (hf : Fit l) : ∀ (d i : Nat), i + d = l.length → Ev (fun k => core_Check.l0 k l (i : Int)) (if allFrom (okAt l) d i then 0 else 6) := by
  intro d
  induction d with
  | zero =>
    intro i hi
    refine Ev.step (fun _ => by rw [core_Check.l0]) ?_
    refine Ev.neg (by omega) ?_
    exact Ev.some_ (by simp [allFrom])
  | succ d ih =>
    intro i hi
    have hlt : i < l.length := by omega
    refine Ev.step (fun _ => by rw [core_Check.l0]) ?_
    refine Ev.pos (by omega) ?_
    refine Ev.pos (by omega) ?_
    rw [rdR l i hlt, allFrom, Int.toNat_natCast]
    have hb := hf.body l[i] (List.getElem_mem _)
    have hnm : nm l i = l[i].f0.data.toList := by rw [nm, getD_at l i hlt]
    have hbd : (l.getD i zRule).f1 = l[i].f1 := by rw [getD_at l i hlt]
    have hseen : allFrom (fun k => nm l k != nm l i) i 0 = !((l.take i).any fun r => r.f0.data.toList == l[i].f0.data.toList) := by
      rw [Bool.eq_iff_iff, allFrom_iff]
      simp only [Bool.not_eq_true', List.any_eq_false, bne_iff_ne, ne_eq, beq_iff_eq]
      rw [hnm]
      constructor
      · intro h r hr
        obtain ⟨j, hj, rfl⟩ := List.mem_iff_getElem.1 hr
        rw [List.length_take] at hj
        have := h j (by omega) (by omega)
        rw [nm, getD_at l j (by omega)] at this
        rwa [List.getElem_take]
      · intro h j _ hj
        rw [nm, getD_at l j (by omega)]
        exact h _ (List.mem_iff_getElem.2 ⟨j, by rw [List.length_take]; omega, List.getElem_take ..⟩)
    refine Ev.ite (fun h => Ev.some_ (by rw [okAt, hseen, h]; simp)) (fun h => ?_)
    have h' : ((l.take i).any fun r => r.f0.data.toList == l[i].f0.data.toList) = false := by simpa using h
    refine Ev.bind (lexName_ev _ hb.1) ?_
    rw [← hnm]
    refine Ev.ite (fun h2 => ?_) (fun h2 => Ev.some_ (by rw [okAt, show isName (nm l i) = false by simpa using h2]; simp))
    refine Ev.bind (right_ev _ _ hb.2.1 hb.2.2) ?_
    refine Ev.ite (fun h3 => ?_) (fun h3 => Ev.some_ (by rw [okAt, hbd, show bodyB (l.length : Int) l[i].f1 0 = false by simpa using h3]; simp))
    refine (ih (i + 1) (by omega)).to ?_
    rw [okAt, hbd, h2, h3, hseen, h']
    simp
theorem ccheck_ev (l : List Rule) (st : Int) (hf : Fit l) : Ev (fun k => core_Check.f k l st) (if checkB l st then 0 else 6) := by
  unfold core_Check.f
  have e : boundsB l st = (decide (1 ≤ l.length) && decide (l.length ≤ 256) && decide (0 ≤ st) && decide (st < l.length) && decide (sizeL l ≤ 16384)) := rfl
  refine Ev.ite (fun h => Ev.some_ (by rw [checkB, e, decide_eq_false (show ¬ 1 ≤ l.length by omega)]; simp)) (fun h => ?_)
  refine Ev.ite (fun h1 => Ev.some_ (by rw [checkB, e, decide_eq_false (show ¬ l.length ≤ 256 by omega)]; simp)) (fun h1 => ?_)
  refine Ev.ite (fun h2 => Ev.some_ (by rw [checkB, e, decide_eq_false (show ¬ 0 ≤ st by omega)]; simp)) (fun h2 => ?_)
  refine Ev.ite (fun h3 => Ev.some_ (by rw [checkB, e, decide_eq_false (show ¬ st < l.length by omega)]; simp)) (fun h3 => ?_)
  refine Ev.bind (csize_ev l st hf (by omega)) ?_
  refine Ev.ite (fun h4 => Ev.some_ (by rw [checkB, e, decide_eq_false (show ¬ sizeL l ≤ 16384 by omega)]; simp)) (fun h4 => ?_)
  have hb : boundsB l st = true := by
    rw [e, decide_eq_true (show 1 ≤ l.length by omega), decide_eq_true (show l.length ≤ 256 by omega), decide_eq_true (show 0 ≤ st by omega), decide_eq_true (show st < l.length by omega), decide_eq_true (show sizeL l ≤ 16384 by omega)]
    rfl
  rw [checkB, hb, Bool.true_and]
  exact ccheck_loop l hf l.length 0 (by omega)
end Go.Proofs.YtihiicjnjhideaaDoor.Core
end
