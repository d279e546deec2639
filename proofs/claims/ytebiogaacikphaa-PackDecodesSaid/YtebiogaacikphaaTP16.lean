/- Parts of the proof of packForged and packDecodes and Pack and Pack and Pack: PackRefNames, PackRefClass, PackRefClasses, PAllx2. -/
import Derived.Test.YtebiogaacikphaaTP2
import Derived.Test.YtebiogaacikphaaTP8
import Derived.Test.YtebiogaacikphaaTP14
import Derived.Test.YtebiogaacikphaaTP15
section
namespace Go.Proofs.Ytebiogaacikphaa.Pack
open Go.RowKit Go.Proofs.YtebiogaacikphaaW.PrintWords Go.Proofs.Ytebiogaacikphaa.PAll Go.Proofs.Ytebiogaacikphaa.Names
set_option linter.unusedVariables false
set_option linter.unusedSimpArgs false
section
variable (b : List Int) (e : Nat)
theorem rn_l0_bad (n q i fa fc : Int) (acc : List ByteArray) (hc : fc ≠ 0) : Ev (fun z => dowelref20_Reader_names.l0 z n acc q b i (e : Int) fa fc) (acc, i, (e : Int), fa, fc) := by
  have hf : ((fc == 0) = true) = False := by simpa using hc
  refine Ev.step (fun _ => by rw [dowelref20_Reader_names.l0]) ?_
  refine Ev.ite (fun _ => ?_) (fun _ => ?_)
  · refine Ev.bind (Ev.const (by rw [dowelref20_Reader_ok.f])) ?_
    refine Ev.step (fun _ => by rw [dowelref20_Reader_names.j2]) (Ev.neg (by dsimp only; rw [hf]; exact fun h => h) (Ev.some_ rfl))
  · exact Ev.step (fun _ => by rw [dowelref20_Reader_names.j2]) (Ev.neg (by simp) (Ev.some_ rfl))
/-- Is it known: the loop over those that are there. -/
theorem rn_l2 (n q fr i fa fc : Int) (acc : List ByteArray) (s : ByteArray) (hacc : acc.length ≤ 65536) (R : List ByteArray × Int × Int × Int × Int) :
    ∀ (d j : Nat) (kn : Bool), j + d = acc.length →
      (∀ K : Bool, K = (kn || among s (acc.drop j)) → Ev (fun z => if K = true then ((dowelref20_Reader_wrong.f b i (e : Int) fa fc fr 204).bind fun bt => (dowelref20_Reader_names.l0 z n (acc ++ [s]) (wrap64 (q + 1)) b bt.1 bt.2.1 bt.2.2.1 bt.2.2.2)) else (dowelref20_Reader_names.l0 z n (acc ++ [s]) (wrap64 (q + 1)) b i (e : Int) fa fc)) R) →
      Ev (fun z => dowelref20_Reader_names.l2 z n acc q fr s kn (j : Int) b i (e : Int) fa fc) R := by
  intro d
  induction d with
  | zero =>
    intro j kn hj hR
    have hk := hR kn (by rw [List.drop_of_length_le (by omega)]; simp [among])
    refine Ev.step (fun _ => by rw [dowelref20_Reader_names.l2]) (Ev.neg (by omega) ?_)
    cases kn with
    | true =>
      refine Ev.pos rfl ?_
      cases hw : dowelref20_Reader_wrong.f b i (e : Int) fa fc fr 204 with
      | none => rw [hw] at hk; obtain ⟨k, hk⟩ := hk; have := hk k (Nat.le_refl _); simp at this
      | some v =>
        rw [hw] at hk
        refine Ev.bind (Ev.now v) (Ev.pos (by omega) ?_)
        exact Ev.congr (fun _ => by simp) hk
    | false =>
      refine Ev.neg (by simp) (Ev.pos (by omega) ?_)
      exact Ev.congr (fun _ => by simp) hk
  | succ d ih =>
    intro j kn hj hR
    have hlt : j < acc.length := by omega
    have hbig : (j : Int) < (acc.length : Int) := by omega
    have hw : wrap64 ((j : Int) + 1) = ((j + 1 : Nat) : Int) := by rw [w64] <;> omega
    have hstep : ∀ kn', kn' = (kn || decide (acc[j] = s)) → Ev (fun z => dowelref20_Reader_names.l2 z n acc q fr s kn' ((j + 1 : Nat) : Int) b i (e : Int) fa fc) R := by
      intro kn' hkn'
      refine ih (j + 1) kn' (by omega) (fun K hK => hR K ?_)
      rw [hK, hkn', List.drop_eq_getElem_cons hlt, among, among, List.any_cons, Bool.or_assoc]
    refine Ev.step (fun _ => by rw [dowelref20_Reader_names.l2]) (Ev.pos hbig ?_)
    rw [hw]
    cases kn with
    | true => exact Ev.pos rfl (hstep true (by simp))
    | false =>
      refine Ev.neg (by simp) (Ev.pos (Int.natCast_nonneg _) ?_)
      refine (hstep _ ?_)
      rw [Bool.false_or, rdOf, Int.toNat_natCast, List.getD_eq_getElem?_getD, List.getElem?_eq_getElem hlt, Option.getD_some, ByteArray.toList_eq, ByteArray.toList_eq]
      generalize acc[j] = y
      by_cases hy : y = s
      · rw [hy]; simp
      · rw [decide_eq_false hy]
        have : y.data.toList ≠ s.data.toList := fun h => hy (ByteArray.ext (Array.toList_inj.mp h))
        simpa using this
theorem rn_bad_j6 (n q fr i fa fc : Int) (acc : List ByteArray) (x : List Int) (hacc : acc.length ≤ 65536) (hx : x.length ≤ 140737488351232) (hc : fc ≠ 0) : Ev (fun z => dowelref20_Reader_names.j6 z n acc q fr x b i (e : Int) fa fc) (acc ++ [strOfNums x], i, (e : Int), fa, fc) := by
  refine Ev.step (fun _ => by rw [dowelref20_Reader_names.j6]) ?_
  refine Ev.bind (refOwn_ev (strOfNums x) (by rw [str_size]; exact hx)) ?_
  refine rn_l2 b e n q fr i fa fc acc (strOfNums x) hacc _ acc.length 0 _ (by omega) (fun K _ => ?_)
  refine Ev.ite (fun _ => ?_) (fun _ => rn_l0_bad b e n _ i fa fc _ hc)
  rw [dowelref20_Reader_wrong.f, if_neg hc]
  exact rn_l0_bad b e n _ i fa fc _ hc
theorem rn_bad_l1 (n q fr sz j i fa fc : Int) (acc : List ByteArray) (x : List Int) (hacc : acc.length ≤ 65536) (hx : x.length ≤ 140737488351232) (hc : fc ≠ 0) : Ev (fun z => dowelref20_Reader_names.l1 z n acc q fr sz x j b i (e : Int) fa fc) (acc ++ [strOfNums x], i, (e : Int), fa, fc) := by
  have hf : ((fc == 0) = true) = False := by simpa using hc
  refine Ev.step (fun _ => by rw [dowelref20_Reader_names.l1]) ?_
  refine Ev.ite (fun _ => ?_) (fun _ => rn_bad_j6 b e n q fr i fa fc acc x hacc hx hc)
  refine Ev.bind (Ev.const (by rw [dowelref20_Reader_ok.f])) (Ev.neg (by dsimp only; rw [hf]; exact fun h => h) ?_)
  exact rn_bad_j6 b e n q fr i fa fc acc x hacc hx hc
theorem rn_bad_j3 (n q fr sz i fa fc : Int) (t : Bool) (acc : List ByteArray) (hacc : acc.length ≤ 65536) (hc : fc ≠ 0) : Ev (fun z => dowelref20_Reader_names.j3 z n acc q fr sz t b i (e : Int) fa fc) (acc ++ [strOfNums []], i, (e : Int), fa, fc) := by
  have hj4 : Ev (fun z => dowelref20_Reader_names.j4 z n acc q sz b i (e : Int) fa fc) (acc ++ [strOfNums []], i, (e : Int), fa, fc) :=
    Ev.step (fun _ => by rw [dowelref20_Reader_names.j4]) (rn_bad_l1 b e n q i sz 0 i fa fc acc [] hacc (by simp) hc)
  refine Ev.step (fun _ => by rw [dowelref20_Reader_names.j3]) (Ev.ite (fun _ => ?_) (fun _ => hj4))
  rw [dowelref20_Reader_wrong.f, if_neg hc]
  exact hj4
/-- The bytes of a name, as many as there should be. -/
theorem rn_l1 (he : e ≤ b.length) (hl : b.length ≤ 140737488351232) (n q : Int) (fr sz : Nat) (acc : List ByteArray) (hsz : sz ≤ 64) (R : List ByteArray × Int × Int × Int × Int) (hfr : fr + sz ≤ e)
    (hok : Ev (fun z => dowelref20_Reader_names.j6 z n acc q (fr : Int) (((b.take e).drop fr).take sz) b ((fr + sz : Nat) : Int) (e : Int) 0 0) R) :
    ∀ d j : Nat, j + d = sz → Ev (fun z => dowelref20_Reader_names.l1 z n acc q (fr : Int) (sz : Int) (((b.take e).drop fr).take j) (j : Int) b ((fr + j : Nat) : Int) (e : Int) 0 0) R := by
  intro d
  induction d with
  | zero =>
    intro j hj
    obtain rfl : j = sz := by omega
    exact Ev.step (fun _ => by rw [dowelref20_Reader_names.l1]) (Ev.neg (by omega) hok)
  | succ d ih =>
    intro j hj
    have hlen : (((b.take e).drop fr).take j).length = j := by rw [List.length_take, List.length_drop, List.length_take]; omega
    have hlt : fr + j < e := by omega
    refine Ev.step (fun _ => by rw [dowelref20_Reader_names.l1]) (Ev.pos (by omega) ?_)
    refine Ev.bind (Ev.const (by rw [dowelref20_Reader_ok.f])) (Ev.pos rfl ?_)
    dsimp only
    refine Ev.bind (Ev.const (byte_ok b (fr + j) e hlt he hl)) (Ev.pos (by omega) ?_)
    have hw : wrap64 ((j : Int) + 1) = ((j + 1 : Nat) : Int) := by rw [w64] <;> omega
    dsimp only
    rw [hw]
    have hnext : ((b.take e).drop fr).take j ++ [b[fr + j]] = ((b.take e).drop fr).take (j + 1) := by
      rw [List.take_add_one, List.getElem?_drop, List.getElem?_take, if_pos hlt, List.getElem?_eq_getElem (by omega)]
      rfl
    rw [hnext]
    exact ih (j + 1) (by omega)
theorem rn_short (he : e ≤ b.length) (hl : b.length ≤ 140737488351232) (n q : Int) (fr sz : Nat) (acc : List ByteArray) (hacc : acc.length ≤ 65536) (hsz : sz ≤ 64) (hno : e < fr + sz) :
    ∀ (d j : Nat) (x : List Int), fr + j + d = e → x.length = j → ∃ acc', Ev (fun z => dowelref20_Reader_names.l1 z n acc q (fr : Int) (sz : Int) x (j : Int) b ((fr + j : Nat) : Int) (e : Int) 0 0) (acc', (e : Int), (e : Int), (e : Int), 200) := by
  intro d
  induction d with
  | zero =>
    intro j x hj hx
    obtain rfl : fr + j = e := by omega
    have hx' : (x ++ [(0 : Int)]).length ≤ 140737488351232 := by rw [List.length_append, List.length_singleton]; omega
    refine ⟨acc ++ [strOfNums (x ++ [(0 : Int)])], ?_⟩
    refine Ev.step (fun _ => by rw [dowelref20_Reader_names.l1]) (Ev.pos (by omega) ?_)
    refine Ev.bind (Ev.const (by rw [dowelref20_Reader_ok.f])) (Ev.pos rfl ?_)
    dsimp only
    refine Ev.bind (Ev.const (byte_short b (fr + j) (fr + j) (Nat.le_refl _))) (Ev.pos (by omega) ?_)
    dsimp only
    exact rn_bad_l1 b (fr + j) n q _ _ _ _ _ _ acc _ hacc hx' (by simp)
  | succ d ih =>
    intro j x hj hx
    obtain ⟨acc', hev⟩ := ih (j + 1) (x ++ [b[fr + j]]) (by omega) (by rw [List.length_append, hx]; rfl)
    refine ⟨acc', ?_⟩
    refine Ev.step (fun _ => by rw [dowelref20_Reader_names.l1]) (Ev.pos (by omega) ?_)
    refine Ev.bind (Ev.const (by rw [dowelref20_Reader_ok.f])) (Ev.pos rfl ?_)
    dsimp only
    refine Ev.bind (Ev.const (byte_ok b (fr + j) e (by omega) he hl)) (Ev.pos (by omega) ?_)
    have hw : wrap64 ((j : Int) + 1) = ((j + 1 : Nat) : Int) := by rw [w64] <;> omega
    dsimp only
    rw [hw]
    exact hev
theorem rn_l0 (he : e ≤ b.length) (hl : b.length ≤ 140737488351232) (hby : ∀ x ∈ b, 0 ≤ x ∧ x < 256) (n : Nat) (hn : n ≤ 65536) : ∀ (d i : Nat) (acc : List ByteArray), acc.length + d = n → i ≤ e →
    ∃ acc' s, Ev (fun z => dowelref20_Reader_names.l0 z (n : Int) acc (acc.length : Int) b (i : Int) (e : Int) 0 0) (acc', s) ∧ EndS b e s ((namesL e d acc ((b.take e).drop i)).map (·.2)) ∧ (∀ T r, namesL e d acc ((b.take e).drop i) = .ok (T, r) → acc' = T) := by
  intro d
  induction d with
  | zero =>
    intro i acc hd hi
    refine ⟨acc, ((i : Int), (e : Int), 0, 0), ?_, ⟨i, rfl, hi, rfl⟩, fun T r h => by rw [namesL] at h; injection h with h; injection h⟩
    refine Ev.step (fun _ => by rw [dowelref20_Reader_names.l0]) (Ev.neg (by omega) ?_)
    exact Ev.step (fun _ => by rw [dowelref20_Reader_names.j2]) (Ev.neg (by simp) (Ev.some_ rfl))
  | succ d ih =>
    intro i acc hd hi
    have hlen : ((b.take e).drop i).length = e - i := by rw [List.length_drop, List.length_take]; omega
    have hsub : ∀ x ∈ (b.take e).drop i, 0 ≤ x ∧ x < 256 := fun x hx => hby x (List.mem_of_mem_take (List.mem_of_mem_drop hx))
    have hacc : acc.length ≤ 65536 := by omega
    have hlt : (acc.length : Int) < (n : Int) := by omega
    obtain ⟨v, s, hev, hs, hv⟩ := rcount_ev b i e hi he hl hby
    have start : ∀ R, Ev (fun z => if v < 1 then (dowelref20_Reader_names.j3 z (n : Int) acc (acc.length : Int) (i : Int) v true b s.1 s.2.1 s.2.2.1 s.2.2.2) else (dowelref20_Reader_names.j3 z (n : Int) acc (acc.length : Int) (i : Int) v (decide (v > 64)) b s.1 s.2.1 s.2.2.1 s.2.2.2)) R → Ev (fun z => dowelref20_Reader_names.l0 z (n : Int) acc (acc.length : Int) b (i : Int) (e : Int) 0 0) R := by
      intro R hR
      refine Ev.step (fun _ => by rw [dowelref20_Reader_names.l0]) (Ev.pos hlt ?_)
      refine Ev.bind (Ev.const (by rw [dowelref20_Reader_ok.f])) ?_
      dsimp only
      refine Ev.step (fun _ => by rw [dowelref20_Reader_names.j2]) (Ev.pos (by simp) ?_)
      exact Ev.bind hev hR
    rw [namesL, hlen, show e - (e - i) = i by omega]
    have hnn := fun v r => cntL_nonneg e i ((b.take e).drop i) 0 0 v r hsub (by omega)
    generalize cntL e i 0 0 ((b.take e).drop i) = cnt at *
    match cnt with
    | .error f =>
      obtain ⟨j, rfl, hj, hf⟩ := hs
      refine ⟨acc ++ [strOfNums []], ((j : Int), (e : Int), f.1, f.2), start _ (Ev.ite (fun _ => rn_bad_j3 b e _ _ _ _ _ _ _ _ acc hacc hf) (fun _ => rn_bad_j3 b e _ _ _ _ _ _ _ _ acc hacc hf)), ⟨j, rfl, hj, hf⟩, fun T r h => by cases h⟩
    | .ok (u, r) =>
      obtain rfl := hv u r rfl
      obtain ⟨j, rfl, hj, hr⟩ := hs
      obtain ⟨sz, rfl⟩ := Int.eq_ofNat_of_zero_le (hnn v r rfl)
      dsimp only at hr start ⊢
      have hrl : r.length = e - j := by rw [hr, List.length_drop, List.length_take]; omega
      by_cases bad : (sz : Int) = 0 ∨ 64 < (sz : Int)
      · rw [if_pos bad]
        have hj3 : ∀ t : Bool, t = true → Ev (fun z => dowelref20_Reader_names.j3 z (n : Int) acc (acc.length : Int) (i : Int) (sz : Int) t b (j : Int) (e : Int) 0 0) (acc ++ [strOfNums []], (j : Int), (e : Int), (i : Int), 204) := by
          intro t ht
          refine Ev.step (fun _ => by rw [dowelref20_Reader_names.j3]) (Ev.pos ht ?_)
          refine Ev.bind (Ev.const (by rw [dowelref20_Reader_wrong.f, if_pos rfl])) ?_
          exact Ev.step (fun _ => by rw [dowelref20_Reader_names.j4]) (rn_bad_l1 b e _ _ _ _ _ _ _ _ acc [] hacc (by simp) (by simp))
        refine ⟨acc ++ [strOfNums []], ((j : Int), (e : Int), (i : Int), 204), start _ (Ev.ite (fun _ => hj3 true rfl) (fun h => hj3 _ (decide_eq_true (by omega)))), ⟨j, rfl, hj, by simp⟩, fun T r h => by cases h⟩
      · rw [if_neg bad]
        have hj4 : ∀ R, Ev (fun z => dowelref20_Reader_names.l1 z (n : Int) acc (acc.length : Int) (j : Int) (sz : Int) ([] : List Int) 0 b (j : Int) (e : Int) 0 0) R → Ev (fun z => dowelref20_Reader_names.l0 z (n : Int) acc (acc.length : Int) b (i : Int) (e : Int) 0 0) R := by
          intro R hR
          refine start R (Ev.neg (by omega) ?_)
          refine Ev.step (fun _ => by rw [dowelref20_Reader_names.j3]) (Ev.neg (by rw [decide_eq_false (by omega)]; simp) ?_)
          exact Ev.step (fun _ => by rw [dowelref20_Reader_names.j4]) hR
        rw [Int.toNat_natCast]
        by_cases short : r.length < sz
        · rw [if_pos short]
          obtain ⟨acc', h1⟩ := rn_short b e he hl (n : Int) (acc.length : Int) j sz acc hacc (by omega) (by omega) (e - j) 0 [] (by omega) rfl
          exact ⟨acc', _, hj4 _ h1, ⟨e, rfl, Nat.le_refl _, by simp⟩, fun T r h => by cases h⟩
        · rw [if_neg short]
          have hfr : j + sz ≤ e := by omega
          have l1 := fun R h1 => rn_l1 b e he hl (n : Int) (acc.length : Int) j sz acc (by omega) R hfr h1 sz 0 (by omega)
          rw [List.take_zero] at l1
          rw [← hr] at l1
          have htl : (r.take sz).length ≤ 140737488351232 := by rw [List.length_take]; omega
          generalize hx : strOfNums (r.take sz) = x at *
          have hxs : x.size ≤ 140737488351232 := by rw [← hx, str_size]; exact htl
          have hw : wrap64 ((acc.length : Int) + 1) = (((acc ++ [x]).length : Nat) : Int) := by rw [w64 (by omega) (by omega), List.length_append, List.length_singleton]; omega
          have j6 : ∀ R, (∀ K : Bool, K = (!okName x || among x acc) → Ev (fun z => if K = true then (dowelref20_Reader_names.l0 z (n : Int) (acc ++ [x]) ((acc ++ [x]).length : Int) b ((j + sz : Nat) : Int) (e : Int) (j : Int) 204) else (dowelref20_Reader_names.l0 z (n : Int) (acc ++ [x]) ((acc ++ [x]).length : Int) b ((j + sz : Nat) : Int) (e : Int) 0 0)) R) → Ev (fun z => dowelref20_Reader_names.l0 z (n : Int) acc (acc.length : Int) b (i : Int) (e : Int) 0 0) R := by
            intro R hR
            refine hj4 R (l1 R ?_)
            refine Ev.step (fun _ => by rw [dowelref20_Reader_names.j6]) ?_
            rw [hx]
            refine Ev.bind (refOwn_ev x hxs) ?_
            refine rn_l2 b e _ _ _ _ _ _ acc x hacc R acc.length 0 _ (by omega) (fun K hK => ?_)
            rw [List.drop_zero] at hK
            have := hR K hK
            rw [hw, dowelref20_Reader_wrong.f, if_pos rfl]
            exact this
          by_cases known : okName x = false ∨ among x acc = true
          · rw [if_pos known]
            have hK : (!okName x || among x acc) = true := by rcases known with h | h <;> rw [h] <;> simp
            have he' : e - r.length = j := by omega
            rw [he']
            exact ⟨acc ++ [x], (((j + sz : Nat) : Int), (e : Int), (j : Int), 204), j6 _ (fun K hk => Ev.pos (hk.trans hK) (rn_l0_bad b e _ _ _ _ _ _ (by simp))), ⟨j + sz, rfl, hfr, by simp⟩, fun T r h => by cases h⟩
          · rw [if_neg known]
            have hK : (!okName x || among x acc) = false := by
              rw [Bool.or_eq_false_iff]
              exact ⟨by cases h : okName x with | true => rfl | false => exact absurd (.inl h) known, by cases h : among x acc with | false => rfl | true => exact absurd (.inr h) known⟩
            obtain ⟨acc', s, h1, h2, h3⟩ := ih (j + sz) (acc ++ [x]) (by rw [List.length_append, List.length_singleton]; omega) hfr
            have hdrop : r.drop sz = (b.take e).drop (j + sz) := by rw [hr, List.drop_drop]
            rw [hdrop]
            exact ⟨acc', s, j6 _ (fun K hk => Ev.neg (by rw [hk, hK]; simp) h1), h2, h3⟩
theorem rnames_ev (i : Nat) (hi : i ≤ e) (he : e ≤ b.length) (hl : b.length ≤ 140737488351232) (hby : ∀ x ∈ b, 0 ≤ x ∧ x < 256) :
    ∃ acc s, Ev (fun z => dowelref20_Reader_names.f z b (i : Int) (e : Int) 0 0) (acc, s) ∧ EndS b e s ((tableN e ((b.take e).drop i)).map (·.2)) ∧ (∀ T r, tableN e ((b.take e).drop i) = .ok (T, r) → acc = T) := by
  have hlen : ((b.take e).drop i).length = e - i := by rw [List.length_drop, List.length_take]; omega
  have hsub : ∀ x ∈ (b.take e).drop i, 0 ≤ x ∧ x < 256 := fun x hx => hby x (List.mem_of_mem_take (List.mem_of_mem_drop hx))
  obtain ⟨v, s, hev, hs, hv⟩ := rcount_ev b i e hi he hl hby
  unfold dowelref20_Reader_names.f tableN manyL
  rw [hlen, show e - (e - i) = i by omega]
  have hnn := fun v r => cntL_nonneg e i ((b.take e).drop i) 0 0 v r hsub (by omega)
  generalize cntL e i 0 0 ((b.take e).drop i) = cnt at *
  match cnt with
  | .error f =>
    obtain ⟨j, rfl, hj, hf⟩ := hs
    refine ⟨[], ((j : Int), (e : Int), f.1, f.2), ?_, ⟨j, rfl, hj, hf⟩, fun T r h => by cases h⟩
    refine Ev.bind hev ?_
    dsimp only
    have hj0 : ∀ m, Ev (fun z => dowelref20_Reader_names.j0 z m b (j : Int) (e : Int) f.1 f.2) (([] : List ByteArray), (j : Int), (e : Int), f.1, f.2) := fun m =>
      Ev.step (fun _ => by rw [dowelref20_Reader_names.j0]) (rn_l0_bad b e m 0 _ _ _ [] hf)
    refine Ev.ite (fun _ => ?_) (fun _ => hj0 _)
    rw [dowelref20_Reader_wrong.f, if_neg hf]
    exact hj0 _
  | .ok (u, r) =>
    obtain rfl := hv u r rfl
    obtain ⟨j, rfl, hj, hr⟩ := hs
    obtain ⟨m, rfl⟩ := Int.eq_ofNat_of_zero_le (hnn v r rfl)
    dsimp only at hr ⊢
    by_cases big : 65536 < (m : Int)
    · simp only [if_pos big, Except.bind]
      refine ⟨[], ((j : Int), (e : Int), (i : Int), 204), ?_, ⟨j, rfl, hj, by simp⟩, fun T r h => by cases h⟩
      refine Ev.bind hev (Ev.pos big ?_)
      dsimp only
      refine Ev.bind (Ev.const (by rw [dowelref20_Reader_wrong.f, if_pos rfl])) ?_
      exact Ev.step (fun _ => by rw [dowelref20_Reader_names.j0]) (rn_l0_bad b e _ 0 _ _ _ [] (by simp))
    · simp only [if_neg big, Except.bind, Int.toNat_natCast]
      obtain ⟨acc', s, h1, h2, h3⟩ := rn_l0 b e he hl hby m (by omega) m j [] (by simp) hj
      rw [show (([] : List ByteArray).length : Int) = 0 from rfl] at h1
      rw [hr]
      refine ⟨acc', s, ?_, h2, h3⟩
      refine Ev.bind hev (Ev.neg big ?_)
      dsimp only
      exact Ev.step (fun _ => by rw [dowelref20_Reader_names.j0]) h1
theorem rnames_bad_ev (i fa fc : Int) (hc : fc ≠ 0) : Ev (fun z => dowelref20_Reader_names.f z b i (e : Int) fa fc) (([] : List ByteArray), i, (e : Int), fa, fc) := by
  unfold dowelref20_Reader_names.f
  refine Ev.bind (rcount_bad_ev b i e fa fc hc) (Ev.neg (by simp) ?_)
  exact Ev.step (fun _ => by rw [dowelref20_Reader_names.j0]) (rn_l0_bad b e 0 0 _ _ _ [] hc)
end
theorem rnames_ok (w0 w : World) (g : Nat) (b : List Int) (i e : Nat) (h : RR w0 w g b i e 0 0) (hby : ∀ x ∈ b, 0 ≤ x ∧ x < 256) (res : Except (Int × Int) (List ByteArray × List Int)) (hres : tableN e ((b.take e).drop i) = res) :
    Calls Try.prog 57 #[.pointer (some ⟨g, 0, none⟩)] w fun x w' => ∃ v acc, x = .returned v ∧ Kd.R Kd.string 9 w' w.heap.size (fun _ => True) v acc ∧ RSt w0 w' g b e (res.map (·.2)) ∧ Only w w' g ∧ (∀ T r, res = .ok (T, r) → acc = T) := by
  subst hres
  obtain ⟨acc, s, ⟨k, hev⟩, hs, hv⟩ := rnames_ev b e i h.at_ h.e_ h.len hby
  refine (dowelref20_Reader_names.calls k g b i e 0 0 acc s.1 s.2.1 s.2.2.1 s.2.2.2 w0 w h.is_ h.old (hev k (Nat.le_refl _))).mono fun x w' ⟨v, h1, hR, h2, h3, h4⟩ => ?_
  exact ⟨v, acc, h1, hR, RSt.of hs h2 h3 h.len h.e_, Only.of_keep h4, hv⟩
theorem rnames_bad (w0 w : World) (g : Nat) (b : List Int) (i e : Nat) (fa fc : Int) (h : RR w0 w g b i e fa fc) (hc : fc ≠ 0) : Calls Try.prog 57 #[.pointer (some ⟨g, 0, none⟩)] w fun x w' => ∃ v, x = .returned v ∧ Kd.R Kd.string 9 w' w.heap.size (fun _ => True) v [] ∧ RR w0 w' g b i e fa fc ∧ Only w w' g := by
  obtain ⟨k, hev⟩ := rnames_bad_ev b e i fa fc hc
  exact (dowelref20_Reader_names.calls k g b i e fa fc [] i e fa fc w0 w h.is_ h.old (hev k (Nat.le_refl _))).mono fun x w' ⟨v, h1, hR, h2, h3, h4⟩ => ⟨v, h1, hR, ⟨h2, h3, h.len, h.e_, h.at_⟩, Only.of_keep h4⟩
end Go.Proofs.Ytebiogaacikphaa.Pack
end
section
namespace Go.Proofs.Ytebiogaacikphaa.Pack
open Go.RowKit Go.Proofs.YtebiogaacikphaaW.PrintWords Go.Proofs.Ytebiogaacikphaa.PAll
set_option linter.unusedVariables false
set_option linter.unusedSimpArgs false
/-- What class comes to behind k bytes: the words that are in, or something, and the fault. -/
def ClsRel (w0 W : World) (g : Nat) (b : List Int) (at_ e k : Nat) (l : List Int) : Prop :=
  (at_ + k ≤ e ∧ RR w0 W g b (at_ + k) e 0 0 ∧ l = [wd (((b.take e).drop at_).take 32) k 0, wd (((b.take e).drop at_).take 32) k 1, wd (((b.take e).drop at_).take 32) k 2, wd (((b.take e).drop at_).take 32) k 3]) ∨
  (e < at_ + 32 ∧ ∃ j, RR w0 W g b j e e 200)
theorem ClsRel.kept {w0 W W' : World} {g : Nat} {b : List Int} {at_ e k : Nat} {l : List Int} (h : ClsRel w0 W g b at_ e k l) (hb : Below W.heap.size W W') : ClsRel w0 W' g b at_ e k l := by
  rcases h with ⟨h1, h2, h3⟩ | ⟨h1, j, h2⟩
  · exact .inl ⟨h1, h2.below hb, h3⟩
  · exact .inr ⟨h1, j, h2.below hb⟩
theorem ClsRel.grown {w0 W W' : World} {g : Nat} {b : List Int} {at_ e k : Nat} {l : List Int} (h : ClsRel w0 W g b at_ e k l) {r : Option Nat} (hg : W.grownBy W' r) (hr : ∀ k, r = some k → k ≠ g ∧ w0.heap.size ≤ k) : ClsRel w0 W' g b at_ e k l := by
  rcases h with ⟨h1, h2, h3⟩ | ⟨h1, j, h2⟩
  · exact .inl ⟨h1, h2.through hg hr, h3⟩
  · exact .inr ⟨h1, j, h2.through hg hr⟩
theorem wd_set (pl : List Int) (k : Nat) (hk : k < 32) (z : Int) (hz : z = wd pl (k + 1) (k / 8)) : [wd pl k 0, wd pl k 1, wd pl k 2, wd pl k 3].set (k / 8) z = [wd pl (k + 1) 0, wd pl (k + 1) 1, wd pl (k + 1) 2, wd pl (k + 1) 3] := by
  subst hz
  have hj : k / 8 < 4 := by omega
  have hf := fun j h => wd_far pl k j h
  generalize k / 8 = j at *
  match j, hj with
  | 0, _ => simp [hf 1 (by omega), hf 2 (by omega), hf 3 (by omega)]
  | 1, _ => simp [hf 0 (by omega), hf 2 (by omega), hf 3 (by omega)]
  | 2, _ => simp [hf 0 (by omega), hf 1 (by omega), hf 3 (by omega)]
  | 3, _ => simp [hf 0 (by omega), hf 1 (by omega), hf 2 (by omega)]
theorem wd_get (pl : List Int) (k j : Nat) (hj : j < 4) : [wd pl k 0, wd pl k 1, wd pl k 2, wd pl k 3][j]? = some (wd pl k j) := by
  match j, hj with
  | 0, _ => rfl
  | 1, _ => rfl
  | 2, _ => rfl
  | 3, _ => rfl
/-- wd_step, of a list that may be shorter. -/
theorem wd_step' (l : List Int) (hby : ∀ x ∈ l, 0 ≤ x ∧ x < 256) (k : Nat) (hk : k < 32) (x : Int) (hx : l[k]? = some x) (hl : l.length ≤ 32) :
    Go.bits .or .u64 (wd l k (k / 8)) (IntKind.u64.wrap (IntKind.u64.wrap x * 2 ^ (8 * (k % 8)))) = wd l (k + 1) (k / 8) := by
  have h := wd_step (l ++ List.replicate (32 - l.length) 0) (by rw [List.length_append, List.length_replicate]; omega) (fun y hy => by
    rcases List.mem_append.1 hy with h | h
    · exact hby y h
    · rw [List.mem_replicate] at h; rw [h.2]; omega) k hk x (by rw [List.getElem?_append_left (List.getElem?_eq_some_iff.1 hx).1]; exact hx)
  have hkl := (List.getElem?_eq_some_iff.1 hx).1
  have e1 : ∀ m, m ≤ k + 1 → wd (l ++ List.replicate (32 - l.length) 0) m (k / 8) = wd l m (k / 8) := by
    intro m hm
    unfold wd
    rw [List.drop_append_of_le_length (by omega), List.take_append_of_le_length (by rw [List.length_drop]; omega)]
  rw [e1 k (by omega), e1 (k + 1) (Nat.le_refl _)] at h
  exact h
section
variable (w0 w : World) (g : Nat) (b : List Int) (at_ e : Nat)
theorem cls_round (hby : ∀ x ∈ b, 0 ≤ x ∧ x < 256) (W : World) (k : Nat) (hk : k < 32) (l : List Int) (hl : l.length = 4) (h : ClsRel w0 W g b at_ e k l) :
    ∃ (i0 : Nat) (fa fc xb : Int) (i' : Nat) (fa' fc' : Int), RR w0 W g b i0 e fa fc ∧
      (∀ W, RR w0 W g b i0 e fa fc → Calls Try.prog 93 #[.pointer (some ⟨g, 0, none⟩)] W fun x w' => x = .returned (.int .u8 xb) ∧ RR w0 w' g b i' e fa' fc' ∧ Only W w' g) ∧
      (∀ W', RR w0 W' g b i' e fa' fc' → ∀ y, l[k / 8]? = some y → ClsRel w0 W' g b at_ e (k + 1) (l.set (k / 8) (Go.bits .or .u64 y (IntKind.u64.wrap (IntKind.u64.wrap xb * 2 ^ (8 * (k % 8))))))) := by
  rcases h with ⟨h1, h2, h3⟩ | ⟨h1, j, h2⟩
  · rcases Nat.lt_or_ge (at_ + k) e with hlt | hge
    · have hb : at_ + k < b.length := by have := h2.e_; omega
      refine ⟨at_ + k, 0, 0, b[at_ + k], at_ + k + 1, 0, 0, h2, fun W hW => rbyte_ok w0 W g b (at_ + k) e hW hlt hb, fun W' hW' y hy => .inl ⟨by omega, by rw [show at_ + (k + 1) = at_ + k + 1 by omega]; exact hW', ?_⟩⟩
      rw [h3] at hy ⊢
      rw [wd_get _ _ _ (by omega)] at hy
      injection hy with hy
      refine wd_set _ k hk _ ?_
      rw [← hy]
      refine wd_step' _ (fun x hx => hby x (List.mem_of_mem_take (List.mem_of_mem_drop (List.mem_of_mem_take hx)))) k hk _ ?_ (by rw [List.length_take]; omega)
      rw [List.getElem?_take, if_pos hk, List.getElem?_drop, List.getElem?_take, if_pos hlt, List.getElem?_eq_getElem hb]
    · exact ⟨at_ + k, 0, 0, 0, at_ + k, e, 200, h2, fun W hW => rbyte_short w0 W g b (at_ + k) e hW hge, fun W' hW' y hy => .inr ⟨by omega, _, hW'⟩⟩
  · exact ⟨j, e, 200, 0, j, e, 200, h2, fun W hW => rbyte_bad w0 W g b j e e 200 hW (by simp), fun W' hW' y hy => .inr ⟨h1, _, hW'⟩⟩
set_option maxHeartbeats 4000000 in
set_option maxRecDepth 100000 in
theorem class_calls (h : RR w0 w g b at_ e 0 0) (hby : ∀ x ∈ b, 0 ≤ x ∧ x < 256) :
    Calls Try.prog 92 #[.pointer (some ⟨g, 0, none⟩)] w fun x w' => ∃ l, l.length = 4 ∧ x = .returned (.agg (l.map (Value.int .u64)).toArray) ∧ ClsRel w0 w' g b at_ e 32 l ∧ Only w w' g := by
  have HY := Aside0.mk hby
  have HGL := Aside0.mk h.lt
  have HGE := Aside0.mk h.ge
  have HREL := Aside0.mk (show ClsRel w0 w g b at_ e 0 [0, 0, 0, 0] from .inl ⟨h.at_, h, by simp [wd, wordOf]⟩)
  have HB := Aside0.mk (Below.refl w.heap.size w)
  clear h hby
  go_enter Try.func92, Try.ntmps92
  go_wp2_with (first
    | ((with_reducible refine gate_dst (N := 2) rfl ?_); refine box_event (N := 2) rfl rfl (cs := #[.int .u64 0, .int .u64 0, .int .u64 0, .int .u64 0]) (t := 76) ?hr2 ?_; (case hr2 => first | (go_simp; done) | (go_simp; rfl)); intro g2 hg2 w1 hbox hb1; have HG2 := Aside0.mk (show w.heap.size ≤ g2 by omega); have n1_ := Aside0.mk (below_step HB.out hb1); have H2 := Aside0.mk (show RowAt w1 g2 76 [.int .u64 0, .int .u64 0, .int .u64 0, .int .u64 0] from ⟨_, hbox, rfl⟩); clear HB hbox hb1 hg2; have HB := n1_; clear n1_)
    | ((with_reducible refine gate_dst (N := 3) rfl ?_); refine box_event (N := 3) rfl rfl (cs := #[.int .u64 0, .int .u64 0, .int .u64 0, .int .u64 0]) (t := 76) ?hr2 ?_; (case hr2 => first | (go_simp; done) | (go_simp; rfl)); intro g3 hg3 w1 hbox hb1; have HG3 := Aside0.mk (show w.heap.size ≤ g3 ∧ g2 < g3 by have := HB.out.size; have := H2.out.lt; omega); have n1_ := Aside0.mk (below_step HB.out hb1); have n2_ := Aside0.mk (H2.out.below hb1); have H3 := Aside0.mk (show RowAt w1 g3 76 ([0, 0, 0, 0].map (Value.int .u64)) from ⟨_, hbox, rfl⟩); clear HB H2 hbox hb1 hg3; have HB := n1_; have H2 := n2_; clear n1_ n2_))
  have n1_ := Aside0.mk (ClsRel.kept HREL.out HB.out)
  clear HREL
  have HREL := n1_
  clear n1_
  go_loopw [4] (fun v4 wr => ∃ (k : Nat) (l : List Int), v4 = .int .i64 k ∧ k ≤ 32 ∧ Aside0 (l.length = 4) ∧ Aside0 (RowAt wr g3 76 (l.map (Value.int .u64))) ∧ Aside0 (RowAt wr g2 76 [.int .u64 0, .int .u64 0, .int .u64 0, .int .u64 0]) ∧ Aside0 (Only w wr g) ∧ Aside0 (ClsRel w0 wr g b at_ e k l)) (fun v4 _ => 32 - (intOf v4).toNat)
  case atStart => exact ⟨0, [0, 0, 0, 0], rfl, by omega, ⟨rfl⟩, H3, H2, ⟨Only.of_below HB.out g⟩, HREL⟩
  case round =>
    clear HREL HB H2 H3
    obtain ⟨k, l, rfl, hk, HL, H3, H2, HO, HREL⟩ := hrel
    by_cases c3 : k < 32
    · have b3 : decide ((k : Int) < 32) = true := decide_eq_true (by omega)
      obtain ⟨i0, fa, fc, xb, i', fa', fc', hrr, hbyte, hrel⟩ := cls_round w0 g b at_ e HY.out wr k c3 l HL.out HREL.out
      have hk8 : k / 8 < 4 := by omega
      have hwq : IntKind.i64.wrap ((k : Int) / 8) = ((k / 8 : Nat) : Int) := by rw [IntWalk.i64_in _ (by omega)]; omega
      have htm : (k : Int).tmod 8 = ((k % 8 : Nat) : Int) := by rw [Int.tmod_eq_emod_of_nonneg (by omega)]; omega
      have hq8 : k % 8 < 8 := Nat.mod_lt _ (by decide)
      have HREL2 := Aside0.mk hrel
      have HBY := Aside0.mk hbyte
      have HRR := Aside0.mk (hrr.drew 1)
      clear HREL hrel hbyte hrr
      generalize k / 8 = j at *
      generalize k % 8 = q8 at *
      have hm8 : IntKind.i64.wrap (8 * (q8 : Int)) = 8 * (q8 : Int) := IntWalk.i64_in _ (by omega)
      have hjl : j < l.length := by have := HL.out; omega
      have hly : l[j]? = some l[j] := List.getElem?_eq_getElem hjl
      generalize l[j] = y at *
      have hix : ∀ W : World, (Instr.indexAt 76 (.pointer (some ⟨g3, 0, none⟩)) (.int .i64 (j : Int))).run Try.prog W = .ok (.pointer (some ⟨g3, j, none⟩)) W := by
        intro W
        have hb0 : (0 : Int) ≤ (j : Int) ∧ (j : Int) < 4 := by omega
        simp [Instr.indexAt, go_sem, hb0, Try.underlying76]
        omega
      have hld : ∀ W, RowAt W g3 76 (l.map (Value.int .u64)) → W.cell? ⟨g3, j, none⟩ = some (.int .u64 y) := fun W hW => (hW.cell j).trans (by rw [List.getElem?_map, hly]; rfl)
      have HLD := Aside0.mk hld
      have HLY := Aside0.mk hly
      clear hld hly
      go_wp2
      refine wp_region_held_drew (S := fun W => True) (by kernel_rfl) trivial (fun hH => ?_)
      have n1_ := Aside0.mk (HO.out.trans (Only.of_below (below_drew (Below.refl wr.heap.size wr)) g))
      have n2_ := Aside0.mk (H2.out.below (below_drew (Below.refl wr.heap.size wr)))
      have n3_ := Aside0.mk (H3.out.below (below_drew (Below.refl wr.heap.size wr)))
      clear HO H2 H3
      have HO := n1_
      have H2 := n2_
      have H3 := n3_
      clear n1_ n2_ n3_
      have hgne : g3 ≠ g := by have := HG3.out; have := HGL.out; omega
      have hg2ne : g2 ≠ g := by have := HG2.out; have := HGL.out; omega
      change Aside0 (RR w0 wr.drew g b i0 e fa fc) at HRR
      generalize wr.drew = w5 at *
      refine wpAnyH_take (i := 0) (oi := _) (v := .int .i64 (k : Int)) rfl (by kernel_rfl) (by kernel_rfl) (by kernel_rfl) (fun _ _ _ h => h) (Or.inl ⟨by rfl, fun w hw => by go_simp⟩) hH ?_; simp only [List.getElem_toArray, List.getElem_cons_zero, List.getElem_cons_succ, Act.put, List.setIfInBounds_toArray, List.set_cons_zero, List.set_cons_succ]
      refine wpAnyH_take (i := 1) (oi := _) (v := .int .i64 (j : Int)) rfl (by kernel_rfl) (by kernel_rfl) (by kernel_rfl) (fun _ _ _ h => h) (Or.inl ⟨by rfl, fun w hw => by go_simp⟩) hH ?_; simp only [List.getElem_toArray, List.getElem_cons_zero, List.getElem_cons_succ, Act.put, List.setIfInBounds_toArray, List.set_cons_zero, List.set_cons_succ]
      refine wpAnyH_take (i := 2) (oi := _) (v := .int .i64 (k : Int)) rfl (by kernel_rfl) (by kernel_rfl) (by kernel_rfl) (fun _ _ _ h => h) (Or.inl ⟨by rfl, fun w hw => by go_simp⟩) hH ?_; simp only [List.getElem_toArray, List.getElem_cons_zero, List.getElem_cons_succ, Act.put, List.setIfInBounds_toArray, List.set_cons_zero, List.set_cons_succ]
      refine wpAnyH_take (i := 3) (oi := _) (v := .int .i64 (j : Int)) rfl (by kernel_rfl) (by kernel_rfl) (by kernel_rfl) (fun _ _ _ h => h) (Or.inl ⟨by rfl, fun w hw => by go_simp⟩) hH ?_; simp only [List.getElem_toArray, List.getElem_cons_zero, List.getElem_cons_succ, Act.put, List.setIfInBounds_toArray, List.set_cons_zero, List.set_cons_succ]
      refine wpAnyH_take (i := 4) (oi := _) (v := .pointer (some ⟨g3, j, none⟩)) rfl (by kernel_rfl) (by kernel_rfl) (by kernel_rfl) (fun _ _ _ h => h) (Or.inl ⟨by rfl, fun w hw => by go_simp⟩) hH ?_; simp only [List.getElem_toArray, List.getElem_cons_zero, List.getElem_cons_succ, Act.put, List.setIfInBounds_toArray, List.set_cons_zero, List.set_cons_succ]
      refine wpAnyH_take (i := 6) (oi := _) (v := .pointer (some ⟨g, 0, none⟩)) rfl (by kernel_rfl) (by kernel_rfl) (by kernel_rfl) (fun _ _ _ h => h) (Or.inl ⟨by rfl, fun w hw => by go_simp⟩) hH ?_; simp only [List.getElem_toArray, List.getElem_cons_zero, List.getElem_cons_succ, Act.put, List.setIfInBounds_toArray, List.set_cons_zero, List.set_cons_succ]
      refine wpAnyH_take (i := 9) (oi := _) (v := .int .i64 (k : Int)) rfl (by kernel_rfl) (by kernel_rfl) (by kernel_rfl) (fun _ _ _ h => h) (Or.inl ⟨by rfl, fun w hw => by go_simp⟩) hH ?_; simp only [List.getElem_toArray, List.getElem_cons_zero, List.getElem_cons_succ, Act.put, List.setIfInBounds_toArray, List.set_cons_zero, List.set_cons_succ]
      refine wpAnyH_take (i := 10) (oi := _) (v := .int .i64 (q8 : Int)) rfl (by kernel_rfl) (by kernel_rfl) (by kernel_rfl) (fun _ _ _ h => h) (Or.inl ⟨by rfl, fun w hw => by go_simp⟩) hH ?_; simp only [List.getElem_toArray, List.getElem_cons_zero, List.getElem_cons_succ, Act.put, List.setIfInBounds_toArray, List.set_cons_zero, List.set_cons_succ]
      refine wpAnyH_take (i := 11) (oi := _) (v := .int .i64 (8 * (q8 : Int))) rfl (by kernel_rfl) (by kernel_rfl) (by kernel_rfl) (fun _ _ _ h => h) (Or.inl ⟨by rfl, fun w hw => by go_simp⟩) hH ?_; simp only [List.getElem_toArray, List.getElem_cons_zero, List.getElem_cons_succ, Act.put, List.setIfInBounds_toArray, List.set_cons_zero, List.set_cons_succ]
      refine wpAnyH_ready (rs := [5, 7]) (by kernel_rfl) (by simp) ?_
      refine AllReadyH.cons (o := _) rfl (fun K hK => ?A) (AllReadyH.cons (o := _) rfl (fun K hK => ?B) AllReadyH.nil)
      case' A =>
        have hcell := HLD.out w5 H3.out
        refine rstep_value (v := .int .u64 y) (w' := w5) (by rfl) (by go_simp) ?_
        refine hK.out _ _ hH (fun _ => ?_); clear hK K; simp only [List.getElem_toArray, List.getElem_cons_zero, List.getElem_cons_succ, Act.put, List.setIfInBounds_toArray, List.set_cons_zero, List.set_cons_succ]
        clear hcell
        refine wpAnyH_ready (rs := [7]) (by kernel_rfl) (by simp) ?_; refine AllReadyH.cons (o := _) rfl (fun K hK => ?_) AllReadyH.nil
        refine rstep_call (w1 := w5) (by rfl) (by go_simp) (HBY.out w5 HRR.out) ?_
        rintro _ w6 ⟨rfl, hrr, ho⟩
        refine ⟨_, rfl, ?_⟩
        refine hK.out _ _ trivial (fun _ => ?_)
        clear hK K
        have HO6 := Aside0.mk (HO.out.trans ho)
        have H26 := Aside0.mk (H2.out.kept (ho.2 g2 H2.out.lt hg2ne))
        have H36 := Aside0.mk (H3.out.kept (ho.2 g3 H3.out.lt hgne))
        have HRR6 := Aside0.mk hrr
        clear HO H2 H3 HRR hrr ho
        simp only [List.getElem_toArray, List.getElem_cons_zero, List.getElem_cons_succ, Act.put, List.setIfInBounds_toArray, List.set_cons_zero, List.set_cons_succ]
        refine wpAnyH_take (i := 8) (oi := _) (v := .int .u64 (IntKind.u64.wrap xb)) rfl (by kernel_rfl) (by kernel_rfl) (by kernel_rfl) (fun _ _ _ h => h) (Or.inl ⟨by rfl, fun w hw => by go_simp⟩) hH ?_; simp only [List.getElem_toArray, List.getElem_cons_zero, List.getElem_cons_succ, Act.put, List.setIfInBounds_toArray, List.set_cons_zero, List.set_cons_succ]
        refine wpAnyH_take (i := 12) (oi := _) (v := .int .u64 (IntKind.u64.wrap (IntKind.u64.wrap xb * 2 ^ (8 * q8)))) rfl (by kernel_rfl) (by kernel_rfl) (by kernel_rfl) (fun _ _ _ h => h) (Or.inl ⟨by rfl, fun w hw => by go_simp; rw [show (8 * (q8 : Int)).toNat = 8 * q8 by omega]⟩) hH ?_; simp only [List.getElem_toArray, List.getElem_cons_zero, List.getElem_cons_succ, Act.put, List.setIfInBounds_toArray, List.set_cons_zero, List.set_cons_succ]
      case' B =>
        refine rstep_call (w1 := w5) (by rfl) (by go_simp) (HBY.out w5 HRR.out) ?_
        rintro _ w6 ⟨rfl, hrr, ho⟩
        refine ⟨_, rfl, ?_⟩
        refine hK.out _ _ trivial (fun _ => ?_)
        clear hK K
        have HO6 := Aside0.mk (HO.out.trans ho)
        have H26 := Aside0.mk (H2.out.kept (ho.2 g2 H2.out.lt hg2ne))
        have H36 := Aside0.mk (H3.out.kept (ho.2 g3 H3.out.lt hgne))
        have HRR6 := Aside0.mk hrr
        clear HO H2 H3 HRR hrr ho
        simp only [List.getElem_toArray, List.getElem_cons_zero, List.getElem_cons_succ, Act.put, List.setIfInBounds_toArray, List.set_cons_zero, List.set_cons_succ]
        refine wpAnyH_take (i := 8) (oi := _) (v := .int .u64 (IntKind.u64.wrap xb)) rfl (by kernel_rfl) (by kernel_rfl) (by kernel_rfl) (fun _ _ _ h => h) (Or.inl ⟨by rfl, fun w hw => by go_simp⟩) hH ?_; simp only [List.getElem_toArray, List.getElem_cons_zero, List.getElem_cons_succ, Act.put, List.setIfInBounds_toArray, List.set_cons_zero, List.set_cons_succ]
        refine wpAnyH_take (i := 12) (oi := _) (v := .int .u64 (IntKind.u64.wrap (IntKind.u64.wrap xb * 2 ^ (8 * q8)))) rfl (by kernel_rfl) (by kernel_rfl) (by kernel_rfl) (fun _ _ _ h => h) (Or.inl ⟨by rfl, fun w hw => by go_simp; rw [show (8 * (q8 : Int)).toNat = 8 * q8 by omega]⟩) hH ?_; simp only [List.getElem_toArray, List.getElem_cons_zero, List.getElem_cons_succ, Act.put, List.setIfInBounds_toArray, List.set_cons_zero, List.set_cons_succ]
        have hcell := HLD.out w6 H36.out
        refine wpAnyH_ready (rs := [5]) (by kernel_rfl) (by simp) ?_; refine AllReadyH.cons (o := _) rfl (fun K hK => ?_) AllReadyH.nil
        refine rstep_value (v := .int .u64 y) (w' := w6) (by rfl) (by go_simp) ?_
        refine hK.out _ _ hH (fun _ => ?_); clear hK K; simp only [List.getElem_toArray, List.getElem_cons_zero, List.getElem_cons_succ, Act.put, List.setIfInBounds_toArray, List.set_cons_zero, List.set_cons_succ]
        clear hcell
      all_goals
        refine wpAnyH_take (i := 13) (oi := _) (v := .int .u64 (Go.bits .or .u64 y (IntKind.u64.wrap (IntKind.u64.wrap xb * 2 ^ (8 * q8))))) rfl (by kernel_rfl) (by kernel_rfl) (by kernel_rfl) (fun _ _ _ h => h) (Or.inl ⟨by rfl, fun w hw => by go_simp⟩) hH ?_; simp only [List.getElem_toArray, List.getElem_cons_zero, List.getElem_cons_succ, Act.put, List.setIfInBounds_toArray, List.set_cons_zero, List.set_cons_succ]
        have hz := HREL2.out w6 HRR6.out y HLY.out
        generalize Go.bits .or .u64 y (IntKind.u64.wrap (IntKind.u64.wrap xb * 2 ^ (8 * q8))) = z at *
        have HZ := Aside0.mk hz
        clear hz
        refine wpAnyH_take (i := 14) (oi := _) (v := .pointer (some ⟨g3, j, none⟩)) rfl (by kernel_rfl) (by kernel_rfl) (by kernel_rfl) (fun _ _ _ h => h) (Or.inl ⟨by rfl, fun w hw => by go_simp⟩) hH ?_; simp only [List.getElem_toArray, List.getElem_cons_zero, List.getElem_cons_succ, Act.put, List.setIfInBounds_toArray, List.set_cons_zero, List.set_cons_succ]
        refine wpAnyH_ready (rs := [15]) (by kernel_rfl) (by simp) ?_; refine AllReadyH.cons (o := _) rfl (fun K hK => ?_) AllReadyH.nil
        refine rstep_store (by rfl) 74 (.tmp 23) (.tmp 22) rfl (off := j) (u := .int .u64 z) (seg := [.int .u64 z]) rfl rfl H36.out rfl (by kernel_rfl) (by simp; omega) (by simp [Value.oneCell']) ?_
        intro w7 hrow hgr
        have e1 : (l.map (Value.int .u64)).take j ++ [Value.int .u64 z] ++ (l.map (Value.int .u64)).drop (j + [Value.int .u64 z].length) = (l.set j z).map (Value.int .u64) := by
          rw [List.set_eq_take_append_cons_drop, if_pos hjl]
          simp
        rw [e1] at hrow
        have H37 := Aside0.mk hrow
        have H27 := Aside0.mk (H26.out.grown hgr (by have := HG3.out; simp; omega))
        have HO7 := Aside0.mk (HO6.out.through hgr (fun k hk => by injection hk with hk; have := HG3.out; omega))
        have HZ7 := Aside0.mk (ClsRel.grown HZ.out hgr (fun k hk => by injection hk with hk; have := HG3.out; have := HGL.out; have := HGE.out; omega))
        clear hrow hgr H36 H26 HO6 HZ HRR6
        refine hK.out _ _ trivial (fun _ => ?_)
        clear hK K
        simp only [List.getElem_toArray, List.getElem_cons_zero, List.getElem_cons_succ, Act.put, List.setIfInBounds_toArray, List.set_cons_zero, List.set_cons_succ]
        refine wpAnyH_done (by kernel_rfl) ?_ _
        go_wp2
        go_roundw
        case measure => simp [intOf]; omega
        case rel => exact ⟨k + 1, l.set j z, by go_num, by omega, ⟨by rw [List.length_set]; exact HL.out⟩, H37, H27, HO7, HZ7⟩
    · have b3 : decide ((k : Int) < 32) = false := decide_eq_false (by omega)
      obtain rfl : k = 32 := by omega
      obtain ⟨x0, x1, x2, x3, rfl⟩ : ∃ x0 x1 x2 x3, l = [x0, x1, x2, x3] := by
        have := HL.out
        match l, this with
        | [x0, x1, x2, x3], _ => exact ⟨_, _, _, _, rfl⟩
      have q0 := (H3.out.cell 0).trans (show _ = some (.int .u64 x0) from rfl)
      have q1 := (H3.out.cell 1).trans (show _ = some (.int .u64 x1) from rfl)
      have q2 := (H3.out.cell 2).trans (show _ = some (.int .u64 x2) from rfl)
      have q3 := (H3.out.cell 3).trans (show _ = some (.int .u64 x3) from rfl)
      go_wp2_with (first
        | ((with_reducible refine gate_store (t := 76) (p := 2) rfl ?_); refine put_event rfl rfl 76 (.tmp 2) (.tmp 24) rfl (off := 0) (u := .agg #[.int .u64 x0, .int .u64 x1, .int .u64 x2, .int .u64 x3]) (seg := [.int .u64 x0, .int .u64 x1, .int .u64 x2, .int .u64 x3]) rfl rfl H2.out rfl (by kernel_rfl) (by simp) (by simp [Value.oneCell']) ?_; intro w5 hrow hgr; have H5 := Aside0.mk (show RowAt w5 g2 76 [.int .u64 x0, .int .u64 x1, .int .u64 x2, .int .u64 x3] from hrow); have HGR := Aside0.mk hgr; clear hrow hgr))
      refine bodyPost_ret (results_cell_row rfl _ _ g2 76 #[.int .u64 x0, .int .u64 x1, .int .u64 x2, .int .u64 x3] (0, 0) _ rfl (by obtain ⟨cur, h1, h2⟩ := H5.out; rw [h1, ← h2]) Try.underlying76 rfl (by kernel_rfl)) rfl ?_
      exact ⟨[x0, x1, x2, x3], rfl, rfl, ClsRel.grown HREL.out HGR.out (fun k hk => by injection hk with hk; have := HG2.out; have := HGL.out; have := HGE.out; omega), HO.out.through HGR.out (fun k hk => by injection hk with hk; have := HG2.out; omega)⟩
end
end Go.Proofs.Ytebiogaacikphaa.Pack
end
section
namespace Go.Proofs.Ytebiogaacikphaa.Pack
open Go.RowKit Go.Proofs.YtebiogaacikphaaW.PrintWords Go.Proofs.Ytebiogaacikphaa.PAll
set_option linter.unusedVariables false
set_option linter.unnecessarySimpa false
set_option linter.unusedSimpArgs false
theorem four_of {l : List Int} (h : l.length = 4) : ∃ x0 x1 x2 x3, l = [x0, x1, x2, x3] := by
  match l, h with
  | [x0, x1, x2, x3], _ => exact ⟨_, _, _, _, rfl⟩
/-- The state behind k of those that are there were looked at. -/
def InSt (w0 W : World) (g : Nat) (b : List Int) (at_ e : Nat) (x : Four) (acc : List Four) (k : Nat) : Prop :=
  (at_ + 32 ≤ e ∧ x = clsOf (((b.take e).drop at_).take 32) ∧ x ∉ acc.take k ∧ RR w0 W g b (at_ + 32) e 0 0) ∨
  (at_ + 32 ≤ e ∧ x = clsOf (((b.take e).drop at_).take 32) ∧ x ∈ acc.take k ∧ RR w0 W g b (at_ + 32) e at_ 204) ∨
  (e < at_ + 32 ∧ ∃ j, RR w0 W g b j e e 200)
section
variable {w0 W W' : World} {g : Nat} {b : List Int} {at_ e k : Nat} {x : Four} {acc : List Four}
theorem InSt.grown (h : InSt w0 W g b at_ e x acc k) {r : Option Nat} (hg : W.grownBy W' r) (hr : ∀ k, r = some k → k ≠ g ∧ w0.heap.size ≤ k) : InSt w0 W' g b at_ e x acc k := by
  rcases h with ⟨h1, h2, h3, h4⟩ | ⟨h1, h2, h3, h4⟩ | ⟨h1, j, h2⟩
  · exact .inl ⟨h1, h2, h3, h4.through hg hr⟩
  · exact .inr (.inl ⟨h1, h2, h3, h4.through hg hr⟩)
  · exact .inr (.inr ⟨h1, j, h2.through hg hr⟩)
theorem InSt.below (h : InSt w0 W g b at_ e x acc k) (hb : Below W.heap.size W W') : InSt w0 W' g b at_ e x acc k := h.grown (grown_of_below hb none) (fun k hk => by cases hk)
theorem InSt.skip (h : InSt w0 W g b at_ e x acc k) (hk : k < acc.length) (hne : acc[k] ≠ x) : InSt w0 W g b at_ e x acc (k + 1) := by
  have e1 : x ∈ acc.take (k + 1) ↔ x ∈ acc.take k := by
    rw [List.take_add_one, List.getElem?_eq_getElem hk, Option.toList_some, List.mem_append, List.mem_singleton]
    exact ⟨fun h => h.elim id (fun h => absurd h.symm hne), .inl⟩
  rcases h with ⟨h1, h2, h3, h4⟩ | ⟨h1, h2, h3, h4⟩ | ⟨h1, j, h2⟩
  · exact .inl ⟨h1, h2, fun h => h3 (e1.1 h), h4⟩
  · exact .inr (.inl ⟨h1, h2, e1.2 h3, h4⟩)
  · exact .inr (.inr ⟨h1, j, h2⟩)
/-- wrong at the place, where one is alike. -/
theorem InSt.hit (h : InSt w0 W g b at_ e x acc k) (hk : k < acc.length) (heq : acc[k] = x) :
    Calls Try.prog 59 #[.pointer (some ⟨g, 0, none⟩), .int .i64 at_, .int .i64 204] W fun r w' => r = .returned (.tuple #[]) ∧ InSt w0 w' g b at_ e x acc (k + 1) ∧ Only W w' g := by
  have e1 : x ∈ acc.take (k + 1) := by
    rw [List.take_add_one, List.getElem?_eq_getElem hk, Option.toList_some, List.mem_append, List.mem_singleton]
    exact .inr heq.symm
  rcases h with ⟨h1, h2, h3, h4⟩ | ⟨h1, h2, h3, h4⟩ | ⟨h1, j, h2⟩
  · exact (wrong_ok w0 W g b _ e _ _ h4).mono fun r w' ⟨r1, r2, r3⟩ => ⟨r1, .inr (.inl ⟨h1, h2, e1, r2⟩), r3⟩
  · exact (wrong_bad w0 W g b _ e _ _ _ _ h4 (by simp)).mono fun r w' ⟨r1, r2, r3⟩ => ⟨r1, .inr (.inl ⟨h1, h2, e1, r2⟩), r3⟩
  · exact (wrong_bad w0 W g b _ e _ _ _ _ h2 (by simp)).mono fun r w' ⟨r1, r2, r3⟩ => ⟨r1, .inr (.inr ⟨h1, j, r2⟩), r3⟩
theorem InSt.start {x0 x1 x2 x3 : Int} (h : ClsRel w0 W g b at_ e 32 [x0, x1, x2, x3]) : InSt w0 W g b at_ e (x0, x1, x2, x3) acc 0 := by
  rcases h with ⟨h1, h2, h3⟩ | ⟨h1, j, h2⟩
  · refine .inl ⟨h1, ?_, by simp, h2⟩
    injection h3 with e0 h3
    injection h3 with e1 h3
    injection h3 with e2 h3
    injection h3 with e3 _
    rw [e0, e1, e2, e3]
    simp [wd, clsOf]
  · exact .inr (.inr ⟨h1, j, h2⟩)
end
/-- What classes comes to. -/
def ClsOut (w0 w w' : World) (g : Nat) (b : List Int) (e : Nat) (x : Ending) (res : Except (Int × Int) (List Four × List Int)) : Prop :=
  ∃ v acc, x = .returned v ∧ w'.ownsRow w.heap.size 76 4 v acc.length (acc.flatMap clsCells) ∧ RSt w0 w' g b e (res.map (·.2)) ∧ Only w w' g ∧ (∀ S r, res = .ok (S, r) → acc = S)
section
variable (w0 w : World) (g : Nat) (b : List Int) (i e : Nat)
attribute [local go_sem high] eqA76
set_option maxHeartbeats 4000000 in
set_option maxRecDepth 100000 in
theorem rclasses_ok (h : RR w0 w g b i e 0 0) (hby : ∀ x ∈ b, 0 ≤ x ∧ x < 256) (res : Except (Int × Int) (List Four × List Int)) (hres : tableC e ((b.take e).drop i) = res) :
    Calls Try.prog 56 #[.pointer (some ⟨g, 0, none⟩)] w fun x w' => ClsOut w0 w w' g b e x res := by
  have HCO := Aside0.mk (rcount_ok w0 w g b i e h hby)
  have HY := Aside0.mk hby
  have GLT := Aside0.mk h.lt
  have GGE := Aside0.mk h.ge
  have h1 := h.c1
  have hlen0 : ((b.take e).drop i).length = e - i := by have := h.e_; rw [List.length_drop, List.length_take]; omega
  have hsub : ∀ x ∈ (b.take e).drop i, 0 ≤ x ∧ x < 256 := fun x hx => hby x (List.mem_of_mem_take (List.mem_of_mem_drop hx))
  rw [tableC, hlen0, show e - (e - i) = i by have := h.at_; omega, manyL] at hres
  have HNN := Aside0.mk (fun v r => cntL_nonneg e i ((b.take e).drop i) 0 0 v r hsub (by omega))
  clear h hby hlen0 hsub
  generalize cntL e i 0 0 ((b.take e).drop i) = cnt at *
  match cnt with
  | .error f =>
    have hres' : Except.error f = res := hres
    subst hres'
    clear hres
    go_enter Try.func56, Try.ntmps56
    go_wp2_with (first
      | (go_at_call 58; refine HCO.out.mono ?_; rintro xx w1 ⟨v, rfl, hq1, hq2, hq3⟩; obtain ⟨j, hf, hrs⟩ := hq1; have HF := Aside0.mk (show (f.2 == 0) = false by simpa using hf); have H := Aside0.mk hrs; have HO := Aside0.mk hq2; clear hq2 hq3 hrs hf h1)
      | (go_at_call 59; refine (wrong_bad w0 _ g b _ e _ _ _ _ H.out (by simpa using HF.out)).mono ?_; rintro xx w8 ⟨rfl, hq1, hq2⟩; have n1_ := Aside0.mk hq1; have n2_ := Aside0.mk (HO.out.trans hq2); clear H HO hq1 hq2; have H := n1_; have HO := n2_; clear n1_ n2_))
    all_goals
      refine wp_loop_once ?_
      go_wp2_with (first
        | (go_at_call 60; refine (rok_same w0 _ g b _ e _ _ false H.out HF.out).mono ?_; rintro xx w8 ⟨rfl, hq1, hq2⟩; have n1_ := Aside0.mk hq1; have n2_ := Aside0.mk (HO.out.trans hq2); clear H HO hq1 hq2; have H := n1_; have HO := n2_; clear n1_ n2_))
      all_goals
        go_ret
        exact ⟨_, [], rfl, World.ownsRow_nil _ _ _ _, ⟨_, by simpa using HF.out, H.out⟩, HO.out, (fun _ _ h => by cases h)⟩
  | .ok (m, r) =>
    obtain ⟨n, hn⟩ := Int.eq_ofNat_of_zero_le (HNN.out m r rfl)
    subst hn
    dsimp only at hres
    by_cases big : 65536 < (n : Int)
    · rw [if_pos big] at hres
      have hres' : Except.error ((i : Int), (204 : Int)) = res := hres
      subst hres'
      have b0 : decide ((n : Int) > 65536) = true := decide_eq_true big
      have b1 : decide ((0 : Int) < (n : Int)) = true := decide_eq_true (by omega)
      clear hres
      go_enter Try.func56, Try.ntmps56
      go_wp2_with (first
        | (go_at_call 58; refine HCO.out.mono ?_; rintro xx w1 ⟨v, rfl, hq1, hq2, hq3⟩; obtain rfl := hq3 _ r rfl; obtain ⟨j, hrs, hr⟩ := hq1; have H := Aside0.mk hrs; have HO := Aside0.mk hq2; clear hq2 hq3 hrs hr h1)
        | (go_at_call 59; refine (wrong_ok w0 _ g b _ e _ _ H.out).mono ?_; rintro xx w8 ⟨rfl, hq1, hq2⟩; have HF := Aside0.mk (show ((204 : Int) == 0) = false by decide); have n1_ := Aside0.mk hq1; have n2_ := Aside0.mk (HO.out.trans hq2); clear H HO hq1 hq2; have H := n1_; have HO := n2_; clear n1_ n2_))
      refine wp_loop_once ?_
      go_wp2_with (first
        | (go_at_call 60; refine (rok_same w0 _ g b _ e _ _ false H.out HF.out).mono ?_; rintro xx w8 ⟨rfl, hq1, hq2⟩; have n1_ := Aside0.mk hq1; have n2_ := Aside0.mk (HO.out.trans hq2); clear H HO hq1 hq2; have H := n1_; have HO := n2_; clear n1_ n2_))
      go_ret
      exact ⟨_, [], rfl, World.ownsRow_nil _ _ _ _, ⟨_, by simpa using HF.out, H.out⟩, HO.out, (fun _ _ h => by cases h)⟩
    · rw [if_neg big] at hres
      have HNB := Aside0.mk (show n ≤ 65536 by omega)
      have b0 : decide ((n : Int) > 65536) = false := decide_eq_false big
      have HRES := Aside0.mk (show classesL e n [] r = res by rw [← hres]; rfl)
      clear hres big
      go_enter Try.func56, Try.ntmps56
      go_wp2_with (first
        | (go_at_call 58; refine HCO.out.mono ?_; rintro xx w1 ⟨v, rfl, hq1, hq2, hq3⟩; obtain rfl := hq3 _ r rfl; obtain ⟨j, hrs, hr⟩ := hq1; have HR := Aside0.mk (show r = (b.take e).drop j from hr); have H := Aside0.mk hrs; have HO := Aside0.mk hq2; clear hq2 hq3 hrs hr h1))
      go_loopw [5, 6] (fun v5 v6 wr => ∃ (q : Nat) (acc : List Four), v6 = .int .i64 q ∧ Aside0 (acc.length = q ∧ q ≤ n) ∧ Aside0 (Only w wr g) ∧ Aside0 (wr.ownsRow w.heap.size 76 4 v5 acc.length (acc.flatMap clsCells)) ∧ Aside0 ((∃ at_, RR w0 wr g b at_ e 0 0 ∧ classesL e (n - q) acc ((b.take e).drop at_) = res) ∨ (∃ f j, RR w0 wr g b j e f.1 f.2 ∧ f.2 ≠ 0 ∧ res = .error f))) (fun _ v6 _ => n - (intOf v6).toNat)
      case atStart => exact ⟨0, [], rfl, ⟨rfl, Nat.zero_le _⟩, HO, ⟨World.ownsRow_nil _ _ _ _⟩, ⟨.inl ⟨j, H.out, by rw [← HR.out]; exact HRES.out⟩⟩⟩
      case round =>
        clear HRES HR H HO HCO
        obtain ⟨q, acc, rfl, HAQ, HO, HROW, hcase⟩ := hrel
        have qb : (q : Int) ≤ 65536 := by have := HAQ.out; have := HNB.out; omega
        obtain ⟨at_, hrs, hres⟩ | ⟨f, j, hrs, hf, rfl⟩ := hcase.out
        · have H := Aside0.mk hrs
          clear hcase
          have h1 := hrs.c1
          have HLEN := Aside0.mk (show ((b.take e).drop at_).length = e - at_ by have := hrs.e_; rw [List.length_drop, List.length_take]; omega)
          clear hrs
          by_cases c1 : q < n
          · have b1 : decide ((q : Int) < (n : Int)) = true := decide_eq_true (by omega)
            rw [show n - q = (n - (q + 1)) + 1 by omega] at hres
            have HRES := Aside0.mk hres
            clear hres
            go_wp2_with (first
              | ((go_at_call 60; refine (rok_same w0 _ g b _ e _ _ true H.out rfl).mono ?_; rintro xx w8 ⟨rfl, hq1, hq2⟩; have n1_ := Aside0.mk hq1; clear H hq1; have H := n1_; clear n1_; have n1_ := Aside0.mk (HO.out.trans hq2); have n2_ := Aside0.mk (own_kept HROW.out (fun k hk => hq2.2 k (own_lt HROW.out k hk) (by have := own_base HROW.out k hk; have := GLT.out; omega))); clear HO HROW hq2; have HO := n1_; have HROW := n2_; clear n1_ n2_); clear h1; have h1 := H.out.c1)
              | (go_at_call 92; refine (class_calls w0 _ g b at_ e H.out HY.out).mono ?_; rintro xx w6 ⟨l, hl4, rfl, hrel, hq2⟩; obtain ⟨x0, x1, x2, x3, rfl⟩ := four_of hl4; have HREL := Aside0.mk hrel; clear H h1 hrel hl4; have n1_ := Aside0.mk (HO.out.trans hq2); have n2_ := Aside0.mk (own_kept HROW.out (fun k hk => hq2.2 k (own_lt HROW.out k hk) (by have := own_base HROW.out k hk; have := GLT.out; omega))); clear HO HROW hq2; have HO := n1_; have HROW := n2_; clear n1_ n2_)
              | ((with_reducible refine gate_dst (N := 8) rfl ?_); refine box_event (N := 8) rfl rfl (cs := #[.int .u64 0, .int .u64 0, .int .u64 0, .int .u64 0]) (t := 76) ?hr2 ?_; (case hr2 => first | (go_simp; done) | (go_simp; rfl)); intro g8 hg8 w4 hbox hb4; have HG8 := Aside0.mk (show w.heap.size ≤ g8 ∧ u5.ownBlock ≠ some g8 by have h2 := HO.out.1; refine ⟨by omega, fun h => ?_⟩; have := own_lt HROW.out _ h; omega); have H8 := Aside0.mk (show RowAt w4 g8 76 [.int .u64 0, .int .u64 0, .int .u64 0, .int .u64 0] from ⟨_, hbox, rfl⟩); have n1_ := Aside0.mk (HO.out.trans (Only.of_below hb4 g)); have n2_ := Aside0.mk (own_kept HROW.out (fun k hk => hb4.block k (own_lt HROW.out k hk))); have n3_ := Aside0.mk (ClsRel.kept HREL.out hb4); clear HO HROW HREL hbox hb4 hg8; have HO := n1_; have HROW := n2_; have HREL := n3_; clear n1_ n2_ n3_)
              | ((with_reducible refine gate_store (t := 76) (p := 8) rfl ?_); refine put_event rfl rfl 76 (.tmp 8) (.tmp 35) rfl (off := 0) (u := .agg #[.int .u64 x0, .int .u64 x1, .int .u64 x2, .int .u64 x3]) (seg := [.int .u64 x0, .int .u64 x1, .int .u64 x2, .int .u64 x3]) rfl rfl H8.out rfl (by kernel_rfl) (by simp) (by simp [Value.oneCell']) ?_; intro w5 hrow hgr; have n4_ := Aside0.mk (show RowAt w5 g8 76 (clsCells (x0, x1, x2, x3)) from hrow); have n1_ := Aside0.mk (HO.out.through hgr (fun k hk => by injection hk with hk; have := HG8.out; omega)); have n2_ := Aside0.mk (own_kept HROW.out (fun k hk => hgr.block k (own_lt HROW.out k hk) (fun e => HG8.out.2 (hk.trans e)))); have n3_ := Aside0.mk (ClsRel.grown HREL.out hgr (fun k hk => by injection hk with hk; have := HG8.out; have := GLT.out; have := GGE.out; omega)); clear HO HROW HREL H8 hrow hgr; have HO := n1_; have HROW := n2_; have HREL := n3_; have H8 := n4_; clear n1_ n2_ n3_ n4_))
            have HIN := Aside0.mk (InSt.start (acc := acc) HREL.out)
            clear HREL
            obtain ⟨A5, c5, rfl⟩ := own_len HROW.out
            go_loopw [9] (fun v9 wr => ∃ (k : Nat), v9 = .int .i64 k ∧ k ≤ acc.length ∧ Aside0 (Only w wr g) ∧ Aside0 (wr.ownsRow w.heap.size 76 4 (.slice A5 acc.length c5) acc.length (acc.flatMap clsCells)) ∧ Aside0 (RowAt wr g8 76 (clsCells (x0, x1, x2, x3))) ∧ Aside0 (InSt w0 wr g b at_ e (x0, x1, x2, x3) acc k)) (fun v9 _ => acc.length - (intOf v9).toNat)
            case atStart => exact ⟨0, rfl, Nat.zero_le _, HO, HROW, H8, HIN⟩
            case round =>
              clear HO HROW H8 HIN
              obtain ⟨k, rfl, hk, HO, HROW, H8, HIN⟩ := hrel
              have hal : (acc.length : Int) ≤ 65536 := by have := HAQ.out; omega
              by_cases c2 : k < acc.length
              · have b2 : decide ((k : Int) < (acc.length : Int)) = true := decide_eq_true (by omega)
                obtain ⟨y, hy⟩ : ∃ y, acc[k]? = some y := ⟨_, List.getElem?_eq_getElem c2⟩
                have hyk : acc[k] = y := by have := List.getElem?_eq_getElem c2; rw [hy] at this; exact (Option.some.inj this).symm
                have HY2 := Aside0.mk hy
                obtain ⟨g5, cp, he5, _⟩ := cls_at HROW.out hy
                cases he5
                have hix : ∀ W : World, (Instr.indexAt 85 (.slice (some ⟨g5, 0, none⟩) acc.length c5) (.int .i64 (k : Int))).run Try.prog W = .ok (.pointer (some ⟨g5, k * 4, none⟩)) W :=
                  fun W => run_indexAt_own (P := Try.prog) (t := 85) (size := 4) Try.underlying85 (fun W => by kernel_rfl) g5 acc.length c5 k c2 W
                go_wp2
                have n1_ := Aside0.mk (HO.out.trans (Only.of_below (below_drew (Below.refl wr.heap.size wr)) g))
                have n2_ := Aside0.mk (own_kept HROW.out (fun k hk => (below_drew (Below.refl wr.heap.size wr)).block k (own_lt HROW.out k hk)))
                have n3_ := Aside0.mk (H8.out.below (below_drew (Below.refl wr.heap.size wr)))
                have n4_ := Aside0.mk (HIN.out.below (below_drew (Below.refl wr.heap.size wr)))
                clear HO HROW H8 HIN
                have HO := n1_
                have HROW := n2_
                have H8 := n3_
                have HIN := n4_
                clear n1_ n2_ n3_ n4_
                refine wp_region_held_drew (S := fun W => W = wr.drew) (by kernel_rfl) rfl (fun hH => ?_)
                generalize wr.drew = w7 at *
                refine wpAnyH_take (i := 0) (oi := _) (v := .slice (some ⟨g5, 0, none⟩) acc.length c5) rfl (by kernel_rfl) (by kernel_rfl) (by kernel_rfl) (fun _ _ _ h => h) (Or.inl ⟨by rfl, fun w hw => by go_simp⟩) hH ?_; simp only [List.getElem_toArray, List.getElem_cons_zero, List.getElem_cons_succ, Act.put, List.setIfInBounds_toArray, List.set_cons_zero, List.set_cons_succ]
                refine wpAnyH_take (i := 1) (oi := _) (v := .int .i64 (k : Int)) rfl (by kernel_rfl) (by kernel_rfl) (by kernel_rfl) (fun _ _ _ h => h) (Or.inl ⟨by rfl, fun w hw => by go_simp⟩) hH ?_; simp only [List.getElem_toArray, List.getElem_cons_zero, List.getElem_cons_succ, Act.put, List.setIfInBounds_toArray, List.set_cons_zero, List.set_cons_succ]
                refine wpAnyH_take (i := 2) (oi := _) (v := .pointer (some ⟨g5, k * 4, none⟩)) rfl (by kernel_rfl) (by kernel_rfl) (by kernel_rfl) (fun _ _ _ h => h) (Or.inl ⟨by rfl, fun w hw => by have := hix w; go_simp⟩) hH ?_; simp only [List.getElem_toArray, List.getElem_cons_zero, List.getElem_cons_succ, Act.put, List.setIfInBounds_toArray, List.set_cons_zero, List.set_cons_succ]
                obtain ⟨g5', cp', he5, hcl⟩ := cls_at HROW.out HY2.out
                cases he5
                have y0 := hcl 0 _ rfl
                rw [Nat.add_zero] at y0
                have y1 := hcl 1 _ rfl
                have y2 := hcl 2 _ rfl
                have y3 := hcl 3 _ rfl
                refine wpAnyH_take (i := 3) (oi := _) (v := .agg #[.int .u64 y.1, .int .u64 y.2.1, .int .u64 y.2.2.1, .int .u64 y.2.2.2]) rfl (by kernel_rfl) (by kernel_rfl) (by kernel_rfl) (fun _ _ _ h => h) (Or.inl ⟨by rfl, fun w hw => by cases hw; go_simp; try rfl⟩) hH ?_; simp only [List.getElem_toArray, List.getElem_cons_zero, List.getElem_cons_succ, Act.put, List.setIfInBounds_toArray, List.set_cons_zero, List.set_cons_succ]
                clear y0 y1 y2 y3 hcl
                have q0 := (H8.out.cell 0).trans (show _ = some (.int .u64 x0) from rfl)
                have q1 := (H8.out.cell 1).trans (show _ = some (.int .u64 x1) from rfl)
                have q2 := (H8.out.cell 2).trans (show _ = some (.int .u64 x2) from rfl)
                have q3 := (H8.out.cell 3).trans (show _ = some (.int .u64 x3) from rfl)
                refine wpAnyH_take (i := 4) (oi := _) (v := .agg #[.int .u64 x0, .int .u64 x1, .int .u64 x2, .int .u64 x3]) rfl (by kernel_rfl) (by kernel_rfl) (by kernel_rfl) (fun _ _ _ h => h) (Or.inl ⟨by rfl, fun w hw => by cases hw; go_simp; try rfl⟩) hH ?_; simp only [List.getElem_toArray, List.getElem_cons_zero, List.getElem_cons_succ, Act.put, List.setIfInBounds_toArray, List.set_cons_zero, List.set_cons_succ]
                clear q0 q1 q2 q3
                refine wpAnyH_take (i := 5) (oi := _) (v := .bool (y.1 == x0 && (y.2.1 == x1 && (y.2.2.1 == x2 && (y.2.2.2 == x3))))) rfl (by kernel_rfl) (by kernel_rfl) (by kernel_rfl) (fun _ _ _ h => h) (Or.inl ⟨by rfl, fun w hw => by go_simp⟩) hH ?_; simp only [List.getElem_toArray, List.getElem_cons_zero, List.getElem_cons_succ, Act.put, List.setIfInBounds_toArray, List.set_cons_zero, List.set_cons_succ]
                refine wpAnyH_done (by kernel_rfl) ?_ _
                generalize hbb : (y.1 == x0 && (y.2.1 == x1 && (y.2.2.1 == x2 && (y.2.2.2 == x3)))) = bb
                cases bb with
                | true =>
                  have he : acc[k] = (x0, x1, x2, x3) := by
                    rw [hyk]
                    simp only [Bool.and_eq_true, beq_iff_eq] at hbb
                    obtain ⟨h0, h1, h2, h3⟩ := hbb
                    obtain ⟨_, _, _, _⟩ := y
                    dsimp only at h0 h1 h2 h3
                    rw [h0, h1, h2, h3]
                  clear hbb
                  have HIT := Aside0.mk (HIN.out.hit c2 he)
                  go_wp2_with (first
                    | (go_at_call 59; refine HIT.out.mono ?_; rintro xx w9 ⟨rfl, hin, hq2⟩; have n3_ := Aside0.mk (H8.out.kept (hq2.2 g8 H8.out.lt (by have := HG8.out; have := GLT.out; omega))); have n1_ := Aside0.mk (HO.out.trans hq2); have n2_ := Aside0.mk (own_kept HROW.out (fun k hk => hq2.2 k (own_lt HROW.out k hk) (by have := own_base HROW.out k hk; have := GLT.out; omega))); clear HO HROW hq2; have HO := n1_; have HROW := n2_; clear n1_ n2_; clear H8 HIN HIT; have H8 := n3_; have HIN := Aside0.mk hin; clear n3_ hin))
                  go_roundw
                  case measure => simp [intOf]; omega
                  case rel => first | exact ⟨k + 1, by go_num, by omega, HO, HROW, H8, HIN⟩ | exact ⟨k + 1, by go_num, by omega, HROW, HIN⟩ | exact ⟨k + 1, by go_num, by omega, HIN⟩
                | false =>
                  have he : acc[k] ≠ (x0, x1, x2, x3) := by
                    rw [hyk]
                    intro h
                    rw [h] at hbb
                    simp at hbb
                  clear hbb
                  have n4_ := Aside0.mk (HIN.out.skip c2 he)
                  clear HIN
                  have HIN := n4_
                  clear n4_
                  go_wp2
                  go_roundw
                  case measure => simp [intOf]; omega
                  case rel => first | exact ⟨k + 1, by go_num, by omega, HO, HROW, H8, HIN⟩ | exact ⟨k + 1, by go_num, by omega, HROW, HIN⟩ | exact ⟨k + 1, by go_num, by omega, HIN⟩
              · have b2 : decide ((k : Int) < (acc.length : Int)) = false := decide_eq_false (by omega)
                obtain rfl : k = acc.length := by omega
                have q0 := (H8.out.cell 0).trans (show _ = some (.int .u64 x0) from rfl)
                have q1 := (H8.out.cell 1).trans (show _ = some (.int .u64 x1) from rfl)
                have q2 := (H8.out.cell 2).trans (show _ = some (.int .u64 x2) from rfl)
                have q3 := (H8.out.cell 3).trans (show _ = some (.int .u64 x3) from rfl)
                go_wp2_with (first
                  | ((with_reducible refine gate_builtin (b := .append) (xs := #[.tmp 51, .tmp 53]) rfl ?_); at_builtin; refine print_append_cells w.heap.size rfl (.tmp 51) (.tmp 53) 85 76 (.agg #[.int .u64 0, .int .u64 0, .int .u64 0, .int .u64 0]) 4 32 rfl Try.underlying85 (by kernel_rfl) rfl (by decide) (by decide) (.slice A5 acc.length c5) acc.length (acc.flatMap clsCells) (clsCells (x0, x1, x2, x3)) rfl rfl rfl (by simp [clsCells, Value.oneCell']) HROW.out (Below.refl _ _) (HO.out.1) (by have := HAQ.out; have := HNB.out; omega) ?_; intro v9 w9 hown hbel hgr hat; have n1_ := Aside0.mk (HO.out.through hgr (fun k hk => own_base HROW.out k hk)); have n2_ := Aside0.mk (show w9.ownsRow w.heap.size 76 4 v9 (acc ++ [(x0, x1, x2, x3)]).length ((acc ++ [(x0, x1, x2, x3)]).flatMap clsCells) by rw [List.length_append, List.flatMap_append]; simpa using hown); have n3_ := Aside0.mk (InSt.grown HIN.out hgr (fun k hk => by have := own_base HROW.out k hk; have := GLT.out; have := GGE.out; omega)); clear HO HROW HIN hown hgr hat hbel q0 q1 q2 q3; have HO := n1_; have HROW := n2_; have HIN := n3_; clear n1_ n2_ n3_))
                go_roundw
                case measure => simp [intOf]; omega
                case rel =>
                  refine ⟨q + 1, acc ++ [(x0, x1, x2, x3)], by go_num, ⟨by rw [List.length_append, List.length_singleton]; have := HAQ.out; omega⟩, HO, HROW, ⟨?_⟩⟩
                  have hres := HRES.out
                  have hl := HLEN.out
                  rw [classesL, hl] at hres
                  rcases HIN.out with ⟨i1, i2, i3, i4⟩ | ⟨i1, i2, i3, i4⟩ | ⟨i1, j, i2⟩
                  · rw [List.take_length] at i3
                    rw [if_neg (by omega), ← i2, if_neg i3] at hres
                    exact .inl ⟨_, i4, by rw [← hres, List.drop_drop]⟩
                  · rw [List.take_length] at i3
                    rw [if_neg (by omega), ← i2, if_pos i3] at hres
                    exact .inr ⟨(at_, 204), _, i4, by simp, by rw [← hres]; congr 2; omega⟩
                  · rw [if_pos (by omega)] at hres
                    exact .inr ⟨(e, 200), _, i2, by simp, hres.symm⟩
          · have b1 : decide ((q : Int) < (n : Int)) = false := decide_eq_false (by omega)
            rw [show n - q = 0 by omega, classesL] at hres
            go_wp2
            go_ret
            subst hres
            exact ⟨_, acc, rfl, HROW.out, ⟨_, H.out, rfl⟩, HO.out, (fun S r h => by injection h with h; injection h)⟩
        · have HF := Aside0.mk (show (f.2 == 0) = false by simpa using hf)
          have H := Aside0.mk hrs
          clear hcase hrs hf
          by_cases c1 : q < n
          · have b1 : decide ((q : Int) < (n : Int)) = true := decide_eq_true (by omega)
            go_wp2_with (first
              | (go_at_call 60; refine (rok_same w0 _ g b _ e _ _ false H.out HF.out).mono ?_; rintro xx w8 ⟨rfl, hq1, hq2⟩; have n1_ := Aside0.mk hq1; clear H hq1; have H := n1_; clear n1_; have n1_ := Aside0.mk (HO.out.trans hq2); have n2_ := Aside0.mk (own_kept HROW.out (fun k hk => hq2.2 k (own_lt HROW.out k hk) (by have := own_base HROW.out k hk; have := GLT.out; omega))); clear HO HROW hq2; have HO := n1_; have HROW := n2_; clear n1_ n2_))
            go_ret
            exact ⟨_, acc, rfl, HROW.out, ⟨_, by simpa using HF.out, H.out⟩, HO.out, (fun _ _ h => by cases h)⟩
          · have b1 : decide ((q : Int) < (n : Int)) = false := decide_eq_false (by omega)
            go_wp2
            go_ret
            exact ⟨_, acc, rfl, HROW.out, ⟨_, by simpa using HF.out, H.out⟩, HO.out, (fun _ _ h => by cases h)⟩
end
end Go.Proofs.Ytebiogaacikphaa.Pack
end
section
namespace Go.Proofs.Ytebiogaacikphaa.PAll
open Go.RowKit Go.Proofs.YtebiogaacikphaaW.PrintWords Go.Proofs.YtebiogaacikphaaW.PrintLast Go.Proofs.YtebiogaacikphaaW.PrintMore
set_option linter.unusedVariables false
set_option linter.unusedSimpArgs false
theorem eqA78 (d : Nat) (w : World) (x0 y0 : Int) (x1 y1 : Int) (x2 y2 : Int) (x3 y3 : Int) (x4 y4 : Int) (x5 y5 : Int) (x6 y6 : ByteArray) :
    (Op.equalIn (d + 3) 78 (.agg #[.int .i64 x0, .int .i64 x1, .int .u64 x2, .int .u64 x3, .int .u64 x4, .int .u64 x5, .string x6]) (.agg #[.int .i64 y0, .int .i64 y1, .int .u64 y2, .int .u64 y3, .int .u64 y4, .int .u64 y5, .string y6])).run Try.prog w = .ok (x0 == y0 && (x1 == y1 && ((x2 == y2 && (x3 == y3 && (x4 == y4 && (x5 == y5)))) && (x6.toList == y6.toList)))) w := by
  refine eqA_of Try.underlying78 (by kernel_rfl) ?_
  refine eqf_cons (by rfl) (by go_simp; rfl) (by go_simp; rfl) (by go_simp) ?_
  refine eqf_cons (by rfl) (by go_simp; rfl) (by go_simp; rfl) (by go_simp) ?_
  refine eqf_cons (by rfl) (by go_simp) (by go_simp) (eqA76 (d + 0) w _ _ _ _ _ _ _ _) ?_
  exact eqf_last (by rfl) (by go_simp; rfl) (by go_simp; rfl) (by go_simp)
end Go.Proofs.Ytebiogaacikphaa.PAll
end
