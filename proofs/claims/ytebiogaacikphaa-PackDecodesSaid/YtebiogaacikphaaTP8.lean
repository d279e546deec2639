/- Parts of the proof of packForged and packDecodes and Pack and Pack and Pack: PackProgram, PackProgramWalk, PAllx1, PAllx3, PAllx6, PAllx17, PAllx18. -/
import Derived.Test.YtebiogaacikphaaTP2
import Derived.Test.YtebiogaacikphaaTP5
import Derived.Test.YtebiogaacikphaaTP7
section
namespace Go.Proofs.Ytebiogaacikphaa.Pack
open Go.RowKit Go.Proofs.YtebiogaacikphaaW.PrintWords Go.Proofs.Ytebiogaacikphaa.PAll
set_option linter.unusedVariables false
set_option linter.unusedSimpArgs false
set_option linter.unnecessarySimpa false
abbrev Ins := S78
def zIns : Ins := z78
/-- What kind, operand and the tables come to; and how many classes and names were seen. -/
def putL (op : Int) (i n size kc kn : Nat) (S : List Four) (T : List ByteArray) : Option (Ins × Nat × Nat) :=
  if kindOf op = 1 then (if 0 ≤ toOf i n ∧ toOf i n < size then some ({ zIns with f0 := op, f1 := toOf i n }, kc, kn) else none)
  else if kindOf op = 2 then (if n ≤ kc then (match S[n]? with | some y => some ({ zIns with f0 := op, f2 := ⟨y.1, y.2.1, y.2.2.1, y.2.2.2⟩ }, max kc (n + 1), kn) | none => none) else none)
  else if kindOf op = 3 then (if n ≤ kn then (match T[n]? with | some y => some ({ zIns with f0 := op, f3 := y }, kc, max kn (n + 1)) | none => none) else none)
  else (if n = 0 then some ({ zIns with f0 := op }, kc, kn) else none)
/-- The operand's number behind the first byte. -/
def numL (e : Nat) (x : Int) (r : List Int) : Except (Int × Int) (Nat × List Int) :=
  if x / 16 = 15 then (match cntL e (e - r.length) 0 0 r with | .error f => .error f | .ok (c, r') => .ok (15 + c.toNat, r')) else .ok ((x / 16).toNat, r)
def insL (e size : Nat) (S : List Four) (T : List ByteArray) : Nat → Nat → Nat → Nat → List Ins → List Int → Except (Int × Int) (List Ins × Nat × Nat × List Int)
  | 0, _, kc, kn, acc, l => .ok (acc, kc, kn, l)
  | d + 1, i, kc, kn, acc, [] => .error (e, 200)
  | d + 1, i, kc, kn, acc, x :: r => match numL e x r with
    | .error f => .error f
    | .ok (n, r') => match putL (x % 16) i n size kc kn S T with
      | none => .error ((e - (r.length + 1) : Nat), 204)
      | some (y, kc', kn') => insL e size S T d (i + 1) kc' kn' (acc ++ [y]) r'
def programL (e : Nat) (S : List Four) (T : List ByteArray) (l : List Int) : Except (Int × Int) (List Ins × Nat × Nat × List Int) := match manyL e (e - l.length) l with
  | .error f => .error f
  | .ok (n, r) => if n = 0 then .error ((e - l.length : Nat), 204) else insL e n.toNat S T n.toNat 0 0 0 [] r
section
variable {base : Nat} {W W' : World} {gu : Nat} {vc vn vs vt : Value} {kc kn : Nat} {S : List Four} {T : List ByteArray}
theorem US.kept (h : US base W gu vc vn vs vt kc kn S T) (hk : ∀ q, q < W.heap.size → (q = gu ∨ vc.ownBlock = some q ∨ vn.ownBlock = some q ∨ vs.ownBlock = some q ∨ vt.ownBlock = some q) → W'.heap[q]? = W.heap[q]?) : US base W' gu vc vn vs vt kc kn S T := by
  obtain ⟨xs, h1⟩ := h.c
  obtain ⟨ys, h2⟩ := h.n
  exact ⟨h.row.kept (hk gu h.row.lt (.inl rfl)), ⟨xs, own_kept h1 (fun k e => hk k (own_lt h1 k e) (.inr (.inl e)))⟩, ⟨ys, own_kept h2 (fun k e => hk k (own_lt h2 k e) (.inr (.inr (.inl e))))⟩, own_kept h.s (fun k e => hk k (own_lt h.s k e) (.inr (.inr (.inr (.inl e))))), own_kept h.t (fun k e => hk k (own_lt h.t k e) (.inr (.inr (.inr (.inr e))))), h.ge, h.off, h.c_, h.n_⟩
end
/-- put, whatever the operand. -/
theorem put_any (base : Nat) (w : World) (gu gx : Nat) (i n size : Nat) (op : Int) (vc vn vs vt : Value) (kc kn : Nat) (S : List Four) (T : List ByteArray) (hu : US base w gu vc vn vs vt kc kn S T) (hx : RowAt w gx 78 (insCells { zIns with f0 := op })) (hi : i ≤ 65536) (hn : n ≤ 4294967296) (hS : S.length ≤ 65536) (hT : T.length ≤ 65536) (hgx : gx ≠ gu ∧ vc.ownBlock ≠ some gx ∧ vn.ownBlock ≠ some gx ∧ vs.ownBlock ≠ some gx ∧ vt.ownBlock ≠ some gx) :
    Calls Try.prog 91 #[.pointer (some ⟨gu, 0, none⟩), .pointer (some ⟨gx, 0, none⟩), .int .i64 i, .int .i64 n, .int .i64 size] w fun r w' => ∃ y kc' kn' vc' vn', r = .returned (.bool (putL op i n size kc kn S T).isSome) ∧ US base w' gu vc' vn' vs vt kc' kn' S T ∧ RowAt w' gx 78 (insCells y) ∧ (∀ z, putL op i n size kc kn S T = some z → z = (y, kc', kn')) ∧ But (fun q => q = gu ∨ q = gx ∨ some q = vc.ownBlock ∨ some q = vn.ownBlock) w w' ∧ (vc'.ownBlock = vc.ownBlock ∨ ∃ q, vc'.ownBlock = some q ∧ w.heap.size ≤ q) ∧ (vn'.ownBlock = vn.ownBlock ∨ ∃ q, vn'.ownBlock = some q ∧ w.heap.size ≤ q) := by
  unfold putL
  by_cases k1 : kindOf op = 1
  · rw [if_pos k1]
    refine (put_place w gu gx i n size { zIns with f0 := op } hx k1 hi hn).mono fun r w' ⟨hr, hx', ho⟩ => ?_
    refine ⟨{ zIns with f0 := op, f1 := toOf i n }, kc, kn, vc, vn, ?_, hu.kept (fun q hq h => ho.block q hq (fun e => ?_)), hx', fun z hz => ?_, (But.refl _ _).trans ho (fun j _ h => .inr (.inl h)), .inl rfl, .inl rfl⟩
    · rw [hr]
      by_cases h : 0 ≤ toOf i n ∧ toOf i n < (size : Int)
      · rw [if_pos h, decide_eq_true h.1, decide_eq_true h.2]; rfl
      · rw [if_neg h]
        by_cases h0 : 0 ≤ toOf i n
        · rw [decide_eq_false (fun h1 => h ⟨h0, h1⟩), Bool.and_false]; rfl
        · rw [decide_eq_false h0]; rfl
    · subst e
      rcases h with h | h | h | h | h
      · exact hgx.1 h
      · exact hgx.2.1 h
      · exact hgx.2.2.1 h
      · exact hgx.2.2.2.1 h
      · exact hgx.2.2.2.2 h
    · split at hz
      · injection hz with hz; exact hz.symm
      · cases hz
  rw [if_neg k1]
  by_cases k2 : kindOf op = 2
  · rw [if_pos k2]
    by_cases hk : n ≤ kc
    · rw [if_pos hk]
      cases hy : S[n]? with
      | none =>
        refine (put_set_no base w gu gx i n size { zIns with f0 := op } vc vn vs vt kc kn S T hu hx k2 (.inr (by simpa using hy))).mono fun r w' ⟨hr, hb⟩ => ?_
        exact ⟨{ zIns with f0 := op }, kc, kn, vc, vn, hr, hu.below hb, hx.below hb, (fun z hz => by cases hz), But.of_below hb, .inl rfl, .inl rfl⟩
      | some y =>
        refine (put_set_yes base w gu gx i n size { zIns with f0 := op } vc vn vs vt kc kn S T hu hx k2 hk hS y hy hgx).mono fun r w' ⟨hr, v', hu', hx', hq, hat⟩ => ?_
        exact ⟨_, _, kn, v', vn, hr, hu', hx', (fun z hz => by injection hz with hz; exact hz.symm), (But.refl _ _).trans hq (fun j _ h => h.elim .inl (fun h => .inr (h.elim .inl (fun h => .inr (.inl h))))), hat, .inl rfl⟩
    · rw [if_neg hk]
      refine (put_set_no base w gu gx i n size { zIns with f0 := op } vc vn vs vt kc kn S T hu hx k2 (.inl (by omega))).mono fun r w' ⟨hr, hb⟩ => ?_
      exact ⟨{ zIns with f0 := op }, kc, kn, vc, vn, hr, hu.below hb, hx.below hb, (fun z hz => by cases hz), But.of_below hb, .inl rfl, .inl rfl⟩
  rw [if_neg k2]
  by_cases k3 : kindOf op = 3
  · rw [if_pos k3]
    by_cases hk : n ≤ kn
    · rw [if_pos hk]
      cases hy : T[n]? with
      | none =>
        refine (put_name_no base w gu gx i n size { zIns with f0 := op } vc vn vs vt kc kn S T hu hx k3 (.inr (by simpa using hy))).mono fun r w' ⟨hr, hb⟩ => ?_
        exact ⟨{ zIns with f0 := op }, kc, kn, vc, vn, hr, hu.below hb, hx.below hb, (fun z hz => by cases hz), But.of_below hb, .inl rfl, .inl rfl⟩
      | some y =>
        refine (put_name_yes base w gu gx i n size { zIns with f0 := op } vc vn vs vt kc kn S T hu hx k3 hk hT y hy hgx).mono fun r w' ⟨hr, v', hu', hx', hq, hat⟩ => ?_
        exact ⟨_, kc, _, vc, v', hr, hu', hx', (fun z hz => by injection hz with hz; exact hz.symm), (But.refl _ _).trans hq (fun j _ h => h.elim .inl (fun h => .inr (h.elim .inl (fun h => .inr (.inr h))))), .inl rfl, hat⟩
    · rw [if_neg hk]
      refine (put_name_no base w gu gx i n size { zIns with f0 := op } vc vn vs vt kc kn S T hu hx k3 (.inl (by omega))).mono fun r w' ⟨hr, hb⟩ => ?_
      exact ⟨{ zIns with f0 := op }, kc, kn, vc, vn, hr, hu.below hb, hx.below hb, (fun z hz => by cases hz), But.of_below hb, .inl rfl, .inl rfl⟩
  rw [if_neg k3]
  have k0 : kindOf op = 0 := by
    revert k1 k2 k3; unfold kindOf
    split
    · intro h; exact absurd rfl h
    · split
      · intro _ h; exact absurd rfl h
      · split
        · intro _ _ h; exact absurd rfl h
        · intro _ _ _; rfl
  refine (put_none w gu gx op i n size { zIns with f0 := op } hx k0).mono fun r w' ⟨hr, hb⟩ => ?_
  refine ⟨{ zIns with f0 := op }, kc, kn, vc, vn, ?_, hu.below hb, hx.below hb, (fun z hz => ?_), But.of_below hb, .inl rfl, .inl rfl⟩
  · rw [hr]
    by_cases h : n = 0
    · subst h; rfl
    · rw [if_neg h]
      have : ((n : Int) == 0) = false := by simp; omega
      rw [this]; rfl
  · split at hz
    · injection hz with hz; exact hz.symm
    · cases hz
/-- All but two blocks are as they were. -/
def OnlyTwo (w W : World) (g gu : Nat) : Prop := w.heap.size ≤ W.heap.size ∧ ∀ j, j < w.heap.size → j ≠ g → j ≠ gu → W.heap[j]? = w.heap[j]?
theorem OnlyTwo.refl (w : World) (g gu : Nat) : OnlyTwo w w g gu := ⟨Nat.le_refl _, fun _ _ _ _ => rfl⟩
theorem OnlyTwo.then_ {w W W' : World} {g gu : Nat} (h : OnlyTwo w W g gu) (hs : W.heap.size ≤ W'.heap.size) (hk : ∀ q, q < w.heap.size → q ≠ g → q ≠ gu → W'.heap[q]? = W.heap[q]?) : OnlyTwo w W' g gu :=
  ⟨Nat.le_trans h.1 hs, fun j hj h1 h2 => (hk j hj h1 h2).trans (h.2 j hj h1 h2)⟩
/-- What the rounds of program keep. -/
structure PI (w0 w W : World) (g gu : Nat) (vc vn vs vt v : Value) (kc kn : Nat) (S : List Four) (T : List ByteArray) (acc : List Ins) : Prop where
  us : US w0.heap.size W gu vc vn vs vt kc kn S T
  size : w.heap.size ≤ W.heap.size
  row : W.ownsRow w.heap.size 78 7 v acc.length (acc.flatMap insCells)
  cb : ∀ k, vc.ownBlock = some k → w.heap.size ≤ k
  nb : ∀ k, vn.ownBlock = some k → w.heap.size ≤ k
  sb : ∀ k, vs.ownBlock = some k → k < w.heap.size ∧ k ≠ g
  tb : ∀ k, vt.ownBlock = some k → k < w.heap.size ∧ k ≠ g
  sep : ∀ k, v.ownBlock = some k → vc.ownBlock ≠ some k ∧ vn.ownBlock ≠ some k
  glt : g < w.heap.size
  gult : gu < w.heap.size
  gne : gu ≠ g
  fr : OnlyTwo w W g gu
section
variable {w0 w W W' : World} {g gu : Nat} {vc vn vs vt v : Value} {kc kn : Nat} {S : List Four} {T : List ByteArray} {acc : List Ins}
theorem PI.kept (h : PI w0 w W g gu vc vn vs vt v kc kn S T acc) (hs : W.heap.size ≤ W'.heap.size) (hk : ∀ q, q < W.heap.size → q ≠ g → W'.heap[q]? = W.heap[q]?) : PI w0 w W' g gu vc vn vs vt v kc kn S T acc := by
  have hg := h.glt
  refine ⟨h.us.kept (fun q hq hor => hk q hq (fun e => ?_)), Nat.le_trans h.size hs, own_kept h.row (fun k e => hk k (own_lt h.row k e) (by have := own_base h.row k e; omega)), h.cb, h.nb, h.sb, h.tb, h.sep, h.glt, h.gult, h.gne, h.fr.then_ hs (fun q h1 h2 _ => hk q (by have := h.size; omega) h2)⟩
  subst e
  rcases hor with e | e | e | e | e
  · exact h.gne e.symm
  · have := h.cb q e; omega
  · have := h.nb q e; omega
  · exact (h.sb q e).2 rfl
  · exact (h.tb q e).2 rfl
theorem PI.below (h : PI w0 w W g gu vc vn vs vt v kc kn S T acc) (hb : Below W.heap.size W W') : PI w0 w W' g gu vc vn vs vt v kc kn S T acc := h.kept hb.size (fun q hq _ => hb.block q hq)
theorem PI.step (h : PI w0 w W g gu vc vn vs vt v kc kn S T acc) (ho : Only W W' g) : PI w0 w W' g gu vc vn vs vt v kc kn S T acc := h.kept ho.1 (fun q hq hne => ho.2 q hq hne)
/-- An operand was put into the block gx, that is new. -/
theorem PI.put (h : PI w0 w W g gu vc vn vs vt v kc kn S T acc) {gx kc' kn' : Nat} {vc' vn' : Value} (hx : w.heap.size ≤ gx) (hxv : v.ownBlock ≠ some gx) (hu : US w0.heap.size W' gu vc' vn' vs vt kc' kn' S T) (hb : But (fun q => q = gu ∨ q = gx ∨ some q = vc.ownBlock ∨ some q = vn.ownBlock) W W') (hc : vc'.ownBlock = vc.ownBlock ∨ ∃ q, vc'.ownBlock = some q ∧ W.heap.size ≤ q) (hn : vn'.ownBlock = vn.ownBlock ∨ ∃ q, vn'.ownBlock = some q ∧ W.heap.size ≤ q) : PI w0 w W' g gu vc' vn' vs vt v kc' kn' S T acc := by
  have hs := h.size
  have hgu := h.gult
  refine ⟨hu, Nat.le_trans h.size hb.size, own_kept h.row (fun k e => hb.block k (own_lt h.row k e) ?_), fun k e => ?_, fun k e => ?_, h.sb, h.tb, fun k e => ⟨fun e' => ?_, fun e' => ?_⟩, h.glt, h.gult, h.gne, h.fr.then_ hb.size (fun q h1 h2 h3 => hb.block q (by omega) (by rintro (e | e | e | e); exact h3 e; omega; have := h.cb q e.symm; omega; have := h.nb q e.symm; omega))⟩
  · have := own_base h.row k e
    rintro (h1 | h1 | h1 | h1)
    · omega
    · exact hxv (h1 ▸ e)
    · exact (h.sep k e).1 h1.symm
    · exact (h.sep k e).2 h1.symm
  · rcases hc with hc | ⟨q, hc, hq⟩
    · exact h.cb k (hc ▸ e)
    · rw [hc] at e; injection e with e; omega
  · rcases hn with hc | ⟨q, hc, hq⟩
    · exact h.nb k (hc ▸ e)
    · rw [hc] at e; injection e with e; omega
  · rcases hc with hc | ⟨q, hc, hq⟩
    · exact (h.sep k e).1 (hc ▸ e')
    · rw [hc] at e'; injection e' with e'; have := own_lt h.row k e; omega
  · rcases hn with hc | ⟨q, hc, hq⟩
    · exact (h.sep k e).2 (hc ▸ e')
    · rw [hc] at e'; injection e' with e'; have := own_lt h.row k e; omega
/-- The list is grown. -/
theorem PI.append (h : PI w0 w W g gu vc vn vs vt v kc kn S T acc) {v' : Value} {y : Ins} (ho : W'.ownsRow w.heap.size 78 7 v' (acc.length + 1) (acc.flatMap insCells ++ insCells y)) (hg : W.grownBy W' v.ownBlock) (hat : v'.ownBlock = v.ownBlock ∨ ∃ q, v'.ownBlock = some q ∧ W.heap.size ≤ q) : PI w0 w W' g gu vc vn vs vt v' kc kn S T (acc ++ [y]) := by
  have hs := h.size
  have hbase : ∀ k, v.ownBlock = some k → w.heap.size ≤ k := fun k hk => own_base h.row k hk
  refine ⟨h.us.kept (fun q hq hor => hg.block q hq (fun e => ?_)), Nat.le_trans h.size hg.size, ?_, h.cb, h.nb, h.sb, h.tb, ?_, h.glt, h.gult, h.gne, h.fr.then_ hg.size (fun q h1 _ _ => hg.block q (by omega) (fun e => by have := hbase q e.symm; omega))⟩
  · have h1 := hbase q e.symm
    have h2 := h.gult
    rcases hor with e2 | e2 | e2 | e2 | e2
    · omega
    · exact (h.sep q e.symm).1 e2
    · exact (h.sep q e.symm).2 e2
    · have := (h.sb q e2).1; omega
    · have := (h.tb q e2).1; omega
  · rw [List.length_append, List.flatMap_append]
    simpa using ho
  · rcases hat with hat | ⟨q, hat, hq⟩
    · rw [hat]
      exact h.sep
    · intro k hk
      rw [hat] at hk
      injection hk with hk
      obtain ⟨_, h1⟩ := h.us.c
      obtain ⟨_, h2⟩ := h.us.n
      exact ⟨fun e => by have := own_lt h1 k e; omega, fun e => by have := own_lt h2 k e; omega⟩
/-- The reader, while an operand is put. -/
theorem RS.but {A : Option Addr} {c : Nat} {b : List Int} {i e : Nat} {fa fc : Int} (h : RS w0 W g A c b i e fa fc) {P : Nat → Prop} (hb : But P W W') (hp : ∀ j, P j → w0.heap.size ≤ j ∧ j ≠ g) : RS w0 W' g A c b i e fa fc :=
  ⟨(hb.block _ (blk_lt h.box) (fun e => (hp g e).2 rfl)).trans h.box, h.ge, h.rd, h.cap, h.len, h.e_, h.at_, But.below h.old h.old.size hb (fun j hj => (hp j hj).1)⟩
end
theorem byte_hi (x : Int) (h : 0 ≤ x ∧ x < 256) : IntKind.u8.wrap (x / 16) = x / 16 ∧ IntKind.i64.wrap (x / 16) = x / 16 := ⟨IntWalk.u8_in _ (by omega), IntWalk.i64_in _ (by omega)⟩
theorem byte_lo (x : Int) (h : 0 ≤ x ∧ x < 256) : Go.bits .and .u8 x 15 = x % 16 := by
  obtain ⟨y, rfl⟩ := Int.eq_ofNat_of_zero_le h.1
  have := Bits.bits_and .u8 rfl y 15 (by show _ < 2 ^ 8; omega) (by decide)
  rw [show ((15 : Nat) : Int) = 15 from rfl] at this
  rw [this, show y &&& 15 = y % 16 from Nat.and_two_pow_sub_one_eq_mod y 4]
  omega
end Go.Proofs.Ytebiogaacikphaa.Pack
end
section
namespace Go.Proofs.Ytebiogaacikphaa.Pack
open Go.RowKit Go.Proofs.YtebiogaacikphaaW.PrintWords Go.Proofs.Ytebiogaacikphaa.PAll
set_option linter.unusedVariables false
set_option linter.unusedSimpArgs false
set_option linter.unnecessarySimpa false
section
variable {w0 w W W' : World} {g gu : Nat} {vc vn vs vt v : Value} {kc kn : Nat} {S : List Four} {T : List ByteArray} {acc : List Ins}
/-- A block that is new is none of these. -/
theorem PI.fresh (h : PI w0 w W g gu vc vn vs vt v kc kn S T acc) {gx : Nat} (hx : gx = W.heap.size) : gx ≠ gu ∧ vc.ownBlock ≠ some gx ∧ vn.ownBlock ≠ some gx ∧ vs.ownBlock ≠ some gx ∧ vt.ownBlock ≠ some gx := by
  have h1 := h.gult
  have h2 := h.size
  obtain ⟨_, hc⟩ := h.us.c
  obtain ⟨_, hn⟩ := h.us.n
  exact ⟨by omega, fun e => by have := own_lt hc gx e; omega, fun e => by have := own_lt hn gx e; omega, fun e => by have := (h.sb gx e).1; omega, fun e => by have := (h.tb gx e).1; omega⟩
theorem PI.grownX (h : PI w0 w W g gu vc vn vs vt v kc kn S T acc) {gx : Nat} (hx : w.heap.size ≤ gx) (hxv : v.ownBlock ≠ some gx) (hf : gx ≠ gu ∧ vc.ownBlock ≠ some gx ∧ vn.ownBlock ≠ some gx ∧ vs.ownBlock ≠ some gx ∧ vt.ownBlock ≠ some gx) (hg : W.grownBy W' (some gx)) : PI w0 w W' g gu vc vn vs vt v kc kn S T acc :=
  h.put hx hxv (h.us.grown hg (fun k hk => by injection hk with hk; subst hk; exact hf)) (But.of_grown hg (fun k hk _ => by injection hk with hk; exact .inr (.inl hk.symm))) (.inl rfl) (.inl rfl)
theorem PI.putFar (h : PI w0 w W g gu vc vn vs vt v kc kn S T acc) {gx : Nat} (hx : w.heap.size ≤ gx) (hw : w0.heap.size ≤ w.heap.size) : ∀ j, (j = gu ∨ j = gx ∨ some j = vc.ownBlock ∨ some j = vn.ownBlock) → w0.heap.size ≤ j ∧ j ≠ g := by
  have h1 := h.glt
  rintro j (e | e | e | e)
  · exact ⟨by have := h.us.ge; omega, by have := h.gne; omega⟩
  · omega
  · have := h.cb j e.symm; omega
  · have := h.nb j e.symm; omega
end
theorem cntL_le (e fr : Nat) : ∀ (l : List Int) (k : Nat) (n v : Int) (r : List Int), cntL e fr k n l = .ok (v, r) → v ≤ 2147483647
  | [], _, _, _, _, h => by cases h
  | x :: l, k, n, v, r, h => by
    rw [cntL] at h
    split at h
    · exact cntL_le e fr l _ _ v r h
    · generalize (if k < 5 then n + x % 128 * 128 ^ k else n) = u at h
      by_cases h2 : 4 < k ∨ (x = 0 ∧ 0 < k) ∨ 2147483647 < u
      · rw [if_pos h2] at h; cases h
      · rw [if_neg h2] at h
        injection h with h
        injection h with h h3
        rw [← h]
        exact Int.not_lt.1 (fun h4 => h2 (.inr (.inr h4)))
section
variable (w0 w : World) (g : Nat) (A : Option Addr) (c : Nat) (b : List Int) (i e : Nat)
set_option maxHeartbeats 4000000 in
set_option maxRecDepth 100000 in
theorem program_ok (gu : Nat) (vs vt : Value) (S : List Four) (T : List ByteArray) (h : RS w0 w g A c b i e 0 0) (hby : ∀ x ∈ b, 0 ≤ x ∧ x < 256) (hpi : PI w0 w w g gu (.slice none 0 0) (.slice none 0 0) vs vt (.slice none 0 0) 0 0 S T []) (hst : S.length ≤ 65536 ∧ T.length ≤ 65536) (res : Except (Int × Int) (List Ins × Nat × Nat × List Int)) (hres : programL e S T ((b.take e).drop i) = res) :
    Calls Try.prog 53 #[.pointer (some ⟨g, 0, none⟩), .pointer (some ⟨gu, 0, none⟩)] w fun x w' => ∃ v, x = .returned v ∧ St w0 w' g A c b e (res.map (·.2.2.2)) ∧ OnlyTwo w w' g gu ∧ (∀ acc kc kn r, res = .ok (acc, kc, kn, r) → ∃ vc vn, PI w0 w w' g gu vc vn vs vt v kc kn S T acc) := by
  have HMA := Aside0.mk (many_ok w0 w g A c b i e h hby)
  have HY := Aside0.mk hby
  have HST := Aside0.mk hst
  have HW0 := Aside0.mk (show w0.heap.size ≤ w.heap.size from Nat.le_trans h.ge (Nat.le_of_lt h.lt))
  have hlen0 : ((b.take e).drop i).length = e - i := by have := h.e_; rw [List.length_drop, List.length_take]; omega
  have hat0 := h.at_
  have H := Aside0.mk h
  have HI := Aside0.mk hpi
  have h1 := h.c1
  clear h hby hpi hst
  have HMB := Aside0.mk (fun n r => manyL_range (e := e) (fr := i) (l := (b.take e).drop i) (n := n) (r := r) (fun x hx => HY.out x (List.mem_of_mem_take (List.mem_of_mem_drop hx))))
  rw [programL, hlen0, show e - (e - i) = i by omega] at hres
  clear hlen0
  generalize manyL e i ((b.take e).drop i) = m at *
  match m with
  | .error f =>
    go_enter Try.func53, Try.ntmps53
    go_wp2_with (first
      | (go_at_call 87; refine HMA.out.mono ?_; rintro xx w1 ⟨v, rfl, hq1, hq2, hq3, hq4⟩; obtain rfl := hq4 f rfl; obtain ⟨j, hf, hrs⟩ := hq1; have HF := Aside0.mk (show (f.2 != 0) = true by simpa using hf); clear H h1; have H := Aside0.mk hrs; have HO := Aside0.mk hq2; clear hq2 hq3 hq4 hrs hf)
      | (go_at_call 54; refine (bad_same w0 _ g A c b _ e _ _ true H.out HF.out).mono ?_; rintro xx w8 ⟨rfl, rfl⟩))
    refine wp_loop_once ?_
    go_wp2
    go_ret
    subst hres
    exact ⟨_, rfl, ⟨j, by simpa using HF.out, H.out⟩, (HI.out.step HO.out).fr, (fun _ _ _ _ h => by cases h)⟩
  | .ok (n, r) =>
    obtain ⟨n, hn⟩ := Int.eq_ofNat_of_zero_le (HMB.out n r rfl).1
    subst hn
    have HNB := Aside0.mk (show n ≤ 65536 by have := (HMB.out _ r rfl).2; omega)
    by_cases n0 : n = 0
    · subst n0
      go_enter Try.func53, Try.ntmps53
      go_wp2_with (first
        | (go_at_call 87; refine HMA.out.mono ?_; rintro xx w1 ⟨v, rfl, hq1, hq2, hq3, hq4⟩; obtain rfl := (hq3 _ r rfl).symm; obtain ⟨j, hrs, hr⟩ := hq1; clear H h1; have H := Aside0.mk hrs; have HO := Aside0.mk hq2; clear hq2 hq3 hq4 hrs hr)
        | (go_at_call 54; refine (bad_same w0 _ g A c b _ e 0 0 false H.out rfl).mono ?_; rintro xx w8 ⟨rfl, rfl⟩)
        | (go_at_call 55; refine (fail_ok w0 _ g A c b _ e _ _ H.out).mono ?_; rintro xx w8 ⟨rfl, hq1, hq2⟩; have n1_ := Aside0.mk hq1; have n2_ := Aside0.mk (HO.out.trans hq2); clear H HO hq1 hq2; have H := n1_; have HO := n2_; clear n1_ n2_))
      refine wp_loop_once ?_
      go_wp2
      go_ret
      subst hres
      exact ⟨_, rfl, ⟨_, by simp, H.out⟩, (HI.out.step HO.out).fr, (fun _ _ _ _ h => by cases h)⟩
    · have HN0 : ((n : Int) == 0) = false := by simpa using n0
      have HRES := Aside0.mk (show insL e n S T n 0 0 0 [] r = res by dsimp only at hres; rw [if_neg (by omega), Int.toNat_natCast] at hres; exact hres)
      clear hres n0
      go_enter Try.func53, Try.ntmps53
      go_wp2_with (first
        | (go_at_call 87; refine HMA.out.mono ?_; rintro xx w1 ⟨v, rfl, hq1, hq2, hq3, hq4⟩; obtain rfl := (hq3 _ r rfl).symm; obtain ⟨j, hrs, hr⟩ := hq1; have HR := Aside0.mk hr; clear H h1; have H := Aside0.mk hrs; have n2_ := Aside0.mk (HI.out.step hq2); clear HI; have HI := n2_; clear n2_ hq2 hq3 hq4 hrs hr)
        | (go_at_call 54; refine (bad_same w0 _ g A c b _ e 0 0 false H.out rfl).mono ?_; rintro xx w8 ⟨rfl, rfl⟩))
      clear HN0
      go_loopw [7, 8] (fun v7 v8 wr => ∃ (q : Nat), v8 = .int .i64 q ∧ Aside0 ((∃ acc kc kn vc vn at_, RS w0 wr g A c b at_ e 0 0 ∧ PI w0 w wr g gu vc vn vs vt v7 kc kn S T acc ∧ acc.length = q ∧ insL e n S T (n - q) q kc kn acc ((b.take e).drop at_) = res ∧ q ≤ n) ∨ (∃ f at_, RS w0 wr g A c b at_ e f.1 f.2 ∧ f.2 ≠ 0 ∧ OnlyTwo w wr g gu ∧ res = .error f ∧ q ≤ n))) (fun v7 v8 _ => n - (intOf v8).toNat)
      case atStart => exact ⟨0, rfl, ⟨.inl ⟨[], 0, 0, _, _, j, H.out, HI.out, rfl, by rw [← HR.out]; exact HRES.out, Nat.zero_le _⟩⟩⟩
      case round =>
        clear HI HR HRES HMA H
        obtain ⟨q, rfl, hcase⟩ := hrel
        have qb : (q : Int) ≤ 65536 := by
          have h1 := HNB.out
          rcases hcase.out with ⟨_, _, _, _, _, _, _, _, _, _, h3⟩ | ⟨_, _, _, _, _, _, h3⟩ <;> omega
        obtain ⟨acc, kc, kn, vc, vn, at_, hrs, hpi, haq, hres, hq⟩ | ⟨f, at_, hrs, hf, hon, rfl, hq⟩ := hcase.out
        · clear hcase
          have HI := Aside0.mk hpi
          have H := Aside0.mk hrs
          have HAQ := Aside0.mk haq
          have hlen : ((b.take e).drop at_).length = e - at_ := by have := hrs.e_; rw [List.length_drop, List.length_take]; omega
          have hat := hrs.at_
          have heb := hrs.e_
          have h1 := hrs.c1
          clear hrs hpi
          by_cases c1 : q < n
          · have b1 : decide ((q : Int) < (n : Int)) = true := decide_eq_true (by omega)
            rw [show n - q = (n - (q + 1)) + 1 by omega] at hres
            rcases Nat.lt_or_ge at_ e with c2 | c2
            · have c3 : at_ < b.length := by omega
              obtain ⟨ad, hx, htake⟩ := take_one w0 wr g A c b at_ e H.out c2 c3
              have HT := Aside0.mk htake
              have HX := Aside0.mk hx
              have hby := HY.out b[at_] (List.getElem_mem _)
              have hl1 : ((b.take e).drop (at_ + 1)).length = e - (at_ + 1) := by rw [List.length_drop, List.length_take]; omega
              rw [left_cons c2 heb, insL, numL, hl1, show e - (e - (at_ + 1)) = at_ + 1 by omega, show e - (e - (at_ + 1) + 1) = at_ by omega] at hres
              clear htake hx hlen
              generalize b[at_] = x at *
              have hlo := byte_lo x hby
              obtain ⟨hh1, hh2⟩ := byte_hi x hby
              by_cases c15 : x / 16 = 15
              · rw [if_pos c15] at hres
                have hh15 : IntKind.u8.wrap 15 = 15 := by decide +kernel
                have hh15' : IntKind.i64.wrap 15 = 15 := by decide +kernel
                have HCO := Aside0.mk (count_ok w0 · g A c b (at_ + 1) e · HY.out)
                have hby := fun n r => cntL_nonneg e (at_ + 1) ((b.take e).drop (at_ + 1)) 0 0 n r (fun x hx => HY.out x (List.mem_of_mem_take (List.mem_of_mem_drop hx))) (by omega)
                have hby2 := fun n r => cntL_le e (at_ + 1) ((b.take e).drop (at_ + 1)) 0 0 n r
                clear hh1 hh2
                generalize cntL e (at_ + 1) 0 0 ((b.take e).drop (at_ + 1)) = cnt at *
                match cnt with
                | .error f =>
                  have HRES := Aside0.mk hres
                  clear hres hby hby2
                  go_wp2_with (first
                    | (go_at_call 88; refine HT.out.mono ?_; rintro xx w1 ⟨rfl, hq1, hq2⟩; have n1_ := Aside0.mk hq1; have n2_ := Aside0.mk (HI.out.step hq2); clear H HI hq1 hq2 h1; have H := n1_; have HI := n2_; clear n1_ n2_; have hx := (H.out.old.cell (World.block_lt_of_cell? w0 _ HX.out)).trans HX.out)
                    | (go_at_call 89; refine (HCO.out _ H.out).mono ?_; rintro xx w8 ⟨v, rfl, hq1, hq2, _, hq4⟩; obtain rfl := hq4 f rfl; obtain ⟨j2, hf, hrs⟩ := hq1; have HF := Aside0.mk (show (f.2 != 0) = true by simpa using hf); have n2_ := Aside0.mk (HI.out.step hq2); clear H HI hq4; have H := Aside0.mk hrs; have HI := n2_; clear n2_ hq2 hrs hf; have hx := (H.out.old.cell (World.block_lt_of_cell? w0 _ HX.out)).trans HX.out)
                    | (go_at_call 54; refine (bad_same w0 _ g A c b _ e _ _ true H.out HF.out).mono ?_; rintro xx w8 ⟨rfl, rfl⟩)
                    | (go_at_call 54; refine (bad_same w0 _ g A c b _ e 0 0 false H.out rfl).mono ?_; rintro xx w8 ⟨rfl, rfl⟩)
                    | ((with_reducible refine gate_dst (N := 11) rfl ?_); refine box_event (N := 11) rfl rfl (cs := #[.int .i64 0, .int .i64 0, .int .u64 0, .int .u64 0, .int .u64 0, .int .u64 0, .string (⟨#[]⟩ : ByteArray)]) (t := 78) ?hr2 ?_; (case hr2 => first | (go_simp; done) | (go_simp; rfl)); intro gx hgx w4 hbox hb4; have HGX := Aside0.mk (show w.heap.size ≤ gx ∧ u7.ownBlock ≠ some gx by have h2 := HI.out.size; refine ⟨by omega, fun h => ?_⟩; have := own_lt HI.out.row _ h; omega); have n1_ := Aside0.mk (HI.out.below hb4); have n2_ := Aside0.mk (H.out.below hb4); have HXR := Aside0.mk (show RowAt w4 gx 78 (insCells zIns) from ⟨_, hbox, rfl⟩); have HGU := Aside0.mk (HI.out.fresh hgx); clear H HI hbox hb4 hgx hx; have HI := n1_; have H := n2_; clear n1_ n2_)
                    | (((with_reducible refine gate_store (t := 78) (p := 11) rfl ?_); refine put_event rfl rfl 78 (.tmp 11) (.tmp 62) rfl (off := 0) (u := .agg #[.int .i64 (x % 16), .int .i64 0, .int .u64 0, .int .u64 0, .int .u64 0, .int .u64 0, .string (⟨#[]⟩ : ByteArray)]) (seg := insCells { zIns with f0 := x % 16 }) rfl rfl HXR.out rfl (by kernel_rfl) (by simp [insCells]) (by simp [insCells, Value.oneCell']) ?_; intro w5 hrow hgr; have n1_ := Aside0.mk (HI.out.grownX HGX.out.1 HGX.out.2 HGU.out hgr); have n2_ := Aside0.mk (H.out.grown hgr (by have := HGX.out.1; have := HI.out.glt; omega) (by have := HGX.out.1; have := HI.out.glt; have := H.out.ge; omega)); have n3_ := Aside0.mk (show RowAt w5 gx 78 (insCells { zIns with f0 := x % 16 }) from hrow); clear H HI HXR hrow hgr; have HI := n1_; have H := n2_; have HXR := n3_; clear n1_ n2_ n3_); have q0 := (HXR.out.cell 0).trans (show (insCells ({ zIns with f0 := x % 16 }))[0]? = some (.int .i64 (({ zIns with f0 := x % 16 })).f0) from rfl); have q1 := (HXR.out.cell 1).trans (show (insCells ({ zIns with f0 := x % 16 }))[1]? = some (.int .i64 (({ zIns with f0 := x % 16 })).f1) from rfl); have q2 := (HXR.out.cell 2).trans (show (insCells ({ zIns with f0 := x % 16 }))[2]? = some (.int .u64 (({ zIns with f0 := x % 16 })).f2.f0) from rfl); have q3 := (HXR.out.cell 3).trans (show (insCells ({ zIns with f0 := x % 16 }))[3]? = some (.int .u64 (({ zIns with f0 := x % 16 })).f2.f1) from rfl); have q4 := (HXR.out.cell 4).trans (show (insCells ({ zIns with f0 := x % 16 }))[4]? = some (.int .u64 (({ zIns with f0 := x % 16 })).f2.f2) from rfl); have q5 := (HXR.out.cell 5).trans (show (insCells ({ zIns with f0 := x % 16 }))[5]? = some (.int .u64 (({ zIns with f0 := x % 16 })).f2.f3) from rfl); have q6 := (HXR.out.cell 6).trans (show (insCells ({ zIns with f0 := x % 16 }))[6]? = some (.string (({ zIns with f0 := x % 16 })).f3) from rfl))
                    | ((with_reducible refine gate_builtin (b := .append) (xs := #[.tmp 77, .tmp 79]) rfl ?_); at_builtin; refine print_append_cells w.heap.size rfl (.tmp 77) (.tmp 79) 40 78 (.agg #[.int .i64 0, .int .i64 0, .int .u64 0, .int .u64 0, .int .u64 0, .int .u64 0, .string (⟨#[]⟩ : ByteArray)]) 7 64 rfl Try.underlying40 (by kernel_rfl) rfl (by decide) (by decide) u7 acc.length (acc.flatMap insCells) (insCells ({ zIns with f0 := x % 16 })) rfl rfl rfl (by simp [insCells, Value.oneCell']) HI.out.row (Below.refl _ _) (HI.out.size) (by have := HAQ.out; have := HNB.out; omega) ?_; intro v5 w9 hown hbel hgr hat; have n1_ := Aside0.mk (HI.out.append (y := ({ zIns with f0 := x % 16 })) hown hgr hat); have n2_ := Aside0.mk (H.out.through hgr (fun k hk => by have := own_base HI.out.row k hk; have := HI.out.glt; have := HW0.out; omega)); clear H HI hown hgr hat hbel q0 q1 q2 q3 q4 q5 q6; have HI := n1_; have H := n2_; clear n1_ n2_))
                  go_roundw
                  case measure => simp [intOf]; omega
                  case rel => exact ⟨q + 1, by go_num, ⟨.inr ⟨f, _, H.out, by simpa using HF.out, HI.out.fr, by rw [← HRES.out], by omega⟩⟩⟩
                | .ok (cv, r2) =>
                  obtain ⟨cn, hcn⟩ := Int.eq_ofNat_of_zero_le (hby cv r2 rfl)
                  subst hcn
                  have hcn2 := hby2 _ r2 rfl
                  clear hby hby2
                  have hsum : IntKind.i64.wrap (15 + (cn : Int)) = ((15 + cn : Nat) : Int) := by rw [IntWalk.i64_in _ (by omega)]; omega
                  dsimp only at hres
                  rw [Int.toNat_natCast] at hres
                  generalize hnn : 15 + cn = nn at *
                  have hnn2 : nn ≤ 4294967296 := by omega
                  clear hnn
                  generalize hput : putL (x % 16) q nn n kc kn S T = pt at *
                  have HPUT := Aside0.mk hput
                  have HRES := Aside0.mk hres
                  clear hput hres
                  match pt with
                  | none =>
                    go_wp2_with (first
                      | (go_at_call 88; refine HT.out.mono ?_; rintro xx w1 ⟨rfl, hq1, hq2⟩; have n1_ := Aside0.mk hq1; have n2_ := Aside0.mk (HI.out.step hq2); clear H HI hq1 hq2 h1; have H := n1_; have HI := n2_; clear n1_ n2_; have hx := (H.out.old.cell (World.block_lt_of_cell? w0 _ HX.out)).trans HX.out)
                      | (go_at_call 89; refine (HCO.out _ H.out).mono ?_; rintro xx w8 ⟨v, rfl, hq1, hq2, hq3, _⟩; obtain rfl := (hq3 _ _ rfl).symm; obtain ⟨j2, hrs, hr0⟩ := hq1; have HR2 := Aside0.mk (show r2 = (b.take e).drop j2 from hr0); have n2_ := Aside0.mk (HI.out.step hq2); clear H HI hr0 hq3; have H := Aside0.mk hrs; have HI := n2_; clear n2_ hq2 hrs; have hx := (H.out.old.cell (World.block_lt_of_cell? w0 _ HX.out)).trans HX.out)
                      | (go_at_call 54; refine (bad_same w0 _ g A c b _ e 0 0 false H.out rfl).mono ?_; rintro xx w8 ⟨rfl, rfl⟩)
                      | ((with_reducible refine gate_dst (N := 11) rfl ?_); refine box_event (N := 11) rfl rfl (cs := #[.int .i64 0, .int .i64 0, .int .u64 0, .int .u64 0, .int .u64 0, .int .u64 0, .string (⟨#[]⟩ : ByteArray)]) (t := 78) ?hr2 ?_; (case hr2 => first | (go_simp; done) | (go_simp; rfl)); intro gx hgx w4 hbox hb4; have HGX := Aside0.mk (show w.heap.size ≤ gx ∧ u7.ownBlock ≠ some gx by have h2 := HI.out.size; refine ⟨by omega, fun h => ?_⟩; have := own_lt HI.out.row _ h; omega); have n1_ := Aside0.mk (HI.out.below hb4); have n2_ := Aside0.mk (H.out.below hb4); have HXR := Aside0.mk (show RowAt w4 gx 78 (insCells zIns) from ⟨_, hbox, rfl⟩); have HGU := Aside0.mk (HI.out.fresh hgx); clear H HI hbox hb4 hgx hx; have HI := n1_; have H := n2_; clear n1_ n2_)
                      | ((with_reducible refine gate_store (t := 78) (p := 11) rfl ?_); refine put_event rfl rfl 78 (.tmp 11) (.tmp 62) rfl (off := 0) (u := .agg #[.int .i64 (x % 16), .int .i64 0, .int .u64 0, .int .u64 0, .int .u64 0, .int .u64 0, .string (⟨#[]⟩ : ByteArray)]) (seg := insCells { zIns with f0 := x % 16 }) rfl rfl HXR.out rfl (by kernel_rfl) (by simp [insCells]) (by simp [insCells, Value.oneCell']) ?_; intro w5 hrow hgr; have n1_ := Aside0.mk (HI.out.grownX HGX.out.1 HGX.out.2 HGU.out hgr); have n2_ := Aside0.mk (H.out.grown hgr (by have := HGX.out.1; have := HI.out.glt; omega) (by have := HGX.out.1; have := HI.out.glt; have := H.out.ge; omega)); have n3_ := Aside0.mk (show RowAt w5 gx 78 (insCells { zIns with f0 := x % 16 }) from hrow); clear H HI HXR hrow hgr; have HI := n1_; have H := n2_; have HXR := n3_; clear n1_ n2_ n3_)
                      | (go_at_call 91; refine (put_any w0.heap.size _ gu gx q nn n (x % 16) vc vn vs vt kc kn S T HI.out.us HXR.out (by omega) (by omega) HST.out.1 HST.out.2 HGU.out).mono ?_; rintro xx w6 ⟨y, kc', kn', vc', vn', rfl, hu, hx6, hz, hb, hat1, hat2⟩; rw [HPUT.out] at hz ⊢; have n1_ := Aside0.mk (HI.out.put HGX.out.1 HGX.out.2 hu hb hat1 hat2); have n2_ := Aside0.mk (H.out.but hb (HI.out.putFar HGX.out.1 HW0.out)); clear H HI HXR hu hb hat1 hat2; have HI := n1_; have H := n2_; have HXR := Aside0.mk hx6; have HZ := Aside0.mk hz; clear n1_ n2_ hx6 hz)
                      | (go_at_call 55; refine (fail_ok w0 _ g A c b _ e _ _ H.out).mono ?_; rintro xx w8 ⟨rfl, hq1, hq2⟩; have n1_ := Aside0.mk hq1; have n2_ := Aside0.mk (HI.out.step hq2); have n3_ := Aside0.mk (HXR.out.kept (hq2.2 gx HXR.out.lt (by have := HGX.out.1; have := HI.out.glt; omega))); clear H HI HXR hq1 hq2; have H := n1_; have HI := n2_; have HXR := n3_; clear n1_ n2_ n3_; have q0 := (HXR.out.cell 0).trans (show (insCells y)[0]? = some (.int .i64 (y).f0) from rfl); have q1 := (HXR.out.cell 1).trans (show (insCells y)[1]? = some (.int .i64 (y).f1) from rfl); have q2 := (HXR.out.cell 2).trans (show (insCells y)[2]? = some (.int .u64 (y).f2.f0) from rfl); have q3 := (HXR.out.cell 3).trans (show (insCells y)[3]? = some (.int .u64 (y).f2.f1) from rfl); have q4 := (HXR.out.cell 4).trans (show (insCells y)[4]? = some (.int .u64 (y).f2.f2) from rfl); have q5 := (HXR.out.cell 5).trans (show (insCells y)[5]? = some (.int .u64 (y).f2.f3) from rfl); have q6 := (HXR.out.cell 6).trans (show (insCells y)[6]? = some (.string (y).f3) from rfl))
                      | ((with_reducible refine gate_builtin (b := .append) (xs := #[.tmp 77, .tmp 79]) rfl ?_); at_builtin; refine print_append_cells w.heap.size rfl (.tmp 77) (.tmp 79) 40 78 (.agg #[.int .i64 0, .int .i64 0, .int .u64 0, .int .u64 0, .int .u64 0, .int .u64 0, .string (⟨#[]⟩ : ByteArray)]) 7 64 rfl Try.underlying40 (by kernel_rfl) rfl (by decide) (by decide) u7 acc.length (acc.flatMap insCells) (insCells y) rfl rfl rfl (by simp [insCells, Value.oneCell']) HI.out.row (Below.refl _ _) (HI.out.size) (by have := HAQ.out; have := HNB.out; omega) ?_; intro v5 w9 hown hbel hgr hat; have n1_ := Aside0.mk (HI.out.append (y := y) hown hgr hat); have n2_ := Aside0.mk (H.out.through hgr (fun k hk => by have := own_base HI.out.row k hk; have := HI.out.glt; have := HW0.out; omega)); clear H HI hown hgr hat hbel q0 q1 q2 q3 q4 q5 q6; have HI := n1_; have H := n2_; clear n1_ n2_))
                    go_roundw
                    case measure => simp [intOf]; omega
                    case rel => exact ⟨q + 1, by go_num, ⟨.inr ⟨((at_ : Int), 204), _, H.out, by simp, HI.out.fr, by rw [← HRES.out], by omega⟩⟩⟩
                  | some z =>
                    go_wp2_with (first
                      | (go_at_call 88; refine HT.out.mono ?_; rintro xx w1 ⟨rfl, hq1, hq2⟩; have n1_ := Aside0.mk hq1; have n2_ := Aside0.mk (HI.out.step hq2); clear H HI hq1 hq2 h1; have H := n1_; have HI := n2_; clear n1_ n2_; have hx := (H.out.old.cell (World.block_lt_of_cell? w0 _ HX.out)).trans HX.out)
                      | (go_at_call 89; refine (HCO.out _ H.out).mono ?_; rintro xx w8 ⟨v, rfl, hq1, hq2, hq3, _⟩; obtain rfl := (hq3 _ _ rfl).symm; obtain ⟨j2, hrs, hr0⟩ := hq1; have HR2 := Aside0.mk (show r2 = (b.take e).drop j2 from hr0); have n2_ := Aside0.mk (HI.out.step hq2); clear H HI hr0 hq3; have H := Aside0.mk hrs; have HI := n2_; clear n2_ hq2 hrs; have hx := (H.out.old.cell (World.block_lt_of_cell? w0 _ HX.out)).trans HX.out)
                      | (go_at_call 54; refine (bad_same w0 _ g A c b _ e 0 0 false H.out rfl).mono ?_; rintro xx w8 ⟨rfl, rfl⟩)
                      | ((with_reducible refine gate_dst (N := 11) rfl ?_); refine box_event (N := 11) rfl rfl (cs := #[.int .i64 0, .int .i64 0, .int .u64 0, .int .u64 0, .int .u64 0, .int .u64 0, .string (⟨#[]⟩ : ByteArray)]) (t := 78) ?hr2 ?_; (case hr2 => first | (go_simp; done) | (go_simp; rfl)); intro gx hgx w4 hbox hb4; have HGX := Aside0.mk (show w.heap.size ≤ gx ∧ u7.ownBlock ≠ some gx by have h2 := HI.out.size; refine ⟨by omega, fun h => ?_⟩; have := own_lt HI.out.row _ h; omega); have n1_ := Aside0.mk (HI.out.below hb4); have n2_ := Aside0.mk (H.out.below hb4); have HXR := Aside0.mk (show RowAt w4 gx 78 (insCells zIns) from ⟨_, hbox, rfl⟩); have HGU := Aside0.mk (HI.out.fresh hgx); clear H HI hbox hb4 hgx hx; have HI := n1_; have H := n2_; clear n1_ n2_)
                      | ((with_reducible refine gate_store (t := 78) (p := 11) rfl ?_); refine put_event rfl rfl 78 (.tmp 11) (.tmp 62) rfl (off := 0) (u := .agg #[.int .i64 (x % 16), .int .i64 0, .int .u64 0, .int .u64 0, .int .u64 0, .int .u64 0, .string (⟨#[]⟩ : ByteArray)]) (seg := insCells { zIns with f0 := x % 16 }) rfl rfl HXR.out rfl (by kernel_rfl) (by simp [insCells]) (by simp [insCells, Value.oneCell']) ?_; intro w5 hrow hgr; have n1_ := Aside0.mk (HI.out.grownX HGX.out.1 HGX.out.2 HGU.out hgr); have n2_ := Aside0.mk (H.out.grown hgr (by have := HGX.out.1; have := HI.out.glt; omega) (by have := HGX.out.1; have := HI.out.glt; have := H.out.ge; omega)); have n3_ := Aside0.mk (show RowAt w5 gx 78 (insCells { zIns with f0 := x % 16 }) from hrow); clear H HI HXR hrow hgr; have HI := n1_; have H := n2_; have HXR := n3_; clear n1_ n2_ n3_)
                      | ((go_at_call 91; refine (put_any w0.heap.size _ gu gx q nn n (x % 16) vc vn vs vt kc kn S T HI.out.us HXR.out (by omega) (by omega) HST.out.1 HST.out.2 HGU.out).mono ?_; rintro xx w6 ⟨y, kc', kn', vc', vn', rfl, hu, hx6, hz, hb, hat1, hat2⟩; rw [HPUT.out] at hz ⊢; have n1_ := Aside0.mk (HI.out.put HGX.out.1 HGX.out.2 hu hb hat1 hat2); have n2_ := Aside0.mk (H.out.but hb (HI.out.putFar HGX.out.1 HW0.out)); clear H HI HXR hu hb hat1 hat2; have HI := n1_; have H := n2_; have HXR := Aside0.mk hx6; have HZ := Aside0.mk hz; clear n1_ n2_ hx6 hz); have q0 := (HXR.out.cell 0).trans (show (insCells y)[0]? = some (.int .i64 (y).f0) from rfl); have q1 := (HXR.out.cell 1).trans (show (insCells y)[1]? = some (.int .i64 (y).f1) from rfl); have q2 := (HXR.out.cell 2).trans (show (insCells y)[2]? = some (.int .u64 (y).f2.f0) from rfl); have q3 := (HXR.out.cell 3).trans (show (insCells y)[3]? = some (.int .u64 (y).f2.f1) from rfl); have q4 := (HXR.out.cell 4).trans (show (insCells y)[4]? = some (.int .u64 (y).f2.f2) from rfl); have q5 := (HXR.out.cell 5).trans (show (insCells y)[5]? = some (.int .u64 (y).f2.f3) from rfl); have q6 := (HXR.out.cell 6).trans (show (insCells y)[6]? = some (.string (y).f3) from rfl))
                      | ((with_reducible refine gate_builtin (b := .append) (xs := #[.tmp 77, .tmp 79]) rfl ?_); at_builtin; refine print_append_cells w.heap.size rfl (.tmp 77) (.tmp 79) 40 78 (.agg #[.int .i64 0, .int .i64 0, .int .u64 0, .int .u64 0, .int .u64 0, .int .u64 0, .string (⟨#[]⟩ : ByteArray)]) 7 64 rfl Try.underlying40 (by kernel_rfl) rfl (by decide) (by decide) u7 acc.length (acc.flatMap insCells) (insCells y) rfl rfl rfl (by simp [insCells, Value.oneCell']) HI.out.row (Below.refl _ _) (HI.out.size) (by have := HAQ.out; have := HNB.out; omega) ?_; intro v5 w9 hown hbel hgr hat; have n1_ := Aside0.mk (HI.out.append (y := y) hown hgr hat); have n2_ := Aside0.mk (H.out.through hgr (fun k hk => by have := own_base HI.out.row k hk; have := HI.out.glt; have := HW0.out; omega)); clear H HI hown hgr hat hbel q0 q1 q2 q3 q4 q5 q6; have HI := n1_; have H := n2_; clear n1_ n2_))
                    go_roundw
                    case measure => simp [intOf]; omega
                    case rel =>
                      have hzz := HZ.out _ rfl
                      have hr := HRES.out
                      rw [hzz] at hr
                      exact ⟨q + 1, by go_num, ⟨.inl ⟨acc ++ [y], kc', kn', vc', vn', _, H.out, HI.out, by simp [haq], by rw [← hr, HR2.out], by omega⟩⟩⟩
              · have b15 : (x / 16 == 15) = false := by simpa using c15
                rw [if_neg c15] at hres
                dsimp only at hres
                obtain ⟨nn, hnn⟩ : ∃ nn : Nat, x / 16 = nn := ⟨(x / 16).toNat, by omega⟩
                have hn16 : nn < 16 := by omega
                rw [show (x / 16).toNat = nn by omega] at hres
                rw [hnn] at hh1 hh2 b15
                clear c15
                generalize hput : putL (x % 16) q nn n kc kn S T = pt at *
                have HPUT := Aside0.mk hput
                have HRES := Aside0.mk hres
                clear hput hres
                match pt with
                | none =>
                  go_wp2_with (first
                    | (go_at_call 88; refine HT.out.mono ?_; rintro xx w1 ⟨rfl, hq1, hq2⟩; have n1_ := Aside0.mk hq1; have n2_ := Aside0.mk (HI.out.step hq2); clear H HI hq1 hq2 h1; have H := n1_; have HI := n2_; clear n1_ n2_; have hx := (H.out.old.cell (World.block_lt_of_cell? w0 _ HX.out)).trans HX.out)
                    | (go_at_call 54; refine (bad_same w0 _ g A c b _ e 0 0 false H.out rfl).mono ?_; rintro xx w8 ⟨rfl, rfl⟩)
                    | ((with_reducible refine gate_dst (N := 11) rfl ?_); refine box_event (N := 11) rfl rfl (cs := #[.int .i64 0, .int .i64 0, .int .u64 0, .int .u64 0, .int .u64 0, .int .u64 0, .string (⟨#[]⟩ : ByteArray)]) (t := 78) ?hr2 ?_; (case hr2 => first | (go_simp; done) | (go_simp; rfl)); intro gx hgx w4 hbox hb4; have HGX := Aside0.mk (show w.heap.size ≤ gx ∧ u7.ownBlock ≠ some gx by have h2 := HI.out.size; refine ⟨by omega, fun h => ?_⟩; have := own_lt HI.out.row _ h; omega); have n1_ := Aside0.mk (HI.out.below hb4); have n2_ := Aside0.mk (H.out.below hb4); have HXR := Aside0.mk (show RowAt w4 gx 78 (insCells zIns) from ⟨_, hbox, rfl⟩); have HGU := Aside0.mk (HI.out.fresh hgx); clear H HI hbox hb4 hgx hx; have HI := n1_; have H := n2_; clear n1_ n2_)
                    | ((with_reducible refine gate_store (t := 78) (p := 11) rfl ?_); refine put_event rfl rfl 78 (.tmp 11) (.tmp 62) rfl (off := 0) (u := .agg #[.int .i64 (x % 16), .int .i64 0, .int .u64 0, .int .u64 0, .int .u64 0, .int .u64 0, .string (⟨#[]⟩ : ByteArray)]) (seg := insCells { zIns with f0 := x % 16 }) rfl rfl HXR.out rfl (by kernel_rfl) (by simp [insCells]) (by simp [insCells, Value.oneCell']) ?_; intro w5 hrow hgr; have n1_ := Aside0.mk (HI.out.grownX HGX.out.1 HGX.out.2 HGU.out hgr); have n2_ := Aside0.mk (H.out.grown hgr (by have := HGX.out.1; have := HI.out.glt; omega) (by have := HGX.out.1; have := HI.out.glt; have := H.out.ge; omega)); have n3_ := Aside0.mk (show RowAt w5 gx 78 (insCells { zIns with f0 := x % 16 }) from hrow); clear H HI HXR hrow hgr; have HI := n1_; have H := n2_; have HXR := n3_; clear n1_ n2_ n3_)
                    | (go_at_call 91; refine (put_any w0.heap.size _ gu gx q nn n (x % 16) vc vn vs vt kc kn S T HI.out.us HXR.out (by omega) (by omega) HST.out.1 HST.out.2 HGU.out).mono ?_; rintro xx w6 ⟨y, kc', kn', vc', vn', rfl, hu, hx6, hz, hb, hat1, hat2⟩; rw [HPUT.out] at hz ⊢; have n1_ := Aside0.mk (HI.out.put HGX.out.1 HGX.out.2 hu hb hat1 hat2); have n2_ := Aside0.mk (H.out.but hb (HI.out.putFar HGX.out.1 HW0.out)); clear H HI HXR hu hb hat1 hat2; have HI := n1_; have H := n2_; have HXR := Aside0.mk hx6; have HZ := Aside0.mk hz; clear n1_ n2_ hx6 hz)
                    | (go_at_call 55; refine (fail_ok w0 _ g A c b _ e _ _ H.out).mono ?_; rintro xx w8 ⟨rfl, hq1, hq2⟩; have n1_ := Aside0.mk hq1; have n2_ := Aside0.mk (HI.out.step hq2); have n3_ := Aside0.mk (HXR.out.kept (hq2.2 gx HXR.out.lt (by have := HGX.out.1; have := HI.out.glt; omega))); clear H HI HXR hq1 hq2; have H := n1_; have HI := n2_; have HXR := n3_; clear n1_ n2_ n3_; have q0 := (HXR.out.cell 0).trans (show (insCells y)[0]? = some (.int .i64 (y).f0) from rfl); have q1 := (HXR.out.cell 1).trans (show (insCells y)[1]? = some (.int .i64 (y).f1) from rfl); have q2 := (HXR.out.cell 2).trans (show (insCells y)[2]? = some (.int .u64 (y).f2.f0) from rfl); have q3 := (HXR.out.cell 3).trans (show (insCells y)[3]? = some (.int .u64 (y).f2.f1) from rfl); have q4 := (HXR.out.cell 4).trans (show (insCells y)[4]? = some (.int .u64 (y).f2.f2) from rfl); have q5 := (HXR.out.cell 5).trans (show (insCells y)[5]? = some (.int .u64 (y).f2.f3) from rfl); have q6 := (HXR.out.cell 6).trans (show (insCells y)[6]? = some (.string (y).f3) from rfl))
                    | ((with_reducible refine gate_builtin (b := .append) (xs := #[.tmp 77, .tmp 79]) rfl ?_); at_builtin; refine print_append_cells w.heap.size rfl (.tmp 77) (.tmp 79) 40 78 (.agg #[.int .i64 0, .int .i64 0, .int .u64 0, .int .u64 0, .int .u64 0, .int .u64 0, .string (⟨#[]⟩ : ByteArray)]) 7 64 rfl Try.underlying40 (by kernel_rfl) rfl (by decide) (by decide) u7 acc.length (acc.flatMap insCells) (insCells y) rfl rfl rfl (by simp [insCells, Value.oneCell']) HI.out.row (Below.refl _ _) (HI.out.size) (by have := HAQ.out; have := HNB.out; omega) ?_; intro v5 w9 hown hbel hgr hat; have n1_ := Aside0.mk (HI.out.append (y := y) hown hgr hat); have n2_ := Aside0.mk (H.out.through hgr (fun k hk => by have := own_base HI.out.row k hk; have := HI.out.glt; have := HW0.out; omega)); clear H HI hown hgr hat hbel q0 q1 q2 q3 q4 q5 q6; have HI := n1_; have H := n2_; clear n1_ n2_))
                  go_roundw
                  case measure => simp [intOf]; omega
                  case rel => exact ⟨q + 1, by go_num, ⟨.inr ⟨((at_ : Int), 204), _, H.out, by simp, HI.out.fr, by rw [← HRES.out], by omega⟩⟩⟩
                | some z =>
                  go_wp2_with (first
                    | (go_at_call 88; refine HT.out.mono ?_; rintro xx w1 ⟨rfl, hq1, hq2⟩; have n1_ := Aside0.mk hq1; have n2_ := Aside0.mk (HI.out.step hq2); clear H HI hq1 hq2 h1; have H := n1_; have HI := n2_; clear n1_ n2_; have hx := (H.out.old.cell (World.block_lt_of_cell? w0 _ HX.out)).trans HX.out)
                    | (go_at_call 54; refine (bad_same w0 _ g A c b _ e 0 0 false H.out rfl).mono ?_; rintro xx w8 ⟨rfl, rfl⟩)
                    | ((with_reducible refine gate_dst (N := 11) rfl ?_); refine box_event (N := 11) rfl rfl (cs := #[.int .i64 0, .int .i64 0, .int .u64 0, .int .u64 0, .int .u64 0, .int .u64 0, .string (⟨#[]⟩ : ByteArray)]) (t := 78) ?hr2 ?_; (case hr2 => first | (go_simp; done) | (go_simp; rfl)); intro gx hgx w4 hbox hb4; have HGX := Aside0.mk (show w.heap.size ≤ gx ∧ u7.ownBlock ≠ some gx by have h2 := HI.out.size; refine ⟨by omega, fun h => ?_⟩; have := own_lt HI.out.row _ h; omega); have n1_ := Aside0.mk (HI.out.below hb4); have n2_ := Aside0.mk (H.out.below hb4); have HXR := Aside0.mk (show RowAt w4 gx 78 (insCells zIns) from ⟨_, hbox, rfl⟩); have HGU := Aside0.mk (HI.out.fresh hgx); clear H HI hbox hb4 hgx hx; have HI := n1_; have H := n2_; clear n1_ n2_)
                    | ((with_reducible refine gate_store (t := 78) (p := 11) rfl ?_); refine put_event rfl rfl 78 (.tmp 11) (.tmp 62) rfl (off := 0) (u := .agg #[.int .i64 (x % 16), .int .i64 0, .int .u64 0, .int .u64 0, .int .u64 0, .int .u64 0, .string (⟨#[]⟩ : ByteArray)]) (seg := insCells { zIns with f0 := x % 16 }) rfl rfl HXR.out rfl (by kernel_rfl) (by simp [insCells]) (by simp [insCells, Value.oneCell']) ?_; intro w5 hrow hgr; have n1_ := Aside0.mk (HI.out.grownX HGX.out.1 HGX.out.2 HGU.out hgr); have n2_ := Aside0.mk (H.out.grown hgr (by have := HGX.out.1; have := HI.out.glt; omega) (by have := HGX.out.1; have := HI.out.glt; have := H.out.ge; omega)); have n3_ := Aside0.mk (show RowAt w5 gx 78 (insCells { zIns with f0 := x % 16 }) from hrow); clear H HI HXR hrow hgr; have HI := n1_; have H := n2_; have HXR := n3_; clear n1_ n2_ n3_)
                    | ((go_at_call 91; refine (put_any w0.heap.size _ gu gx q nn n (x % 16) vc vn vs vt kc kn S T HI.out.us HXR.out (by omega) (by omega) HST.out.1 HST.out.2 HGU.out).mono ?_; rintro xx w6 ⟨y, kc', kn', vc', vn', rfl, hu, hx6, hz, hb, hat1, hat2⟩; rw [HPUT.out] at hz ⊢; have n1_ := Aside0.mk (HI.out.put HGX.out.1 HGX.out.2 hu hb hat1 hat2); have n2_ := Aside0.mk (H.out.but hb (HI.out.putFar HGX.out.1 HW0.out)); clear H HI HXR hu hb hat1 hat2; have HI := n1_; have H := n2_; have HXR := Aside0.mk hx6; have HZ := Aside0.mk hz; clear n1_ n2_ hx6 hz); have q0 := (HXR.out.cell 0).trans (show (insCells y)[0]? = some (.int .i64 (y).f0) from rfl); have q1 := (HXR.out.cell 1).trans (show (insCells y)[1]? = some (.int .i64 (y).f1) from rfl); have q2 := (HXR.out.cell 2).trans (show (insCells y)[2]? = some (.int .u64 (y).f2.f0) from rfl); have q3 := (HXR.out.cell 3).trans (show (insCells y)[3]? = some (.int .u64 (y).f2.f1) from rfl); have q4 := (HXR.out.cell 4).trans (show (insCells y)[4]? = some (.int .u64 (y).f2.f2) from rfl); have q5 := (HXR.out.cell 5).trans (show (insCells y)[5]? = some (.int .u64 (y).f2.f3) from rfl); have q6 := (HXR.out.cell 6).trans (show (insCells y)[6]? = some (.string (y).f3) from rfl))
                    | ((with_reducible refine gate_builtin (b := .append) (xs := #[.tmp 77, .tmp 79]) rfl ?_); at_builtin; refine print_append_cells w.heap.size rfl (.tmp 77) (.tmp 79) 40 78 (.agg #[.int .i64 0, .int .i64 0, .int .u64 0, .int .u64 0, .int .u64 0, .int .u64 0, .string (⟨#[]⟩ : ByteArray)]) 7 64 rfl Try.underlying40 (by kernel_rfl) rfl (by decide) (by decide) u7 acc.length (acc.flatMap insCells) (insCells y) rfl rfl rfl (by simp [insCells, Value.oneCell']) HI.out.row (Below.refl _ _) (HI.out.size) (by have := HAQ.out; have := HNB.out; omega) ?_; intro v5 w9 hown hbel hgr hat; have n1_ := Aside0.mk (HI.out.append (y := y) hown hgr hat); have n2_ := Aside0.mk (H.out.through hgr (fun k hk => by have := own_base HI.out.row k hk; have := HI.out.glt; have := HW0.out; omega)); clear H HI hown hgr hat hbel q0 q1 q2 q3 q4 q5 q6; have HI := n1_; have H := n2_; clear n1_ n2_))
                  go_roundw
                  case measure => simp [intOf]; omega
                  case rel =>
                    have hzz := HZ.out _ rfl
                    have hr := HRES.out
                    rw [hzz] at hr
                    exact ⟨q + 1, by go_num, ⟨.inl ⟨acc ++ [y], kc', kn', vc', vn', _, H.out, HI.out, by simp [haq], by rw [← hr], by omega⟩⟩⟩
            · rw [left_nil c2, insL] at hres
              go_wp2_with (first
                | (go_at_call 88; refine (take_short w0 _ g A c b at_ e 1 (by omega) H.out (by omega)).mono ?_; rintro xx w1 ⟨rfl, hq1, hq2⟩; have n1_ := Aside0.mk hq1; have n2_ := Aside0.mk (HI.out.step hq2); clear H h1 hq1 hq2 HI; have H := n1_; have HI := n2_; clear n1_ n2_)
                | (go_at_call 54; first | (refine (bad_same w0 _ g A c b _ _ _ 200 true H.out rfl).mono ?_; rintro xx w1 ⟨rfl, rfl⟩) | (refine (bad_same w0 _ g A c b _ _ 0 0 false H.out rfl).mono ?_; rintro xx w1 ⟨rfl, rfl⟩)))
              go_ret
              subst hres
              exact ⟨_, rfl, ⟨_, by simp, H.out⟩, HI.out.fr, (fun _ _ _ _ h => by cases h)⟩
          · have b1 : decide ((q : Int) < (n : Int)) = false := decide_eq_false (by omega)
            rw [show n - q = 0 by omega, insL] at hres
            go_wp2
            go_ret
            subst hres
            exact ⟨_, rfl, ⟨_, H.out, rfl⟩, HI.out.fr, (fun acc' kc' kn' r' h => by injection h with h; injection h with h1 h2; injection h2 with h2 h3; injection h3 with h3 h4; subst h1 h2 h3; exact ⟨_, _, HI.out⟩)⟩
        · clear hcase
          have HF := Aside0.mk (show (f.2 != 0) = true by simpa using hf)
          have H := Aside0.mk hrs
          have HO := Aside0.mk hon
          clear hf hrs hon
          by_cases c1 : q < n
          · have b1 : decide ((q : Int) < (n : Int)) = true := decide_eq_true (by omega)
            go_wp2_with (first
              | (go_at_call 54; refine (bad_same w0 _ g A c b _ e _ _ true H.out HF.out).mono ?_; rintro xx w8 ⟨rfl, rfl⟩))
            go_ret
            exact ⟨_, rfl, ⟨_, by simpa using HF.out, H.out⟩, HO.out, (fun _ _ _ _ h => by cases h)⟩
          · have b1 : decide ((q : Int) < (n : Int)) = false := decide_eq_false (by omega)
            go_wp2
            go_ret
            exact ⟨_, rfl, ⟨_, by simpa using HF.out, H.out⟩, HO.out, (fun _ _ _ _ h => by cases h)⟩
theorem program_bad (gu : Nat) (fa fc : Int) (h : RS w0 w g A c b i e fa fc) (hc : fc ≠ 0) : Calls Try.prog 53 #[.pointer (some ⟨g, 0, none⟩), .pointer (some ⟨gu, 0, none⟩)] w fun x w' => x = .returned (.slice none 0 0) ∧ RS w0 w' g A c b i e fa fc ∧ Only w w' g := by
  have HMA := Aside0.mk (many_bad w0 w g A c b i e fa fc h hc)
  have HF := Aside0.mk (show (fc != 0) = true by simpa using hc)
  have h1 := h.c1
  clear h hc
  go_enter Try.func53, Try.ntmps53
  go_wp2_with (first
    | (go_at_call 87; refine HMA.out.mono ?_; rintro xx w1 ⟨rfl, hq1, hq2⟩; have H := Aside0.mk hq1; have HO := Aside0.mk hq2; clear hq1 hq2)
    | (go_at_call 54; refine (bad_same w0 _ g A c b _ e _ _ true H.out HF.out).mono ?_; rintro xx w8 ⟨rfl, rfl⟩))
  refine wp_loop_once ?_
  go_wp2
  go_ret
  exact ⟨rfl, H.out, HO.out⟩
end
end Go.Proofs.Ytebiogaacikphaa.Pack
end
section
namespace Go.Proofs.Ytebiogaacikphaa.PAll
open Go.RowKit Go.Proofs.YtebiogaacikphaaW.PrintWords Go.Proofs.YtebiogaacikphaaW.PrintLast Go.Proofs.YtebiogaacikphaaW.PrintMore
set_option linter.unusedVariables false
set_option linter.unusedSimpArgs false
theorem eqA76 (d : Nat) (w : World) (x0 y0 : Int) (x1 y1 : Int) (x2 y2 : Int) (x3 y3 : Int) :
    (Op.equalIn (d + 2) 76 (.agg #[.int .u64 x0, .int .u64 x1, .int .u64 x2, .int .u64 x3]) (.agg #[.int .u64 y0, .int .u64 y1, .int .u64 y2, .int .u64 y3])).run Try.prog w = .ok (x0 == y0 && (x1 == y1 && (x2 == y2 && (x3 == y3)))) w := by
  exact eqArr4 Try.underlying76 Try.underlying74 (by kernel_rfl) d w x0 y0 x1 y1 x2 y2 x3 y3
end Go.Proofs.Ytebiogaacikphaa.PAll
end
section
namespace Go.Proofs.Ytebiogaacikphaa.PAll
open Go.RowKit Go.Proofs.YtebiogaacikphaaW.PrintWords Go.Proofs.YtebiogaacikphaaW.PrintLast Go.Proofs.YtebiogaacikphaaW.PrintMore
set_option linter.unusedVariables false
set_option linter.unusedSimpArgs false
theorem eqA90 (d : Nat) (w : World) (x0 y0 : Int) (x1 y1 : Int) (x2 y2 : Int) (x3 y3 : Int) (x4 y4 : Int) (x5 y5 : Int) (x6 y6 : ByteArray) :
    (Op.equalIn (d + 3) 90 (.agg #[.int .i64 x0, .int .u64 x1, .int .u64 x2, .int .u64 x3, .int .u64 x4, .int .i64 x5, .string x6]) (.agg #[.int .i64 y0, .int .u64 y1, .int .u64 y2, .int .u64 y3, .int .u64 y4, .int .i64 y5, .string y6])).run Try.prog w = .ok (x0 == y0 && ((x1 == y1 && (x2 == y2 && (x3 == y3 && (x4 == y4)))) && (x5 == y5 && (x6.toList == y6.toList)))) w := by
  refine eqA_of Try.underlying90 (by kernel_rfl) ?_
  refine eqf_cons (by rfl) (by go_simp; rfl) (by go_simp; rfl) (by go_simp) ?_
  refine eqf_cons (by rfl) (by go_simp) (by go_simp) (eqA76 (d + 0) w _ _ _ _ _ _ _ _) ?_
  refine eqf_cons (by rfl) (by go_simp; rfl) (by go_simp; rfl) (by go_simp) ?_
  exact eqf_last (by rfl) (by go_simp; rfl) (by go_simp; rfl) (by go_simp)
end Go.Proofs.Ytebiogaacikphaa.PAll
end
section
namespace Go.Proofs.Ytebiogaacikphaa.PAll
open Go.RowKit Go.Proofs.YtebiogaacikphaaW.PrintWords Go.Proofs.YtebiogaacikphaaW.PrintLast Go.Proofs.YtebiogaacikphaaW.PrintMore
set_option linter.unusedVariables false
set_option linter.unusedSimpArgs false
def core_arity.j0 : Nat → Int → Bool → Option (Int)
  | 0, _, _ => none
  | k + 1, x3, x4 => if x4 = true then (some 2) else (if x3 = 6 then (some 1) else (if x3 = 7 then (some 1) else (if x3 = 8 then (some 1) else (some 0))))
def core_arity.f (k : Nat) (a0 : Int) : Option (Int) := if a0 = 4 then (core_arity.j0 k a0 (a0 == 4)) else (core_arity.j0 k a0 (a0 == 5))
theorem core_arity.mono_l : ∀ k, (∀ y0 y1, LeO (core_arity.j0 k y0 y1) (core_arity.j0 (k + 1) y0 y1))
  | 0 => fun _ _ r h => by simp [core_arity.j0] at h
  | k + 1 => by
    have ih0 := core_arity.mono_l k
    · intro y0 y1
      unfold core_arity.j0
      repeat' first
      | (with_reducible exact ih0 _ _)
      | (with_reducible exact LeO.refl _)
      | (with_reducible exact LeO.none _)
      | (with_reducible refine LeO.ite ?_ ?_)
      | (with_reducible refine LeO.bind ?_ (fun _ => ?_))
      | exact ih0 _ _
      | exact LeO.none _
      | refine LeO.ite ?_ ?_
      | refine LeO.bind ?_ (fun _ => ?_)
theorem core_arity.mono : ∀ a0 k, LeO (core_arity.f k a0) (core_arity.f (k + 1) a0) := by
  intro a0 k
  have ih0 := core_arity.mono_l k
  unfold core_arity.f
  repeat' first
      | (with_reducible exact ih0 _ _)
      | (with_reducible exact LeO.refl _)
      | (with_reducible exact LeO.none _)
      | (with_reducible refine LeO.ite ?_ ?_)
      | (with_reducible refine LeO.bind ?_ (fun _ => ?_))
      | exact ih0 _ _
      | exact LeO.none _
      | refine LeO.ite ?_ ?_
      | refine LeO.bind ?_ (fun _ => ?_)
end Go.Proofs.Ytebiogaacikphaa.PAll
end
section
namespace Go.Proofs.Ytebiogaacikphaa.PAll
open Go.RowKit Go.Proofs.YtebiogaacikphaaW.PrintWords Go.Proofs.YtebiogaacikphaaW.PrintLast Go.Proofs.YtebiogaacikphaaW.PrintMore
set_option linter.unusedVariables false
set_option linter.unusedSimpArgs false
/-- Of short ASCII texts alone: is one of the second's bytes in the first? -/
def strings_ContainsAny.f (a0 a1 : ByteArray) : Option Bool :=
  if a0.size < 4294967281 ∧ a1.size < 4294967281 ∧ (∀ b ∈ a0.data.toList, b.toNat < 128) ∧ (∀ b ∈ a1.data.toList, b.toNat < 128) then some (Lib.containsAny a0.data.toList a1.data.toList) else none
end Go.Proofs.Ytebiogaacikphaa.PAll
end
section
namespace Go.Proofs.Ytebiogaacikphaa.PAll
open Go.RowKit Go.Proofs.YtebiogaacikphaaW.PrintWords Go.Proofs.YtebiogaacikphaaW.PrintLast Go.Proofs.YtebiogaacikphaaW.PrintMore
set_option linter.unusedVariables false
set_option linter.unusedSimpArgs false
attribute [local go_sem high] eqA90
mutual
def core_right.l0 : Nat → Int → Int → List (S90) → Int → Int → Option (Bool)
  | 0, _, _, _, _, _ => none
  | k + 1, x1, x5, x11, x12, x13 => if x13 < x12 then (if 0 ≤ x13 then (if x13 < (x11.length : Int) then ((core_arity.f k ((rd_T90 x11 x13).f0)).bind fun t174 => (if t174 ≤ x5 then (if ((rd_T90 x11 x13).f0) ≥ 0 then (core_right.j1 k x1 x5 t174 (decide (((rd_T90 x11 x13).f0) ≤ 8)) x11 x12 x13 ((rd_T90 x11 x13).f0) ((rd_T90 x11 x13).f1.f0) ((rd_T90 x11 x13).f1.f1) ((rd_T90 x11 x13).f1.f2) ((rd_T90 x11 x13).f1.f3) ((rd_T90 x11 x13).f2) ((rd_T90 x11 x13).f3) ((rd_T90 x11 x13).f0) 0 0 0 0 0 (⟨#[]⟩ : ByteArray)) else (core_right.j1 k x1 x5 t174 false x11 x12 x13 ((rd_T90 x11 x13).f0) ((rd_T90 x11 x13).f1.f0) ((rd_T90 x11 x13).f1.f1) ((rd_T90 x11 x13).f1.f2) ((rd_T90 x11 x13).f1.f3) ((rd_T90 x11 x13).f2) ((rd_T90 x11 x13).f3) ((rd_T90 x11 x13).f0) 0 0 0 0 0 (⟨#[]⟩ : ByteArray))) else (core_right.j1 k x1 x5 t174 false x11 x12 x13 ((rd_T90 x11 x13).f0) ((rd_T90 x11 x13).f1.f0) ((rd_T90 x11 x13).f1.f1) ((rd_T90 x11 x13).f1.f2) ((rd_T90 x11 x13).f1.f3) ((rd_T90 x11 x13).f2) ((rd_T90 x11 x13).f3) ((rd_T90 x11 x13).f0) 0 0 0 0 0 (⟨#[]⟩ : ByteArray)))) else (none)) else (none)) else (some (x5 == 1))
def core_right.j1 : Nat → Int → Int → Int → Bool → List (S90) → Int → Int → Int → Int → Int → Int → Int → Int → ByteArray → Int → Int → Int → Int → Int → Int → ByteArray → Option (Bool)
  | 0, _, _, _, _, _, _, _, _, _, _, _, _, _, _, _, _, _, _, _, _, _ => none
  | k + 1, x1, x5, x8, x10, x11, x12, x13, x174000, x174001, x174002, x174003, x174004, x174005, x174006, x176000, x176001, x176002, x176003, x176004, x176005, x176006 => if x174000 = 1 then (if x10 = true then (if (!(x174000 == x176000) || (!(x174005 == x176005) || (!(x174006.toList == x176006.toList)))) = true then (some false) else (core_right.l0 k x1 (wrap64 (x5 + (wrap64 (1 - x8)))) x11 x12 (wrap64 (x13 + 1)))) else (some false)) else (if x174000 = 2 then (if x10 = true then (if x174005 ≥ 0 then (if x174005 < x1 then (if (!(x174000 == x176000) || ((!(x174001 == x176001) || (!(x174002 == x176002) || (!(x174003 == x176003) || (!(x174004 == x176004))))) || (!(x174006.toList == x176006.toList)))) = true then (some false) else (core_right.l0 k x1 (wrap64 (x5 + (wrap64 (1 - x8)))) x11 x12 (wrap64 (x13 + 1)))) else (some false)) else (some false)) else (some false)) else (if x174000 = 3 then (core_right.j2 k x1 x5 x8 x10 x11 x12 x13 (x174000 == 3) x174000 x174001 x174002 x174003 x174004 x174005 x174006 x176000 x176001 x176002 x176003 x176004 x176005 x176006) else (core_right.j2 k x1 x5 x8 x10 x11 x12 x13 (x174000 == 8) x174000 x174001 x174002 x174003 x174004 x174005 x174006 x176000 x176001 x176002 x176003 x176004 x176005 x176006)))
def core_right.j2 : Nat → Int → Int → Int → Bool → List (S90) → Int → Int → Bool → Int → Int → Int → Int → Int → Int → ByteArray → Int → Int → Int → Int → Int → Int → ByteArray → Option (Bool)
  | 0, _, _, _, _, _, _, _, _, _, _, _, _, _, _, _, _, _, _, _, _, _, _ => none
  | k + 1, x1, x5, x8, x10, x11, x12, x13, x60, x174000, x174001, x174002, x174003, x174004, x174005, x174006, x176000, x176001, x176002, x176003, x176004, x176005, x176006 => if x60 = true then (if x10 = true then ((lexis_Name.f k x174006).bind fun t176 => (if t176 = true then ((strings_ContainsAny.f x174006 (⟨#[58, 126]⟩ : ByteArray)).bind fun t177 => (if t177 = true then (some false) else (if (!(x174000 == x176000) || ((!(x174001 == x176001) || (!(x174002 == x176002) || (!(x174003 == x176003) || (!(x174004 == x176004))))) || (!(x174005 == x176005)))) = true then (some false) else (core_right.l0 k x1 (wrap64 (x5 + (wrap64 (1 - x8)))) x11 x12 (wrap64 (x13 + 1)))))) else (some false))) else (some false)) else (if x10 = true then (if (!(x174000 == x176000) || ((!(x174001 == x176001) || (!(x174002 == x176002) || (!(x174003 == x176003) || (!(x174004 == x176004))))) || (!(x174005 == x176005) || (!(x174006.toList == x176006.toList))))) = true then (some false) else (core_right.l0 k x1 (wrap64 (x5 + (wrap64 (1 - x8)))) x11 x12 (wrap64 (x13 + 1)))) else (some false))
end
def core_right.f (k : Nat) (l0 : List (S90)) (a1 : Int) : Option (Bool) := core_right.l0 k a1 0 l0 (l0.length : Int) 0
theorem core_right.mono_l : ∀ k, (∀ y0 y1 y2 y3 y4, LeO (core_right.l0 k y0 y1 y2 y3 y4) (core_right.l0 (k + 1) y0 y1 y2 y3 y4)) ∧ (∀ y0 y1 y2 y3 y4 y5 y6 y7 y8 y9 y10 y11 y12 y13 y14 y15 y16 y17 y18 y19 y20, LeO (core_right.j1 k y0 y1 y2 y3 y4 y5 y6 y7 y8 y9 y10 y11 y12 y13 y14 y15 y16 y17 y18 y19 y20) (core_right.j1 (k + 1) y0 y1 y2 y3 y4 y5 y6 y7 y8 y9 y10 y11 y12 y13 y14 y15 y16 y17 y18 y19 y20)) ∧ (∀ y0 y1 y2 y3 y4 y5 y6 y7 y8 y9 y10 y11 y12 y13 y14 y15 y16 y17 y18 y19 y20 y21, LeO (core_right.j2 k y0 y1 y2 y3 y4 y5 y6 y7 y8 y9 y10 y11 y12 y13 y14 y15 y16 y17 y18 y19 y20 y21) (core_right.j2 (k + 1) y0 y1 y2 y3 y4 y5 y6 y7 y8 y9 y10 y11 y12 y13 y14 y15 y16 y17 y18 y19 y20 y21))
  | 0 => ⟨fun _ _ _ _ _ r h => by simp [core_right.l0] at h, fun _ _ _ _ _ _ _ _ _ _ _ _ _ _ _ _ _ _ _ _ _ r h => by simp [core_right.j1] at h, fun _ _ _ _ _ _ _ _ _ _ _ _ _ _ _ _ _ _ _ _ _ _ r h => by simp [core_right.j2] at h⟩
  | k + 1 => by
    obtain ⟨ih0, ih1, ih2⟩ := core_right.mono_l k
    refine ⟨?_, ?_, ?_⟩
    · intro y0 y1 y2 y3 y4
      unfold core_right.l0
      repeat' first
      | (with_reducible exact ih0 _ _ _ _ _)
      | (with_reducible exact ih1 _ _ _ _ _ _ _ _ _ _ _ _ _ _ _ _ _ _ _ _ _)
      | (with_reducible exact ih2 _ _ _ _ _ _ _ _ _ _ _ _ _ _ _ _ _ _ _ _ _ _)
      | (with_reducible exact core_arity.mono _ _)
      | (with_reducible exact lexis_Name.mono _ _)
      | (with_reducible exact LeO.refl _)
      | (with_reducible exact LeO.none _)
      | (with_reducible refine LeO.ite ?_ ?_)
      | (with_reducible refine LeO.bind ?_ (fun _ => ?_))
      | exact ih0 _ _ _ _ _
      | exact ih1 _ _ _ _ _ _ _ _ _ _ _ _ _ _ _ _ _ _ _ _ _
      | exact ih2 _ _ _ _ _ _ _ _ _ _ _ _ _ _ _ _ _ _ _ _ _ _
      | exact core_arity.mono _ _
      | exact lexis_Name.mono _ _
      | exact LeO.none _
      | refine LeO.ite ?_ ?_
      | refine LeO.bind ?_ (fun _ => ?_)
    · intro y0 y1 y2 y3 y4 y5 y6 y7 y8 y9 y10 y11 y12 y13 y14 y15 y16 y17 y18 y19 y20
      unfold core_right.j1
      repeat' first
      | (with_reducible exact ih0 _ _ _ _ _)
      | (with_reducible exact ih1 _ _ _ _ _ _ _ _ _ _ _ _ _ _ _ _ _ _ _ _ _)
      | (with_reducible exact ih2 _ _ _ _ _ _ _ _ _ _ _ _ _ _ _ _ _ _ _ _ _ _)
      | (with_reducible exact core_arity.mono _ _)
      | (with_reducible exact lexis_Name.mono _ _)
      | (with_reducible exact LeO.refl _)
      | (with_reducible exact LeO.none _)
      | (with_reducible refine LeO.ite ?_ ?_)
      | (with_reducible refine LeO.bind ?_ (fun _ => ?_))
      | exact ih0 _ _ _ _ _
      | exact ih1 _ _ _ _ _ _ _ _ _ _ _ _ _ _ _ _ _ _ _ _ _
      | exact ih2 _ _ _ _ _ _ _ _ _ _ _ _ _ _ _ _ _ _ _ _ _ _
      | exact core_arity.mono _ _
      | exact lexis_Name.mono _ _
      | exact LeO.none _
      | refine LeO.ite ?_ ?_
      | refine LeO.bind ?_ (fun _ => ?_)
    · intro y0 y1 y2 y3 y4 y5 y6 y7 y8 y9 y10 y11 y12 y13 y14 y15 y16 y17 y18 y19 y20 y21
      unfold core_right.j2
      repeat' first
      | (with_reducible exact ih0 _ _ _ _ _)
      | (with_reducible exact ih1 _ _ _ _ _ _ _ _ _ _ _ _ _ _ _ _ _ _ _ _ _)
      | (with_reducible exact ih2 _ _ _ _ _ _ _ _ _ _ _ _ _ _ _ _ _ _ _ _ _ _)
      | (with_reducible exact core_arity.mono _ _)
      | (with_reducible exact lexis_Name.mono _ _)
      | (with_reducible exact LeO.refl _)
      | (with_reducible exact LeO.none _)
      | (with_reducible refine LeO.ite ?_ ?_)
      | (with_reducible refine LeO.bind ?_ (fun _ => ?_))
      | exact ih0 _ _ _ _ _
      | exact ih1 _ _ _ _ _ _ _ _ _ _ _ _ _ _ _ _ _ _ _ _ _
      | exact ih2 _ _ _ _ _ _ _ _ _ _ _ _ _ _ _ _ _ _ _ _ _ _
      | exact core_arity.mono _ _
      | exact lexis_Name.mono _ _
      | exact LeO.none _
      | refine LeO.ite ?_ ?_
      | refine LeO.bind ?_ (fun _ => ?_)
theorem core_right.mono : ∀ a0 a1 k, LeO (core_right.f k a0 a1) (core_right.f (k + 1) a0 a1) := by
  intro a0 a1 k
  obtain ⟨ih0, ih1, ih2⟩ := core_right.mono_l k
  unfold core_right.f
  repeat' first
      | (with_reducible exact ih0 _ _ _ _ _)
      | (with_reducible exact ih1 _ _ _ _ _ _ _ _ _ _ _ _ _ _ _ _ _ _ _ _ _)
      | (with_reducible exact ih2 _ _ _ _ _ _ _ _ _ _ _ _ _ _ _ _ _ _ _ _ _ _)
      | (with_reducible exact core_arity.mono _ _)
      | (with_reducible exact lexis_Name.mono _ _)
      | (with_reducible exact LeO.refl _)
      | (with_reducible exact LeO.none _)
      | (with_reducible refine LeO.ite ?_ ?_)
      | (with_reducible refine LeO.bind ?_ (fun _ => ?_))
      | exact ih0 _ _ _ _ _
      | exact ih1 _ _ _ _ _ _ _ _ _ _ _ _ _ _ _ _ _ _ _ _ _
      | exact ih2 _ _ _ _ _ _ _ _ _ _ _ _ _ _ _ _ _ _ _ _ _ _
      | exact core_arity.mono _ _
      | exact lexis_Name.mono _ _
      | exact LeO.none _
      | refine LeO.ite ?_ ?_
      | refine LeO.bind ?_ (fun _ => ?_)
end Go.Proofs.Ytebiogaacikphaa.PAll
end
