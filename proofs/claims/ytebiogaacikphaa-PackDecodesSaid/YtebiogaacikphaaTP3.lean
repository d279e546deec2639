/- Parts of the proof of packForged and packDecodes and Pack and Pack and Pack: PackClasses, PAllx7, PAllx9. -/
import Derived.StillTailTactics
import Derived.Test.YtebiogaacikphaaTP2
section
namespace Go.Proofs.Ytebiogaacikphaa.Pack
open Go.RowKit Go.Proofs.YtebiogaacikphaaW.PrintWords Go.Proofs.Ytebiogaacikphaa.PAll
set_option linter.unusedVariables false
set_option linter.unusedSimpArgs false
def wordOf : List Int → Int
  | [] => 0
  | x :: l => x + 256 * wordOf l
/-- A class of 32 bytes. -/
def clsOf (l : List Int) : Four := (wordOf (l.take 8), wordOf ((l.drop 8).take 8), wordOf ((l.drop 16).take 8), wordOf ((l.drop 24).take 8))
def clsCells (x : Four) : List Value := [.int .u64 x.1, .int .u64 x.2.1, .int .u64 x.2.2.1, .int .u64 x.2.2.2]
/-- Word j when k bytes are in. -/
def wd (l : List Int) (k j : Nat) : Int := wordOf ((l.drop (8 * j)).take (min 8 (k - 8 * j)))
def wdCells (l : List Int) (k : Nat) : List Value := [.int .u64 (wd l k 0), .int .u64 (wd l k 1), .int .u64 (wd l k 2), .int .u64 (wd l k 3)]
theorem wd_start (l : List Int) : wdCells l 0 = [.int .u64 0, .int .u64 0, .int .u64 0, .int .u64 0] := by
  simp [wdCells, wd, wordOf]
theorem wd_end (l : List Int) : wdCells l 32 = clsCells (clsOf l) := by
  simp [wdCells, wd, clsCells, clsOf]
theorem wordOf_snoc (x : Int) : ∀ l : List Int, wordOf (l ++ [x]) = wordOf l + x * 256 ^ l.length
  | [] => by simp [wordOf]
  | y :: l => by
    rw [List.cons_append, wordOf, wordOf, wordOf_snoc x l, List.length_cons, Int.pow_succ]
    rw [Int.mul_add, Int.add_assoc, Int.mul_left_comm, Int.mul_comm (256 ^ l.length : Int) 256]
theorem wordOf_lt : ∀ l : List Int, (∀ x ∈ l, 0 ≤ x ∧ x < 256) → 0 ≤ wordOf l ∧ wordOf l < 256 ^ l.length
  | [], _ => by simp [wordOf]
  | y :: l, h => by
    have h1 := wordOf_lt l (fun x hx => h x (List.mem_cons_of_mem _ hx))
    have h2 := h y List.mem_cons_self
    rw [wordOf, List.length_cons, Int.pow_succ]
    omega
theorem wd_cell (l : List Int) (k j : Nat) (hj : j < 4) : (wdCells l k)[j]? = some (.int .u64 (wd l k j)) := by
  match j, hj with
  | 0, _ => rfl
  | 1, _ => rfl
  | 2, _ => rfl
  | 3, _ => rfl
theorem wd_far (l : List Int) (k j : Nat) (h : j ≠ k / 8) : wd l (k + 1) j = wd l k j := by
  unfold wd
  rw [show min 8 (k + 1 - 8 * j) = min 8 (k - 8 * j) by omega]
theorem wd_step (l : List Int) (hl : l.length = 32) (hby : ∀ x ∈ l, 0 ≤ x ∧ x < 256) (k : Nat) (hk : k < 32) (x : Int) (hx : l[k]? = some x) :
    Go.bits .or .u64 (wd l k (k / 8)) (IntKind.u64.wrap (IntKind.u64.wrap x * 2 ^ (8 * (k % 8)))) = wd l (k + 1) (k / 8) := by
  have hmem : x ∈ l := List.mem_of_getElem? hx
  have hxb := hby x hmem
  have hlen : ((l.drop (8 * (k / 8))).take (k % 8)).length = k % 8 := by rw [List.length_take, List.length_drop]; omega
  have e0 : wd l k (k / 8) = wordOf ((l.drop (8 * (k / 8))).take (k % 8)) := by rw [wd, show min 8 (k - 8 * (k / 8)) = k % 8 by omega]
  have e1 : wd l (k + 1) (k / 8) = wordOf ((l.drop (8 * (k / 8))).take (k % 8)) + x * 256 ^ (k % 8) := by
    rw [wd, show min 8 (k + 1 - 8 * (k / 8)) = k % 8 + 1 by omega, List.take_add_one, List.getElem?_drop, show 8 * (k / 8) + k % 8 = k by omega, hx, Option.toList_some, wordOf_snoc, hlen]
  have hw := wordOf_lt ((l.drop (8 * (k / 8))).take (k % 8)) (fun y hy => hby y (List.mem_of_mem_drop (List.mem_of_mem_take hy)))
  rw [hlen] at hw
  rw [e0, e1]
  generalize wordOf ((l.drop (8 * (k / 8))).take (k % 8)) = v at *
  obtain ⟨m, rfl⟩ := Int.eq_ofNat_of_zero_le hw.1
  obtain ⟨y, rfl⟩ := Int.eq_ofNat_of_zero_le hxb.1
  have hq : k % 8 < 8 := Nat.mod_lt _ (by decide)
  generalize k % 8 = q at *
  have e256 : ((256 ^ q : Nat) : Int) = (256 : Int) ^ q := Int.natCast_pow 256 q
  have hm : m < 256 ^ q := Int.ofNat_lt.1 (by rw [e256]; exact hw.2)
  have hp : 256 ^ q ≤ 256 ^ 7 := Nat.pow_le_pow_right (by decide) (by omega)
  have h28 : (2 : Nat) ^ (8 * q) = 256 ^ q := by rw [Nat.pow_mul]
  have hyw : IntKind.u64.wrap (y : Int) = (y : Int) := Bits.wrap_u .u64 rfl _ (by show _ < 2 ^ 64; omega)
  have hprod : y * 256 ^ q < 256 * 256 ^ 7 := Nat.lt_of_lt_of_le (Nat.mul_lt_mul_of_pos_right (show y < 256 by omega) (Nat.pow_pos (by decide))) (Nat.mul_le_mul_left _ hp)
  have hs : IntKind.u64.wrap ((y : Int) * 2 ^ (8 * q)) = ((y * 256 ^ q : Nat) : Int) := by
    have e : ((y : Int) * 2 ^ (8 * q)) = ((y * 256 ^ q : Nat) : Int) := by rw [← h28, Int.natCast_mul, Int.natCast_pow]; rfl
    rw [e]
    exact Bits.wrap_u .u64 rfl _ (by show _ < 2 ^ 64; omega)
  have ho : m ||| y * 256 ^ q = m + y * 256 ^ q := by
    rw [← h28]
    exact Bits.or_add m y (8 * q) (by rw [h28]; exact hm)
  rw [hyw, hs]
  have hb := Bits.bits_or .u64 rfl m (y * 256 ^ q) (by show _ < 2 ^ 64; omega) (by show _ < 2 ^ 64; omega)
  rw [hb, ho, Int.natCast_add, Int.natCast_mul, e256]
theorem wd_put (l : List Int) (k : Nat) (hk : k < 32) : (wdCells l k).take (k / 8) ++ [.int .u64 (wd l (k + 1) (k / 8))] ++ (wdCells l k).drop (k / 8 + 1) = wdCells l (k + 1) := by
  have hj : k / 8 < 4 := by omega
  have hf := fun j h => wd_far l k j h
  unfold wdCells
  generalize k / 8 = j at *
  match j, hj with
  | 0, _ => simp [hf 1 (by omega), hf 2 (by omega), hf 3 (by omega)]
  | 1, _ => simp [hf 0 (by omega), hf 2 (by omega), hf 3 (by omega)]
  | 2, _ => simp [hf 0 (by omega), hf 1 (by omega), hf 3 (by omega)]
  | 3, _ => simp [hf 0 (by omega), hf 1 (by omega), hf 2 (by omega)]
/-- So many classes, no two alike; acc are there. -/
def classesL (e : Nat) : Nat → List Four → List Int → Except (Int × Int) (List Four × List Int)
  | 0, acc, l => .ok (acc, l)
  | n + 1, acc, l => if l.length < 32 then .error (e, 200) else if clsOf (l.take 32) ∈ acc then .error ((e - l.length : Nat), 204) else classesL e n (acc ++ [clsOf (l.take 32)]) (l.drop 32)
/-- The numbers seen are each seen once. -/
def seenOnce (acc : List Four) : List (Four × Value) := acc.map fun x => (x, .int .i64 1)
theorem seen_keys (acc : List Four) : (seenOnce acc).map (·.1) = acc := by simp [seenOnce, Function.comp_def]
/-- What the rounds of classes keep. -/
theorem seen_find {acc : List Four} {x : Four} (h : x ∈ acc) : ∃ j, mapFind x (seenOnce acc) 0 = some (j, .int .i64 1) := by
  cases hf : mapFind x (seenOnce acc) 0 with
  | none => exact absurd h (by rw [← seen_keys acc]; exact mapFind_none.1 hf)
  | some p =>
    obtain ⟨j, v⟩ := p
    refine ⟨j, ?_⟩
    have h1 := (mapFind_some hf).2
    rw [seenOnce, List.getElem?_map] at h1
    obtain ⟨y, _, h3⟩ := Option.map_eq_some_iff.1 h1
    injection h3 with h3 h4
    rw [← h4]
theorem find_set {κ : Type} [DecidableEq κ] {x : κ} {u : Value} (v : Value) : ∀ {l : List (κ × Value)} {i j : Nat}, mapFind x l i = some (j, u) → mapFind x (l.set (j - i) (x, v)) i = some (j, v)
  | [], _, _, h => by cases h
  | p :: l, i, j, h => by
    rw [mapFind] at h
    split at h
    · rename_i hx
      cases h
      rw [Nat.sub_self, List.set_cons_zero, mapFind, if_pos rfl]
    · rename_i hx
      have h1 := (mapFind_some h).1
      rw [show j - i = (j - (i + 1)) + 1 by omega, List.set_cons_succ, mapFind, if_neg hx]
      exact find_set v h
structure CI (w0 w W : World) (g gm : Nat) (A : Option Addr) (c : Nat) (b : List Int) (i e : Nat) (v : Value) (acc : List Four) (l : List (Four × Value)) : Prop where
  rs : RS w0 W g A c b i e 0 0
  only : Only w W g
  map_ : MapAt (encFour .u64) W gm l
  row : W.ownsRow w.heap.size 76 4 v acc.length (acc.flatMap clsCells)
  gmge : w.heap.size ≤ gm
  glt : g < w.heap.size
  off : v.ownBlock ≠ some gm
/-- A list of whatever kind. -/
def IsSl (v : Value) : Prop := ∃ A n c, v = .slice A n c
theorem IsSl.own {W : World} {base : Nat} {t : TypeId} {size n : Nat} {v : Value} {xs : List Value} (h : W.ownsRow base t size v n xs) : IsSl v := by
  obtain ⟨A, c, e⟩ := own_slice h
  exact ⟨A, n, c, e⟩
theorem Only.new {w W W' : World} {g r : Nat} (h : Only w W g) (hg : W.grownBy W' (some r)) (h3 : w.heap.size ≤ r) : Only w W' g :=
  ⟨Nat.le_trans h.1 hg.size, fun j hj hne => (hg.block j (Nat.lt_of_lt_of_le hj h.1) (by simp; omega)).trans (h.2 j hj hne)⟩
theorem RS.through {w0 W W' : World} {g : Nat} {A : Option Addr} {c : Nat} {b : List Int} {i e : Nat} {fa fc : Int} (h : RS w0 W g A c b i e fa fc) {r : Option Nat} (hg : W.grownBy W' r) (hr : ∀ k, r = some k → k ≠ g ∧ w0.heap.size ≤ k) : RS w0 W' g A c b i e fa fc :=
  ⟨(hg.block _ (blk_lt h.box) (fun e => (hr g e.symm).1 rfl)).trans h.box, h.ge, h.rd, h.cap, h.len, h.e_, h.at_, pw_below_grown h.old r h.old.size hg (fun k hk => (hr k hk).2)⟩
theorem Only.through {w W W' : World} {g : Nat} (h : Only w W g) {r : Option Nat} (hg : W.grownBy W' r) (hr : ∀ k, r = some k → w.heap.size ≤ k) : Only w W' g :=
  ⟨Nat.le_trans h.1 hg.size, fun j hj hne => (hg.block j (Nat.lt_of_lt_of_le hj h.1) (fun e => by have := hr j e.symm; omega)).trans (h.2 j hj hne)⟩
theorem own_kept {W W' : World} {base : Nat} {t : TypeId} {size n : Nat} {v : Value} {xs : List Value} (h : W.ownsRow base t size v n xs) (hk : ∀ k, v.ownBlock = some k → W'.heap[k]? = W.heap[k]?) : W'.ownsRow base t size v n xs := by
  obtain ⟨h1, h2 | ⟨g, cap, cur, rfl, h3, h4, h5⟩⟩ := h
  · exact ⟨h1, .inl h2⟩
  · exact ⟨h1, .inr ⟨g, cap, cur, rfl, h3, (hk g rfl).trans h4, h5⟩⟩
section
variable {w0 w W W' : World} {g gm : Nat} {A : Option Addr} {c : Nat} {b : List Int} {i e : Nat} {v : Value} {acc : List Four} {l : List (Four × Value)}
theorem CI.below (h : CI w0 w W g gm A c b i e v acc l) (hb : Below W.heap.size W W') : CI w0 w W' g gm A c b i e v acc l :=
  ⟨h.rs.below hb, h.only.trans (Only.of_below hb g), h.map_.below hb, own_kept h.row (fun k hk => hb.block k (own_lt h.row k hk)), h.gmge, h.glt, h.off⟩
/-- A block of the call's own is written, none of these. -/
theorem CI.grown (h : CI w0 w W g gm A c b i e v acc l) {r : Nat} (hg : W.grownBy W' (some r)) (h1 : r ≠ gm) (h2 : v.ownBlock ≠ some r) (h3 : w.heap.size ≤ r) : CI w0 w W' g gm A c b i e v acc l := by
  have hw : w0.heap.size ≤ w.heap.size := Nat.le_trans h.rs.ge (Nat.le_of_lt h.glt)
  have hgl := h.glt
  exact ⟨h.rs.grown hg (by omega) (by omega), h.only.new hg h3, h.map_.grown hg (by simp; omega), own_kept h.row (fun k hk => hg.block k (own_lt h.row k hk) (fun e => h2 (hk.trans e))), h.gmge, h.glt, h.off⟩
/-- The map is written. -/
theorem CI.remap (h : CI w0 w W g gm A c b i e v acc l) {l' : List (Four × Value)} (hm : MapAt (encFour .u64) W' gm l') (hg : W.grownBy W' (some gm)) : CI w0 w W' g gm A c b i e v acc l' := by
  have hw : w0.heap.size ≤ w.heap.size := Nat.le_trans h.rs.ge (Nat.le_of_lt h.glt)
  have hgl := h.glt
  have hgm := h.gmge
  exact ⟨h.rs.grown hg (by omega) (by omega), h.only.new hg hgm, hm, own_kept h.row (fun k hk => hg.block k (own_lt h.row k hk) (fun e => h.off (hk.trans e))), h.gmge, h.glt, h.off⟩
/-- The list is grown. -/
theorem CI.append (h : CI w0 w W g gm A c b i e v acc l) {v' : Value} {x : Four} (ho : W'.ownsRow w.heap.size 76 4 v' (acc.length + 1) (acc.flatMap clsCells ++ clsCells x)) (hg : W.grownBy W' v.ownBlock) (hat : v'.ownBlock = v.ownBlock ∨ ∃ q, v'.ownBlock = some q ∧ W.heap.size ≤ q) : CI w0 w W' g gm A c b i e v' (acc ++ [x]) l := by
  have hw : w0.heap.size ≤ w.heap.size := Nat.le_trans h.rs.ge (Nat.le_of_lt h.glt)
  have hgl := h.glt
  have hgm := h.gmge
  have hbase : ∀ k, v.ownBlock = some k → w.heap.size ≤ k := fun k hk => own_base h.row k hk
  have hkeep : ∀ k, k < W.heap.size → k < w.heap.size ∨ k = gm → W'.heap[k]? = W.heap[k]? := fun k hk hor => hg.block k hk (fun e => by
    rcases hor with hor | rfl
    · have := hbase k e.symm; omega
    · exact h.off e.symm)
  have hold : Below w0.heap.size w0 W' := pw_below_grown h.rs.old v.ownBlock h.rs.old.size hg (fun k hk => by have := hbase k hk; omega)
  refine ⟨⟨(hkeep g (by have := h.only.1; omega) (.inl hgl)).trans h.rs.box, h.rs.ge, h.rs.rd, h.rs.cap, h.rs.len, h.rs.e_, h.rs.at_, hold⟩, ⟨Nat.le_trans h.only.1 hg.size, fun j hj hne => (hkeep j (Nat.lt_of_lt_of_le hj h.only.1) (.inl hj)).trans (h.only.2 j hj hne)⟩, h.map_.kept (hkeep gm h.map_.lt (.inr rfl)), ?_, h.gmge, h.glt, ?_⟩
  · rw [List.length_append, List.flatMap_append]
    simpa using ho
  · rcases hat with hat | ⟨q, hat, hq⟩
    · rw [hat]
      exact h.off
    · rw [hat]
      intro e
      injection e with e
      have := h.map_.lt
      omega
/-- The reader goes on. -/
theorem CI.step (h : CI w0 w W g gm A c b i e v acc l) {j : Nat} (hr : RS w0 W' g A c b j e 0 0) (ho : Only W W' g) : CI w0 w W' g gm A c b j e v acc l := by
  have hgl := h.glt
  have hgm := h.gmge
  exact ⟨hr, h.only.trans ho, h.map_.kept (ho.2 gm h.map_.lt (by omega)), own_kept h.row (fun k hk => ho.2 k (own_lt h.row k hk) (by have := own_base h.row k hk; omega)), h.gmge, h.glt, h.off⟩
end
theorem cls_keys : KeyKind Try.prog 76 (encFour .u64) := four_keys Try.underlying76 Try.underlying74 (by kernel_rfl)
/-- What 'seen[c]++' meets. -/
structure Incr (gm : Nat) (x : Four) (z st : Int) (L0 L1 L2 : List (Four × Value)) : Prop where
  first : ∀ W, MapAt (encFour .u64) W gm L0 → (Instr.lookup 140 (.map (some gm)) (encFour .u64 x) false).run Try.prog W = .ok (.int .i64 z) W
  second : ∀ W, MapAt (encFour .u64) W gm L1 → (Instr.lookup 140 (.map (some gm)) (encFour .u64 x) false).run Try.prog W = .ok (.int .i64 z) W
  entry : ∀ W, MapAt (encFour .u64) W gm L0 → ∃ W', (Instr.mapEntry 140 (.map (some gm)) (encFour .u64 x)).run Try.prog W = .ok (.tuple #[.int .i64 z, .int .i64 st]) W' ∧ MapAt (encFour .u64) W' gm L1 ∧ W.grownBy W' (some gm)
  store : ∀ W, MapAt (encFour .u64) W gm L1 → ∃ W', (Instr.entryStore 140 (.map (some gm)) (.int .i64 st) (.int .i64 (z + 1))).run Try.prog W = .ok () W' ∧ MapAt (encFour .u64) W' gm L2 ∧ W.grownBy W' (some gm)
  last : ∀ W, MapAt (encFour .u64) W gm L2 → (Instr.lookup 140 (.map (some gm)) (encFour .u64 x) false).run Try.prog W = .ok (.int .i64 (z + 1)) W
theorem look_run {gm : Nat} {x : Four} {L : List (Four × Value)} (W : World) (hm : MapAt (encFour .u64) W gm L) {z : Int} (h : (∃ j, mapFind x L 0 = some (j, .int .i64 z)) ∨ (mapFind x L 0 = none ∧ z = 0)) : (Instr.lookup 140 (.map (some gm)) (encFour .u64 x) false).run Try.prog W = .ok (.int .i64 z) W := by
  have := MapAt.lookup (P := Try.prog) cls_keys Try.underlying140 hm x (z := .int .i64 0) (by kernel_rfl) false
  rcases h with ⟨j, h⟩ | ⟨h, rfl⟩
  · rw [h] at this
    exact this
  · rw [h] at this
    exact this
theorem incr_new (gm : Nat) (x : Four) (acc : List Four) (h : x ∉ acc) : Incr gm x 0 acc.length (seenOnce acc) (seenOnce acc ++ [(x, .int .i64 0)]) (seenOnce (acc ++ [x])) := by
  have hmiss : x ∉ (seenOnce acc).map (·.1) := by rw [seen_keys]; exact h
  have hfind : ∀ u : Value, mapFind x (seenOnce acc ++ [(x, u)]) 0 = some (acc.length, u) := by
    intro u
    have key : ∀ (l : List (Four × Value)) (i : Nat), x ∉ l.map (·.1) → mapFind x (l ++ [(x, u)]) i = some (i + l.length, u) := by
      intro l
      induction l with
      | nil => intro i _; simp [mapFind]
      | cons p l ih =>
        intro i hx
        have h1 : ¬ x = p.1 := fun e => hx (by simp [e])
        rw [List.cons_append, mapFind, if_neg h1, ih (i + 1) (fun hm => hx (by simp only [List.map_cons, List.mem_cons]; exact .inr hm)), List.length_cons]
        congr 2
        omega
    have := key (seenOnce acc) 0 hmiss
    rw [this]
    simp [seenOnce]
  refine ⟨fun W hm => look_run W hm (.inr ⟨mapFind_none.2 hmiss, rfl⟩), fun W hm => look_run W hm (.inl ⟨_, hfind _⟩), fun W hm => ?_, fun W hm => ?_, fun W hm => look_run W hm (.inl ⟨acc.length, ?_⟩)⟩
  · have := map_entry_new (P := Try.prog) cls_keys Try.underlying140 hm x hmiss (z := .int .i64 0) (fun w => by kernel_rfl)
    rwa [show (seenOnce acc).length = acc.length by simp [seenOnce]] at this
  · have := map_entry_store (P := Try.prog) (t := 140) hm (j := acc.length) (x := x) (u := .int .i64 0) (by rw [List.getElem?_append_right (by simp [seenOnce])]; simp [seenOnce]) (.int .i64 1)
    have e : (seenOnce acc ++ [(x, Value.int .i64 0)]).set acc.length (x, .int .i64 1) = seenOnce (acc ++ [x]) := by
      rw [List.set_append_right _ _ (by simp [seenOnce])]
      simp [seenOnce]
    rwa [e] at this
  · have := hfind (.int .i64 1)
    rwa [show seenOnce acc ++ [(x, Value.int .i64 1)] = seenOnce (acc ++ [x]) by simp [seenOnce]] at this
theorem incr_hit (gm : Nat) (x : Four) (acc : List Four) (h : x ∈ acc) : ∃ (j : Nat) (L2 : List (Four × Value)), Incr gm x 1 j (seenOnce acc) (seenOnce acc) L2 := by
  obtain ⟨j, hj⟩ := seen_find h
  refine ⟨j, (seenOnce acc).set j (x, .int .i64 2), fun W hm => look_run W hm (.inl ⟨_, hj⟩), fun W hm => look_run W hm (.inl ⟨_, hj⟩), fun W hm => ?_, fun W hm => ?_, fun W hm => look_run W hm (.inl ⟨j, find_set _ hj⟩)⟩
  · exact map_entry_hit (P := Try.prog) cls_keys Try.underlying140 hm x hj
  · have h1 := (mapFind_some hj).2
    exact map_entry_store (P := Try.prog) (t := 140) hm h1 (.int .i64 2)
section
variable (w0 w : World) (g : Nat) (A : Option Addr) (c : Nat) (b : List Int) (i e : Nat)
set_option maxHeartbeats 2000000 in
set_option maxRecDepth 100000 in
theorem classes_ok (h : RS w0 w g A c b i e 0 0) (hby : ∀ x ∈ b, 0 ≤ x ∧ x < 256) (res : Except (Int × Int) (List Four × List Int)) (hres : ((manyL e i ((b.take e).drop i)).bind fun p => classesL e p.1.toNat [] p.2) = res) :
    Calls Try.prog 51 #[.pointer (some ⟨g, 0, none⟩)] w fun x w' => ∃ v, x = .returned v ∧ St w0 w' g A c b e (res.map (·.2)) ∧ Only w w' g ∧ (∀ acc r, res = .ok (acc, r) → w'.ownsRow w.heap.size 76 4 v acc.length (acc.flatMap clsCells)) ∧ IsSl v := by
  have HMA := Aside0.mk (many_ok w0 w g A c b i e h hby)
  have HY := Aside0.mk hby
  have GLT := Aside0.mk h.lt
  have H := Aside0.mk h
  clear h hby
  have HMB := Aside0.mk (fun n r => manyL_range (e := e) (fr := i) (l := (b.take e).drop i) (n := n) (r := r) (fun x hx => HY.out x (List.mem_of_mem_take (List.mem_of_mem_drop hx))))
  generalize manyL e i ((b.take e).drop i) = m at *
  match m with
  | .error f =>
    go_enter Try.func51, Try.ntmps51
    go_wp2_with (first
      | (go_at_call 87; refine HMA.out.mono ?_; rintro xx w1 ⟨v, rfl, hq1, hq2, hq3, hq4⟩; obtain rfl := hq4 f rfl; obtain ⟨j, hf, hrs⟩ := hq1; have HF := Aside0.mk hf; clear H; have H := Aside0.mk hrs; have HO := Aside0.mk hq2; clear hq2 hq3 hq4 hrs hf)
      | ((with_reducible refine gate_dst (N := 14) rfl ?_); refine map_event (encFour .u64) rfl 140 rfl ?_; intro gm hgm w2 hm hb2; have n1_ := Aside0.mk (H.out.below hb2); have n2_ := Aside0.mk (HO.out.trans (Only.of_below hb2 g)); clear H HO hm hb2; have H := n1_; have HO := n2_; clear n1_ n2_))
    refine wp_loop_once ?_
    go_wp2
    go_ret
    subst hres
    exact ⟨_, rfl, ⟨j, HF.out, H.out⟩, HO.out, (fun _ _ h => by cases h), ⟨_, _, _, rfl⟩⟩
  | .ok (n, r) =>
    have HMN := Aside0.mk (show (0 : Int) ≤ n from (HMB.out n r rfl).1)
    have HNB := Aside0.mk (show n ≤ 65536 from (HMB.out n r rfl).2)
    have HRES := Aside0.mk (show classesL e n.toNat [] r = res from hres)
    clear hres
    go_enter Try.func51, Try.ntmps51
    go_wp2_with (first
      | (go_at_call 87; refine HMA.out.mono ?_; rintro xx w1 ⟨v, rfl, hq1, hq2, hq3, hq4⟩; obtain rfl := (hq3 n r rfl).symm; obtain ⟨j, hrs, hr⟩ := hq1; have HR := Aside0.mk hr; clear H; have H := Aside0.mk hrs; have HO := Aside0.mk hq2; clear hq2 hq3 hq4 hrs hr)
      | ((with_reducible refine gate_dst (N := 14) rfl ?_); refine map_event (encFour .u64) rfl 140 rfl ?_; intro gm hgm w2 hm hb2; have HI := Aside0.mk (show CI w0 w w2 g gm A c b j e (.slice none 0 0) [] (seenOnce []) from ⟨H.out.below hb2, HO.out.trans (Only.of_below hb2 g), hm, World.ownsRow_nil w2 _ _ _, by rw [hgm]; exact HO.out.1, GLT.out, by simp [Value.ownBlock]⟩); clear H HO hm hb2 hgm))
    go_loopw [4, 6] (fun v4 v6 wr => ∃ (q : Nat) (acc : List Four), v6 = .int .i64 q ∧ Aside0 ((∃ at_, CI w0 w wr g gm A c b at_ e v4 acc (seenOnce acc) ∧ acc.length = q ∧ classesL e (n.toNat - q) acc ((b.take e).drop at_) = res ∧ q ≤ n.toNat) ∨ (∃ f at_, RS w0 wr g A c b at_ e f.1 f.2 ∧ f.2 ≠ 0 ∧ Only w wr g ∧ res = .error f ∧ q ≤ n.toNat ∧ IsSl v4))) (fun v4 v6 _ => n.toNat - (intOf v6).toNat)
    case atStart => exact ⟨0, [], rfl, ⟨.inl ⟨j, HI.out, rfl, by rw [← HR.out]; exact HRES.out, Nat.zero_le _⟩⟩⟩
    case round =>
      clear HI HR HRES HMA
      obtain ⟨q, acc, rfl, hcase⟩ := hrel
      have qb : (q : Int) ≤ 65536 := by
        have h1 := HNB.out
        have h2 := HMN.out
        rcases hcase.out with ⟨_, _, _, _, h3⟩ | ⟨_, _, _, _, _, _, h3, _⟩ <;> omega
      obtain ⟨at_, hci, haq, hres, hq⟩ | ⟨f, at_, hrs, hf, hon, rfl, hq, hsl⟩ := hcase.out
      · clear hcase
        have HI := Aside0.mk hci
        have hlen : ((b.take e).drop at_).length = e - at_ := by have := hci.rs.e_; rw [List.length_drop, List.length_take]; omega
        have hat := hci.rs.at_
        clear hci
        by_cases c1 : q < n.toNat
        · have b1 : decide ((q : Int) < n) = true := decide_eq_true (by omega)
          rw [show n.toNat - q = (n.toNat - (q + 1)) + 1 by omega, classesL, hlen] at hres
          by_cases c2 : e < at_ + 32
          · rw [if_pos (by omega)] at hres
            have HO := Aside0.mk HI.out.only
            have H := Aside0.mk HI.out.rs
            have h1 := H.out.c1
            go_wp2_with (first
              | (go_at_call 88; refine (take_short w0 _ g A c b at_ e 32 (by omega) H.out c2).mono ?_; rintro xx w1 ⟨rfl, hq1, hq2⟩; have n1_ := Aside0.mk hq1; have n2_ := Aside0.mk (HO.out.trans hq2); clear H HO h1 hq1 hq2 HI; have H := n1_; have HO := n2_; clear n1_ n2_)
              | (go_at_call 54; first | (refine (bad_same w0 _ g A c b _ _ _ 200 true H.out rfl).mono ?_; rintro xx w1 ⟨rfl, rfl⟩) | (refine (bad_same w0 _ g A c b _ _ 0 0 false H.out rfl).mono ?_; rintro xx w1 ⟨rfl, rfl⟩)))
            go_ret
            subst hres
            exact ⟨_, rfl, ⟨_, by simp, H.out⟩, HO.out, (fun _ _ h => by cases h), ⟨_, _, _, rfl⟩⟩
          · rw [if_neg (by omega)] at hres
            have hrd := cut_reads (i := at_) (n := 32) HI.out.rs.rd (by have := HI.out.rs.e_; omega)
            obtain ⟨ad, had, hcells⟩ : ∃ ad, cutAt A 32 at_ = some ad ∧ ∀ k < 32, w0.cell? (ad.add k) = some (.int .u8 (((b.drop at_).take 32).getD k 0)) := by
              obtain ⟨ad, had, _⟩ := Kd.at_int (n := 32) hrd 0 (by omega) (by omega)
              refine ⟨ad, had, fun k hk => ?_⟩
              obtain ⟨ad2, had2, h2⟩ := Kd.at_int (n := 32) hrd (k : Int) (by omega) (by omega)
              rw [had] at had2
              obtain rfl := Option.some.inj had2
              exact h2
            have HCE := Aside0.mk hcells
            have HT := Aside0.mk (take_ok w0 · g A c b at_ e 32 · (by omega))
            rw [had] at HT
            clear hrd hcells
            have h1 := HI.out.rs.c1
            go_wp2_with (first
              | (go_at_call 88; refine (HT.out _ HI.out.rs).mono ?_; rintro xx w1 ⟨rfl, hq1, hq2⟩; have n1_ := Aside0.mk (HI.out.step hq1 hq2); clear HI hq1 hq2; have HI := n1_; clear n1_)
              | (go_at_call 54; refine (bad_same w0 _ g A c b _ e 0 0 false HI.out.rs rfl).mono ?_; rintro xx w1 ⟨rfl, rfl⟩)
              | ((with_reducible refine gate_dst (N := 9) rfl ?_); refine box_event (N := 9) rfl rfl (cs := #[.int .u64 0, .int .u64 0, .int .u64 0, .int .u64 0]) (t := 76) ?hr2 ?_; (case hr2 => first | (go_simp; done) | (go_simp; rfl)); intro g9 hg9 w4 hbox hb4; have H9 := Aside0.mk (show w4.heap[g9]? = some (.cells (wdCells ((b.drop at_).take 32) 0).toArray 76 (0, 0)) by rw [wd_start]; exact hbox); have HG9 := Aside0.mk (show g9 ≠ gm ∧ u4.ownBlock ≠ some g9 ∧ w.heap.size ≤ g9 by have h2 := HI.out.map_.lt; have h3 := HI.out.only.1; refine ⟨by omega, fun h => ?_, by omega⟩; have := own_lt HI.out.row _ h; omega); have n1_ := Aside0.mk (HI.out.below hb4); clear HI hbox hb4 hg9; have HI := n1_; clear n1_))
            have epl : ((b.take e).drop at_).take 32 = (b.drop at_).take 32 := by
              rw [List.drop_take, List.take_take, Nat.min_eq_left (by omega)]
            have hpl : ((b.drop at_).take 32).length = 32 := by have := HI.out.rs.e_; rw [List.length_take, List.length_drop]; omega
            have hbp : ∀ x ∈ (b.drop at_).take 32, 0 ≤ x ∧ x < 256 := fun x hx => HY.out x (List.mem_of_mem_drop (List.mem_of_mem_take hx))
            rw [epl] at hres
            have HRES := Aside0.mk hres
            clear epl hres
            generalize (b.drop at_).take 32 = pl at *
            have HBP := Aside0.mk hbp
            clear hbp
            go_loopw [35] (fun v wq => ∃ (k : Nat), v = .int .i64 k ∧ k ≤ 32 ∧ Aside0 (CI w0 w wq g gm A c b (at_ + 32) e u4 acc (seenOnce acc)) ∧ Aside0 (wq.heap[g9]? = some (.cells (wdCells pl k).toArray 76 (0, 0)))) (fun v _ => 32 - (intOf v).toNat)
            case atStart => exact ⟨0, rfl, Nat.zero_le _, HI, H9⟩
            case round =>
              clear HI H9
              obtain ⟨k, rfl, hk, HI, H9⟩ := hrel
              by_cases c3 : k < 32
              · have b3 : decide ((k : Int) < 32) = true := decide_eq_true (by omega)
                have hk8 : k / 8 < 4 := by omega
                have hwd := fun x hx => wd_step pl hpl HBP.out k c3 x hx
                have hput := wd_put pl k c3
                have hcell := wd_cell pl k (k / 8) hk8
                have hx := (HI.out.rs.old.cell (World.block_lt_of_cell? w0 _ (HCE.out k c3))).trans (HCE.out k c3)
                obtain ⟨x, hpx⟩ : ∃ x, pl[k]? = some x := ⟨_, List.getElem?_eq_getElem (by omega)⟩
                rw [List.getD_eq_getElem?_getD, hpx, Option.getD_some] at hx
                have hbit := hwd x hpx
                clear hwd
                have hwq : IntKind.i64.wrap ((k : Int) / 8) = ((k / 8 : Nat) : Int) := by rw [IntWalk.i64_in _ (by omega)]; omega
                have htm : (k : Int).tmod 8 = ((k % 8 : Nat) : Int) := by rw [Int.tmod_eq_emod_of_nonneg (by omega)]; omega
                have hq8 : k % 8 < 8 := Nat.mod_lt _ (by decide)
                generalize k / 8 = j at *
                generalize k % 8 = q8 at *
                have hm8 : IntKind.i64.wrap (8 * (q8 : Int)) = 8 * (q8 : Int) := IntWalk.i64_in _ (by omega)
                have HBIT := Aside0.mk hbit
                have HPUT := Aside0.mk hput
                have hix9 : ∀ W : World, (Instr.indexAt 76 (.pointer (some ⟨g9, 0, none⟩)) (.int .i64 (j : Int))).run Try.prog W = .ok (.pointer (some ⟨g9, j, none⟩)) W := by
                  intro W
                  have hb0 : (0 : Int) ≤ (j : Int) ∧ (j : Int) < 4 := by omega
                  simp [Instr.indexAt, go_sem, hb0, Try.underlying76]
                  omega
                have hw : wr.cell? ⟨g9, j, none⟩ = some (.int .u64 (wd pl k j)) := by
                  rw [blk_cell H9.out]
                  simpa using hcell
                clear hcell hbit hput
                go_wp2
                go_still_tail 12, (by kernel_rfl)
                rw [show (8 * (q8 : Int)).toNat = 8 * q8 by omega, HBIT.out]
                change wpList _ _ _ _ _ wr.drew
                have n1_ := Aside0.mk (HI.out.below (below_drew (Below.refl wr.heap.size wr)))
                have n2_ := Aside0.mk (blk_below H9.out (below_drew (Below.refl wr.heap.size wr)))
                clear HI H9 hx hw
                have HI := n1_
                have H9 := n2_
                clear n1_ n2_
                generalize wr.drew = w5 at *
                refine put_event rfl rfl 74 (.tmp 51) (.tmp 50) rfl (off := j) (u := .int .u64 (wd pl (k + 1) j)) (seg := [.int .u64 (wd pl (k + 1) j)]) rfl rfl (show RowAt w5 g9 76 (wdCells pl k) from ⟨_, H9.out, by simp⟩) rfl (by kernel_rfl) (by simp [wdCells]; omega) (by simp [Value.oneCell']) ?_
                intro w6 hrow hgr
                have n1_ := Aside0.mk (HI.out.grown hgr HG9.out.1 HG9.out.2.1 HG9.out.2.2)
                have n2_ : Aside0 (w6.heap[g9]? = some (.cells (wdCells pl (k + 1)).toArray 76 (0, 0))) := ⟨by
                  rw [show j + [Value.int .u64 (wd pl (k + 1) j)].length = j + 1 from rfl, HPUT.out] at hrow
                  obtain ⟨cur, h1, h2⟩ := hrow
                  rw [h1, ← h2]⟩
                clear HI H9 hrow hgr
                have HI := n1_
                have H9 := n2_
                clear n1_ n2_
                go_wp2
                go_roundw
                case measure => simp [intOf]; omega
                case rel => exact ⟨k + 1, by go_num, by omega, HI, H9⟩
              · have hk32 : k = 32 := by omega
                subst hk32
                have H9' := Aside0.mk (show wr.heap[g9]? = some (.cells #[.int .u64 (clsOf pl).1, .int .u64 (clsOf pl).2.1, .int .u64 (clsOf pl).2.2.1, .int .u64 (clsOf pl).2.2.2] 76 (0, 0)) by rw [H9.out, wd_end]; rfl)
                clear H9
                have HAQ := Aside0.mk haq
                obtain ⟨z, st, L1, L2, hin, hz1, hz2⟩ : ∃ (z st : Int) (L1 L2 : List (Four × Value)), Incr gm (clsOf pl) z st (seenOnce acc) L1 L2 ∧ (clsOf pl ∈ acc → z = 1) ∧ (clsOf pl ∉ acc → z = 0 ∧ L2 = seenOnce (acc ++ [clsOf pl])) := by
                  by_cases cd : clsOf pl ∈ acc
                  · obtain ⟨j, L2, hi⟩ := incr_hit gm (clsOf pl) acc cd
                    exact ⟨1, j, _, L2, hi, fun _ => rfl, fun h => absurd cd h⟩
                  · exact ⟨0, _, _, _, incr_new gm (clsOf pl) acc cd, fun h => absurd h cd, fun _ => ⟨rfl, rfl⟩⟩
                have HIN := Aside0.mk hin
                have HZ1 := Aside0.mk hz1
                have HZ2 := Aside0.mk hz2
                clear hin hz1 hz2
                have hz01 : 0 ≤ z ∧ z ≤ 1 := by
                  by_cases cd : clsOf pl ∈ acc
                  · have := HZ1.out cd; omega
                  · have := (HZ2.out cd).1; omega
                have hzw : IntKind.i64.wrap (z + 1) = z + 1 := IntWalk.i64_in _ (by omega)
                go_wp2
                have n1_ := Aside0.mk (HI.out.below (below_drew (Below.refl wr.heap.size wr)))
                have n2_ := Aside0.mk (blk_below H9'.out (below_drew (Below.refl wr.heap.size wr)))
                clear HI H9'
                have HI := n1_
                have H9' := n2_
                clear n1_ n2_
                refine wp_region_held_drew (S := fun w' => w'.heap[g9]? = some (.cells #[.int .u64 (clsOf pl).1, .int .u64 (clsOf pl).2.1, .int .u64 (clsOf pl).2.2.1, .int .u64 (clsOf pl).2.2.2] 76 (0, 0))) (by kernel_rfl) H9'.out (fun hH => ?_)
                generalize wr.drew = w5 at *
                refine wpAnyH_take (i := 0) (oi := _) (v := .map (some gm)) rfl (by kernel_rfl) (by kernel_rfl) (by kernel_rfl) (fun _ _ _ h => h) (Or.inl ⟨by rfl, fun w _ => rfl⟩) hH ?_
                simp only [List.getElem_toArray, List.getElem_cons_zero, List.getElem_cons_succ, Act.put, List.setIfInBounds_toArray, List.set_cons_zero, List.set_cons_succ]
                refine wpAnyH_take (i := 1) (oi := _) (v := encFour .u64 (clsOf pl)) rfl (by kernel_rfl) (by kernel_rfl) (by kernel_rfl) (fun _ _ _ h => h) (Or.inl ⟨by rfl, fun w hw => ?_⟩) hH ?_
                · have q0 := blk_cell hw 0
                  have q1 := blk_cell hw 1
                  have q2 := blk_cell hw 2
                  have q3 := blk_cell hw 3
                  simp only [List.getElem?_toArray, List.getElem?_cons_zero, List.getElem?_cons_succ] at q0 q1 q2 q3
                  go_simp
                  rfl
                simp only [List.getElem_toArray, List.getElem_cons_zero, List.getElem_cons_succ, Act.put, List.setIfInBounds_toArray, List.set_cons_zero, List.set_cons_succ]
                refine wpAnyH_ready (rs := [2, 4]) (by kernel_rfl) (by simp) ?_
                refine AllReadyH.cons (o := _) rfl (fun K hK => ?A) (AllReadyH.cons (o := _) rfl (fun K hK => ?B) AllReadyH.nil)
                case' A =>
                  refine rstep_value (v := .int .i64 z) (w' := w5) (by rfl) (by have := HIN.out.first w5 HI.out.map_; go_simp) ?_
                  refine hK.out _ _ hH (fun _ => ?_)
                  clear hK K
                  simp only [List.getElem_toArray, List.getElem_cons_zero, List.getElem_cons_succ, Act.put, List.setIfInBounds_toArray, List.set_cons_zero, List.set_cons_succ]
                  refine wpAnyH_take (i := 3) (oi := _) (v := .int .i64 (z + 1)) rfl (by kernel_rfl) (by kernel_rfl) (by kernel_rfl) (fun _ _ _ h => h) (Or.inl ⟨by rfl, fun w hw => by go_simp⟩) hH ?_
                  simp only [List.getElem_toArray, List.getElem_cons_zero, List.getElem_cons_succ, Act.put, List.setIfInBounds_toArray, List.set_cons_zero, List.set_cons_succ]
                  refine wpAnyH_ready (rs := [4]) (by kernel_rfl) (by simp) ?_
                  refine AllReadyH.cons (o := _) rfl (fun K hK => ?_) AllReadyH.nil
                  obtain ⟨w6, hr6, hm6, hg6⟩ := HIN.out.entry w5 HI.out.map_
                  refine rstep_value (v := .tuple #[.int .i64 z, .int .i64 st]) (w' := w6) (by rfl) (by go_simp) ?_
                  have hH6 := (hg6.block g9 (blk_lt hH) (by simp; exact HG9.out.1)).trans hH
                  have HI6 := Aside0.mk (HI.out.remap hm6 hg6)
                  clear HI
                  refine hK.out _ _ hH6 (fun _ => ?_)
                  clear hK K hr6
                  simp only [List.getElem_toArray, List.getElem_cons_zero, List.getElem_cons_succ, Act.put, List.setIfInBounds_toArray, List.set_cons_zero, List.set_cons_succ]
                  refine wpAnyH_take (i := 5) (oi := _) (v := .int .i64 st) rfl (by kernel_rfl) (by kernel_rfl) (by kernel_rfl) (fun _ _ _ h => h) (Or.inl ⟨by rfl, fun w hw => by go_simp⟩) hH6 ?_
                  simp only [List.getElem_toArray, List.getElem_cons_zero, List.getElem_cons_succ, Act.put, List.setIfInBounds_toArray, List.set_cons_zero, List.set_cons_succ]
                case' B =>
                  obtain ⟨w6, hr6, hm6, hg6⟩ := HIN.out.entry w5 HI.out.map_
                  refine rstep_value (v := .tuple #[.int .i64 z, .int .i64 st]) (w' := w6) (by rfl) (by go_simp) ?_
                  have hH6 := (hg6.block g9 (blk_lt hH) (by simp; exact HG9.out.1)).trans hH
                  have HI6 := Aside0.mk (HI.out.remap hm6 hg6)
                  clear HI
                  refine hK.out _ _ hH6 (fun _ => ?_)
                  clear hK K hr6
                  simp only [List.getElem_toArray, List.getElem_cons_zero, List.getElem_cons_succ, Act.put, List.setIfInBounds_toArray, List.set_cons_zero, List.set_cons_succ]
                  refine wpAnyH_take (i := 5) (oi := _) (v := .int .i64 st) rfl (by kernel_rfl) (by kernel_rfl) (by kernel_rfl) (fun _ _ _ h => h) (Or.inl ⟨by rfl, fun w hw => by go_simp⟩) hH6 ?_
                  simp only [List.getElem_toArray, List.getElem_cons_zero, List.getElem_cons_succ, Act.put, List.setIfInBounds_toArray, List.set_cons_zero, List.set_cons_succ]
                  refine wpAnyH_ready (rs := [2]) (by kernel_rfl) (by simp) ?_
                  refine AllReadyH.cons (o := _) rfl (fun K hK => ?_) AllReadyH.nil
                  refine rstep_value (v := .int .i64 z) (w' := w6) (by rfl) (by have := HIN.out.second w6 hm6; go_simp) ?_
                  refine hK.out _ _ hH6 (fun _ => ?_)
                  clear hK K
                  simp only [List.getElem_toArray, List.getElem_cons_zero, List.getElem_cons_succ, Act.put, List.setIfInBounds_toArray, List.set_cons_zero, List.set_cons_succ]
                  refine wpAnyH_take (i := 3) (oi := _) (v := .int .i64 (z + 1)) rfl (by kernel_rfl) (by kernel_rfl) (by kernel_rfl) (fun _ _ _ h => h) (Or.inl ⟨by rfl, fun w hw => by go_simp⟩) hH6 ?_
                  simp only [List.getElem_toArray, List.getElem_cons_zero, List.getElem_cons_succ, Act.put, List.setIfInBounds_toArray, List.set_cons_zero, List.set_cons_succ]
                all_goals
                  refine wpAnyH_ready (rs := [6]) (by kernel_rfl) (by simp) ?_
                  refine AllReadyH.cons (o := _) rfl (fun K hK => ?_) AllReadyH.nil
                  obtain ⟨w7, hr7, hm7, hg7⟩ := HIN.out.store w6 hm6
                  refine rstep_skip (w' := w7) (by rfl) (by go_simp) ?_
                  have hH7 := (hg7.block g9 (blk_lt hH6) (by simp; exact HG9.out.1)).trans hH6
                  have HI := Aside0.mk (HI6.out.remap hm7 hg7)
                  clear HI6 hm6 hg6
                  refine hK.out _ _ hH7 (fun _ => ?_)
                  clear hK K hr7
                  simp only [List.getElem_toArray, List.getElem_cons_zero, List.getElem_cons_succ, Act.put, List.setIfInBounds_toArray, List.set_cons_zero, List.set_cons_succ]
                  refine wpAnyH_done (by kernel_rfl) ?_ _
                  have hlk : (Instr.lookup 140 (.map (some gm)) (.agg #[.int .u64 (clsOf pl).1, .int .u64 (clsOf pl).2.1, .int .u64 (clsOf pl).2.2.1, .int .u64 (clsOf pl).2.2.2]) false).run Try.prog w7 = .ok (.int .i64 (z + 1)) w7 := HIN.out.last w7 hm7
                  have q0 := blk_cell hH7 0
                  have q1 := blk_cell hH7 1
                  have q2 := blk_cell hH7 2
                  have q3 := blk_cell hH7 3
                  simp only [List.getElem?_toArray, List.getElem?_cons_zero, List.getElem?_cons_succ] at q0 q1 q2 q3
                  clear hm7 hg7 hH6 hH
                  by_cases cd : clsOf pl ∈ acc
                  · have hz := HZ1.out cd
                    subst hz
                    have hres := HRES.out
                    rw [if_pos cd] at hres
                    have HROW := Aside0.mk HI.out.row
                    have H := Aside0.mk HI.out.rs
                    have HO := Aside0.mk HI.out.only
                    go_wp2_with (first
                      | (go_at_call 55; refine (fail_ok w0 _ g A c b _ e _ _ H.out).mono ?_; rintro xx w8 ⟨rfl, hq1, hq2⟩; have n1_ := Aside0.mk hq1; have n2_ := Aside0.mk (HO.out.trans hq2); have n3_ := Aside0.mk (own_kept HROW.out (fun k hk => hq2.2 k (own_lt HROW.out k hk) (by have := own_base HROW.out k hk; have := HI.out.glt; omega))); have n4_ := Aside0.mk ((hq2.2 g9 (blk_lt hH7) (by have := HG9.out.2.2; have := HI.out.glt; omega)).trans hH7); clear H HO HROW hq1 hq2 hH7 q0 q1 q2 q3; have H := n1_; have HO := n2_; have HROW := n3_; have H98 := n4_; clear n1_ n2_ n3_ n4_; have q0 := blk_cell H98.out 0; have q1 := blk_cell H98.out 1; have q2 := blk_cell H98.out 2; have q3 := blk_cell H98.out 3; simp only [List.getElem?_toArray, List.getElem?_cons_zero, List.getElem?_cons_succ] at q0 q1 q2 q3)
                      | ((with_reducible refine gate_builtin (b := .append) (xs := #[.tmp 66, .tmp 68]) rfl ?_); at_builtin; refine print_append_cells w.heap.size rfl (.tmp 66) (.tmp 68) 85 76 (.agg #[.int .u64 0, .int .u64 0, .int .u64 0, .int .u64 0]) 4 32 rfl Try.underlying85 (by kernel_rfl) rfl (by decide) (by decide) u4 acc.length (acc.flatMap clsCells) (clsCells (clsOf pl)) rfl rfl rfl (by simp [clsCells, Value.oneCell']) HROW.out (Below.refl _ _) (HO.out.1) (by have := HAQ.out; have := HNB.out; have := HMN.out; omega) ?_; intro v5 w9 hown hbel hgr hat; have HSL := Aside0.mk (IsSl.own hown); have n1_ := Aside0.mk (H.out.through hgr (fun k hk => by have := own_base HROW.out k hk; have := HI.out.glt; have := HI.out.rs.ge; omega)); have n2_ := Aside0.mk (HO.out.through hgr (fun k hk => own_base HROW.out k hk)); clear H HO hown hgr hat hbel q0 q1 q2 q3; have H := n1_; have HO := n2_; clear n1_ n2_))
                    go_roundw
                    case measure => simp [intOf]; omega
                    case rel => exact ⟨q + 1, acc, by go_num, ⟨.inr ⟨(((at_ : Nat) : Int), 204), at_ + 32, H.out, by simp, HO.out, by rw [← hres, show e - (e - at_) = at_ by omega], by omega, HSL.out⟩⟩⟩
                  · obtain ⟨hz, hL2⟩ := HZ2.out cd
                    subst hz hL2
                    have hres := HRES.out
                    rw [if_neg cd] at hres
                    go_wp2_with (first
                      | ((with_reducible refine gate_builtin (b := .append) (xs := #[.tmp 66, .tmp 68]) rfl ?_); at_builtin; refine print_append_cells w.heap.size rfl (.tmp 66) (.tmp 68) 85 76 (.agg #[.int .u64 0, .int .u64 0, .int .u64 0, .int .u64 0]) 4 32 rfl Try.underlying85 (by kernel_rfl) rfl (by decide) (by decide) u4 acc.length (acc.flatMap clsCells) (clsCells (clsOf pl)) rfl rfl rfl (by simp [clsCells, Value.oneCell']) HI.out.row (Below.refl _ _) (HI.out.only.1) (by have := HAQ.out; have := HNB.out; have := HMN.out; omega) ?_; intro v5 w9 hown hbel hgr hat; have HSL := Aside0.mk (IsSl.own hown); have n1_ := Aside0.mk (HI.out.append hown hgr hat); clear HI hown hgr hat hbel q0 q1 q2 q3; have HI := n1_; clear n1_))
                    go_roundw
                    case measure => simp [intOf]; omega
                    case rel => exact ⟨q + 1, acc ++ [clsOf pl], by go_num, ⟨.inl ⟨at_ + 32, HI.out, by simp [haq], by rw [← hres, List.drop_drop], by omega⟩⟩⟩
        · have b1 : decide ((q : Int) < n) = false := decide_eq_false (by have := HMN.out; omega)
          rw [show n.toNat - q = 0 by omega, classesL] at hres
          go_wp2
          go_ret
          subst hres
          exact ⟨_, rfl, ⟨_, HI.out.rs, rfl⟩, HI.out.only, (fun acc' r' h => by injection h with h; injection h with h1 h2; rw [← h1]; exact HI.out.row), IsSl.own HI.out.row⟩
      · clear hcase
        have HF := Aside0.mk hf
        have H := Aside0.mk hrs
        have HO := Aside0.mk hon
        clear hf hrs hon
        by_cases c1 : q < n.toNat
        · have b1 : decide ((q : Int) < n) = true := decide_eq_true (by have := HMN.out; omega)
          go_wp2_with (first
            | (go_at_call 54; refine (bad_same w0 _ g A c b _ _ _ _ true H.out (by simpa using HF.out)).mono ?_; rintro xx w1 ⟨rfl, rfl⟩))
          go_ret
          exact ⟨_, rfl, ⟨_, HF.out, H.out⟩, HO.out, (fun _ _ h => by cases h), hsl⟩
        · have b1 : decide ((q : Int) < n) = false := decide_eq_false (by have := HMN.out; omega)
          go_wp2
          go_ret
          exact ⟨_, rfl, ⟨_, HF.out, H.out⟩, HO.out, (fun _ _ h => by cases h), hsl⟩
end
end Go.Proofs.Ytebiogaacikphaa.Pack
end
section
namespace Go.Proofs.Ytebiogaacikphaa.PAll
open Go.RowKit Go.Proofs.YtebiogaacikphaaW.PrintWords Go.Proofs.YtebiogaacikphaaW.PrintLast Go.Proofs.YtebiogaacikphaaW.PrintMore
set_option linter.unusedVariables false
set_option linter.unusedSimpArgs false
def dowelref04_letter.f (a0 : Int) : Option (Bool) := if a0 ≥ 97 then (if a0 ≤ 122 then (some true) else (if a0 ≥ 65 then (if a0 ≤ 90 then (some true) else (some (a0 == 95))) else (some (a0 == 95)))) else (if a0 ≥ 65 then (if a0 ≤ 90 then (some true) else (some (a0 == 95))) else (some (a0 == 95)))
set_option maxHeartbeats 8000000 in
set_option maxRecDepth 100000 in
theorem dowelref04_letter.calls (a0 : Int) (r : Bool) (w : World) (h : dowelref04_letter.f a0 = some r) :
    Calls Try.prog 112 #[.int .u8 a0] w fun e w' => e = .returned (.bool r) ∧ Drawn0 w w' := by
  have H : (if a0 ≥ 97 then (if a0 ≤ 122 then (some true) else (if a0 ≥ 65 then (if a0 ≤ 90 then (some true) else (some (a0 == 95))) else (some (a0 == 95)))) else (if a0 ≥ 65 then (if a0 ≤ 90 then (some true) else (some (a0 == 95))) else (some (a0 == 95)))) = some r := h
  clear h
  by_cases c2 : a0 ≥ 97
  · rw [if_pos c2] at H
    have c2b0 : decide (97 ≤ a0) = true := decide_eq_true c2
    clear c2
    by_cases c3 : a0 ≤ 122
    · rw [if_pos c3] at H
      have c3b0 : decide (a0 ≤ 122) = true := decide_eq_true c3
      clear c3
      obtain rfl := Option.some.inj H
      go_enter Try.func112, Try.ntmps112
      go_wp2
      go_ret
      exact ⟨by first | rfl | (simp; done) | (simp [*]; done), by repeat (first | exact Drawn0.refl _ | apply Drawn0.step)⟩
    · rw [if_neg c3] at H
      have c3b0 : decide (a0 ≤ 122) = false := decide_eq_false c3
      clear c3
      by_cases c4 : a0 ≥ 65
      · rw [if_pos c4] at H
        have c4b0 : decide (65 ≤ a0) = true := decide_eq_true c4
        clear c4
        by_cases c5 : a0 ≤ 90
        · rw [if_pos c5] at H
          have c5b0 : decide (a0 ≤ 90) = true := decide_eq_true c5
          clear c5
          obtain rfl := Option.some.inj H
          go_enter Try.func112, Try.ntmps112
          go_wp2
          go_ret
          exact ⟨by first | rfl | (simp; done) | (simp [*]; done), by repeat (first | exact Drawn0.refl _ | apply Drawn0.step)⟩
        · rw [if_neg c5] at H
          have c5b0 : decide (a0 ≤ 90) = false := decide_eq_false c5
          clear c5
          obtain rfl := Option.some.inj H
          go_enter Try.func112, Try.ntmps112
          go_wp2
          go_ret
          exact ⟨by first | rfl | (simp; done) | (simp [*]; done), by repeat (first | exact Drawn0.refl _ | apply Drawn0.step)⟩
      · rw [if_neg c4] at H
        have c4b0 : decide (65 ≤ a0) = false := decide_eq_false c4
        clear c4
        obtain rfl := Option.some.inj H
        go_enter Try.func112, Try.ntmps112
        go_wp2
        go_ret
        exact ⟨by first | rfl | (simp; done) | (simp [*]; done), by repeat (first | exact Drawn0.refl _ | apply Drawn0.step)⟩
  · rw [if_neg c2] at H
    have c2b0 : decide (97 ≤ a0) = false := decide_eq_false c2
    clear c2
    by_cases c6 : a0 ≥ 65
    · rw [if_pos c6] at H
      have c6b0 : decide (65 ≤ a0) = true := decide_eq_true c6
      clear c6
      by_cases c7 : a0 ≤ 90
      · rw [if_pos c7] at H
        have c7b0 : decide (a0 ≤ 90) = true := decide_eq_true c7
        clear c7
        obtain rfl := Option.some.inj H
        go_enter Try.func112, Try.ntmps112
        go_wp2
        go_ret
        exact ⟨by first | rfl | (simp; done) | (simp [*]; done), by repeat (first | exact Drawn0.refl _ | apply Drawn0.step)⟩
      · rw [if_neg c7] at H
        have c7b0 : decide (a0 ≤ 90) = false := decide_eq_false c7
        clear c7
        obtain rfl := Option.some.inj H
        go_enter Try.func112, Try.ntmps112
        go_wp2
        go_ret
        exact ⟨by first | rfl | (simp; done) | (simp [*]; done), by repeat (first | exact Drawn0.refl _ | apply Drawn0.step)⟩
    · rw [if_neg c6] at H
      have c6b0 : decide (65 ≤ a0) = false := decide_eq_false c6
      clear c6
      obtain rfl := Option.some.inj H
      go_enter Try.func112, Try.ntmps112
      go_wp2
      go_ret
      exact ⟨by first | rfl | (simp; done) | (simp [*]; done), by repeat (first | exact Drawn0.refl _ | apply Drawn0.step)⟩
def dowelref04_digit.f (a0 : Int) : Option (Bool) := if a0 ≥ 48 then (some (decide (a0 ≤ 57))) else (some false)
set_option maxHeartbeats 8000000 in
set_option maxRecDepth 100000 in
theorem dowelref04_digit.calls (a0 : Int) (r : Bool) (w : World) (h : dowelref04_digit.f a0 = some r) :
    Calls Try.prog 113 #[.int .u8 a0] w fun e w' => e = .returned (.bool r) ∧ Drawn0 w w' := by
  have H : (if a0 ≥ 48 then (some (decide (a0 ≤ 57))) else (some false)) = some r := h
  clear h
  by_cases c2 : a0 ≥ 48
  · rw [if_pos c2] at H
    have c2b0 : decide (48 ≤ a0) = true := decide_eq_true c2
    clear c2
    obtain rfl := Option.some.inj H
    go_enter Try.func113, Try.ntmps113
    go_wp2
    go_ret
    exact ⟨by first | rfl | (simp; done) | (simp [*]; done), by repeat (first | exact Drawn0.refl _ | apply Drawn0.step)⟩
  · rw [if_neg c2] at H
    have c2b0 : decide (48 ≤ a0) = false := decide_eq_false c2
    clear c2
    obtain rfl := Option.some.inj H
    go_enter Try.func113, Try.ntmps113
    go_wp2
    go_ret
    exact ⟨by first | rfl | (simp; done) | (simp [*]; done), by repeat (first | exact Drawn0.refl _ | apply Drawn0.step)⟩
mutual
def dowelref04_own.j0 : Nat → ByteArray → Int → Bool → Option (Int)
  | 0, _, _, _ => none
  | k + 1, x0, x1, x16 => if x16 = true then (some x1) else (dowelref04_own.l0 k x0 x1)
def dowelref04_own.l0 : Nat → ByteArray → Int → Option (Int)
  | 0, _, _ => none
  | k + 1, x0, x5 => if x5 < (x0.size : Int) then (if 0 ≤ x5 then ((dowelref04_letter.f (bt x0 x5)).bind fun t108 => (if t108 = true then (dowelref04_own.l0 k x0 (wrap64 (x5 + 1))) else ((dowelref04_digit.f (bt x0 x5)).bind fun t109 => (if t109 = true then (dowelref04_own.l0 k x0 (wrap64 (x5 + 1))) else (some x5))))) else (none)) else (some x5)
end
def dowelref04_own.f (k : Nat) (a0 : ByteArray) (a1 : Int) : Option (Int) := if a1 ≥ (a0.size : Int) then (dowelref04_own.j0 k a0 a1 true) else (if 0 ≤ a1 then (if a1 < (a0.size : Int) then ((dowelref04_letter.f (bt a0 a1)).bind fun t107 => (dowelref04_own.j0 k a0 a1 (!t107))) else (none)) else (none))
theorem dowelref04_own.mono_l : ∀ k, (∀ y0 y1 y2, LeO (dowelref04_own.j0 k y0 y1 y2) (dowelref04_own.j0 (k + 1) y0 y1 y2)) ∧ (∀ y0 y1, LeO (dowelref04_own.l0 k y0 y1) (dowelref04_own.l0 (k + 1) y0 y1))
  | 0 => ⟨fun _ _ _ r h => by simp [dowelref04_own.j0] at h, fun _ _ r h => by simp [dowelref04_own.l0] at h⟩
  | k + 1 => by
    obtain ⟨ih0, ih1⟩ := dowelref04_own.mono_l k
    refine ⟨?_, ?_⟩
    · intro y0 y1 y2
      unfold dowelref04_own.j0
      repeat' first
      | (with_reducible exact ih0 _ _ _)
      | (with_reducible exact ih1 _ _)
      | (with_reducible exact LeO.refl _)
      | (with_reducible exact LeO.none _)
      | (with_reducible refine LeO.ite ?_ ?_)
      | (with_reducible refine LeO.bind ?_ (fun _ => ?_))
      | exact ih0 _ _ _
      | exact ih1 _ _
      | exact LeO.none _
      | refine LeO.ite ?_ ?_
      | refine LeO.bind ?_ (fun _ => ?_)
    · intro y0 y1
      unfold dowelref04_own.l0
      repeat' first
      | (with_reducible exact ih0 _ _ _)
      | (with_reducible exact ih1 _ _)
      | (with_reducible exact LeO.refl _)
      | (with_reducible exact LeO.none _)
      | (with_reducible refine LeO.ite ?_ ?_)
      | (with_reducible refine LeO.bind ?_ (fun _ => ?_))
      | exact ih0 _ _ _
      | exact ih1 _ _
      | exact LeO.none _
      | refine LeO.ite ?_ ?_
      | refine LeO.bind ?_ (fun _ => ?_)
theorem dowelref04_own.mono : ∀ a0 a1 k, LeO (dowelref04_own.f k a0 a1) (dowelref04_own.f (k + 1) a0 a1) := by
  intro a0 a1 k
  obtain ⟨ih0, ih1⟩ := dowelref04_own.mono_l k
  unfold dowelref04_own.f
  repeat' first
      | (with_reducible exact ih0 _ _ _)
      | (with_reducible exact ih1 _ _)
      | (with_reducible exact LeO.refl _)
      | (with_reducible exact LeO.none _)
      | (with_reducible refine LeO.ite ?_ ?_)
      | (with_reducible refine LeO.bind ?_ (fun _ => ?_))
      | exact ih0 _ _ _
      | exact ih1 _ _
      | exact LeO.none _
      | refine LeO.ite ?_ ?_
      | refine LeO.bind ?_ (fun _ => ?_)
set_option maxHeartbeats 8000000 in
set_option maxRecDepth 100000 in
theorem dowelref04_own.calls (k : Nat) (a0 : ByteArray) (a1 : Int) (r : Int) (w : World) (h : dowelref04_own.f k a0 a1 = some r) :
    Calls Try.prog 102 #[.string a0, .int .i64 a1] w fun e w' => e = .returned (.int .i64 r) ∧ Drawn0 w w' := by
  have H : (if a1 ≥ (a0.size : Int) then (dowelref04_own.j0 k a0 a1 true) else (if 0 ≤ a1 then (if a1 < (a0.size : Int) then ((dowelref04_letter.f (bt a0 a1)).bind fun t107 => (dowelref04_own.j0 k a0 a1 (!t107))) else (none)) else (none))) = some r := h
  clear h
  have HC3 := Aside0.mk H
  clear H
  go_enter Try.func102, Try.ntmps102
  go_upto_region 1 with (fail)
  go_cut [16] (fun v16 wc => ∃ (kq : Nat) (x16_2 : Bool), v16 = .bool x16_2 ∧ Aside0 (dowelref04_own.j0 kq a0 a1 x16_2 = some r) ∧ Aside0 (kq ≤ k) ∧ Drawn0 w wc)
  case first =>
    have H := HC3.out
    clear HC3
    by_cases c4 : a1 ≥ (a0.size : Int)
    · rw [if_pos c4] at H
      have c4b0 : decide ((a0.size : Int) ≤ a1) = true := decide_eq_true c4
      clear c4
      (first | rw [c4b0] | (simp only [i64_w, i32_w]; rw [c4b0]) | skip)
      have H' := Aside0.mk H
      clear H
      go_wp2
      go_meet
      case rel => exact ⟨_, (true), (by first | rfl | (simp; done) | (simp [*]; done)), H', ⟨by first | omega | exact Nat.le_refl _⟩, by repeat (first | exact Drawn0.refl _ | apply Drawn0.step)⟩
    · rw [if_neg c4] at H
      have c4b0 : decide ((a0.size : Int) ≤ a1) = false := decide_eq_false c4
      clear c4
      (first | rw [c4b0] | (simp only [i64_w, i32_w]; rw [c4b0]) | skip)
      by_cases c5 : 0 ≤ a1
      · rw [if_pos c5] at H
        have c5b0 : decide (0 ≤ a1) = true := decide_eq_true c5
        clear c5
        by_cases c6 : a1 < (a0.size : Int)
        · rw [if_pos c6] at H
          have c6b0 : decide (a1 < (a0.size : Int)) = true := decide_eq_true c6
          clear c6
          replace H := Option.bind_eq_some_iff.mp H
          obtain ⟨t107, A80, H⟩ := H
          replace H : (dowelref04_own.j0 k a0 a1 (!t107)) = some r := H
          have A8 := Aside0.mk A80
          clear A80
          have H' := Aside0.mk H
          clear H
          have p7 : 0 ≤ (a1 : Int) := of_decide_eq_true (by first | (with_reducible assumption) | assumption)
          have q7 : a1 < (a0.size : Int) := of_decide_eq_true (by first | (with_reducible assumption) | assumption)
          have hx7 := bt_at a0 a1
          replace p7 := eq_true p7
          replace q7 := eq_true q7
          go_wp2_with (first | (go_at_call 112; (with_reducible refine (dowelref04_letter.calls (bt a0 a1) t107 _ A8.out).mono ?_); rintro e w' ⟨rfl, ⟨nd, rfl⟩⟩))
          go_meet
          case rel => exact ⟨_, (!t107), (by first | rfl | (simp; done) | (simp [*]; done)), H', ⟨by first | omega | exact Nat.le_refl _⟩, by repeat (first | exact Drawn0.refl _ | apply Drawn0.step)⟩
        · rw [if_neg c6] at H
          exact absurd H (by simp)
      · rw [if_neg c5] at H
        exact absurd H (by simp)
  case rest =>
    clear HC3
    try clear c1
    try clear p2
    try clear c4
    try clear c4b0
    try clear c5
    try clear c5b0
    try clear c6
    try clear c6b0
    try clear p7
    try clear q7
    try clear hx7
    try clear p7
    try clear q7
    obtain ⟨kq, x16_2, rfl, HA, HJ2, ⟨mc2, rfl⟩⟩ := hcut
    cases kq with
    | zero => exact absurd HA.out (by simp [dowelref04_own.j0])
    | succ kj2 =>
      have H := HA.out
      clear HA
      simp only [dowelref04_own.j0] at H
      by_cases c9 : x16_2 = true
      · subst c9
        have H1 : (some a1) = some r := by rw [if_pos rfl] at H; exact H
        clear H
        have H := H1
        clear H1
        obtain rfl := Option.some.inj H
        go_wp2
        go_ret
        exact ⟨by first | rfl | (simp; done) | (simp [*]; done), by repeat (first | exact Drawn0.refl _ | apply Drawn0.step)⟩
      · replace c9 := Bool.eq_false_iff.mpr c9
        subst c9
        have H1 : (dowelref04_own.l0 kj2 a0 a1) = some r := by rw [if_neg (show ¬ (false = true) by decide)] at H; exact H
        clear H
        have H := H1
        clear H1
        have H' := Aside0.mk H
        clear H
        go_wp2
        go_loopg [5] kj2 (fun kq v5 w' => ∃ (x5_2 : Int), v5 = .int .i64 x5_2 ∧ Aside0 (dowelref04_own.l0 kq a0 x5_2 = some r) ∧ Aside0 (kq ≤ kj2) ∧ Drawn0 w w')
        case atStart => exact ⟨(a1), (by first | rfl | (simp; done) | (simp [*]; done)), H', ⟨Nat.le_refl _⟩, by repeat (first | exact Drawn0.refl _ | apply Drawn0.step)⟩
        case round =>
          clear H'
          try clear c1
          try clear c2
          try clear p2
          try clear c4
          try clear c4b0
          try clear c5
          try clear c5b0
          try clear c6
          try clear c6b0
          try clear p7
          try clear q7
          try clear hx7
          try clear c9
          try clear p2
          try clear p7
          try clear q7
          obtain ⟨x5_2, rfl, HA, HK2, ⟨m2, rfl⟩⟩ := hrel
          cases gk with
          | zero => exact absurd HA.out (by simp [dowelref04_own.l0])
          | succ k2 =>
            have H := HA.out
            clear HA
            simp only [dowelref04_own.l0] at H
            by_cases c10 : x5_2 < (a0.size : Int)
            · rw [if_pos c10] at H
              have c10b0 : decide (x5_2 < (a0.size : Int)) = true := decide_eq_true c10
              clear c10
              by_cases c11 : 0 ≤ x5_2
              · rw [if_pos c11] at H
                have c11b0 : decide (0 ≤ x5_2) = true := decide_eq_true c11
                clear c11
                replace H := Option.bind_eq_some_iff.mp H
                obtain ⟨t108, A130, H⟩ := H
                replace H : (if t108 = true then (dowelref04_own.l0 k2 a0 (wrap64 (x5_2 + 1))) else ((dowelref04_digit.f (bt a0 x5_2)).bind fun t109 => (if t109 = true then (dowelref04_own.l0 k2 a0 (wrap64 (x5_2 + 1))) else (some x5_2)))) = some r := H
                have A13 := Aside0.mk A130
                clear A130
                by_cases c14 : t108 = true
                · subst c14
                  have H1 : (dowelref04_own.l0 k2 a0 (wrap64 (x5_2 + 1))) = some r := by rw [if_pos rfl] at H; exact H
                  clear H
                  have H := H1
                  clear H1
                  have H' := Aside0.mk H
                  clear H
                  have p12 : 0 ≤ (x5_2 : Int) := of_decide_eq_true (by first | (with_reducible assumption) | assumption)
                  have q12 : x5_2 < (a0.size : Int) := of_decide_eq_true (by first | (with_reducible assumption) | assumption)
                  have hx12 := bt_at a0 x5_2
                  replace p12 := eq_true p12
                  replace q12 := eq_true q12
                  go_wp2_with (first | (go_at_call 112; (with_reducible refine (dowelref04_letter.calls (bt a0 x5_2) true _ A13.out).mono ?_); rintro e w' ⟨rfl, ⟨nd, rfl⟩⟩))
                  go_roundg k2
                  case measure => have := HJ2.out; have := HK2.out; omega
                  case rel => exact ⟨(wrap64 (x5_2 + 1)), (by first | rfl | (simp; done) | (simp [*]; done)), H', ⟨by have := HJ2.out; have := HK2.out; omega⟩, by repeat (first | exact Drawn0.refl _ | apply Drawn0.step)⟩
                · replace c14 := Bool.eq_false_iff.mpr c14
                  subst c14
                  have H1 : ((dowelref04_digit.f (bt a0 x5_2)).bind fun t109 => (if t109 = true then (dowelref04_own.l0 k2 a0 (wrap64 (x5_2 + 1))) else (some x5_2))) = some r := by rw [if_neg (show ¬ (false = true) by decide)] at H; exact H
                  clear H
                  have H := H1
                  clear H1
                  replace H := Option.bind_eq_some_iff.mp H
                  obtain ⟨t109, A160, H⟩ := H
                  replace H : (if t109 = true then (dowelref04_own.l0 k2 a0 (wrap64 (x5_2 + 1))) else (some x5_2)) = some r := H
                  have A16 := Aside0.mk A160
                  clear A160
                  by_cases c17 : t109 = true
                  · subst c17
                    have H1 : (dowelref04_own.l0 k2 a0 (wrap64 (x5_2 + 1))) = some r := by rw [if_pos rfl] at H; exact H
                    clear H
                    have H := H1
                    clear H1
                    have H' := Aside0.mk H
                    clear H
                    have p12 : 0 ≤ (x5_2 : Int) := of_decide_eq_true (by first | (with_reducible assumption) | assumption)
                    have q12 : x5_2 < (a0.size : Int) := of_decide_eq_true (by first | (with_reducible assumption) | assumption)
                    have hx12 := bt_at a0 x5_2
                    replace p12 := eq_true p12
                    replace q12 := eq_true q12
                    go_wp2_with (first | (go_at_call 112; (with_reducible refine (dowelref04_letter.calls (bt a0 x5_2) false _ A13.out).mono ?_); rintro e w' ⟨rfl, ⟨nd, rfl⟩⟩; have p15 : 0 ≤ (x5_2 : Int) := of_decide_eq_true (by first | (with_reducible assumption) | assumption); have q15 : x5_2 < (a0.size : Int) := of_decide_eq_true (by first | (with_reducible assumption) | assumption); have hx15 := bt_at a0 x5_2; replace p15 := eq_true p15; replace q15 := eq_true q15) | (go_at_call 113; (with_reducible refine (dowelref04_digit.calls (bt a0 x5_2) true _ A16.out).mono ?_); rintro e w' ⟨rfl, ⟨nd, rfl⟩⟩))
                    go_roundg k2
                    case measure => have := HJ2.out; have := HK2.out; omega
                    case rel => exact ⟨(wrap64 (x5_2 + 1)), (by first | rfl | (simp; done) | (simp [*]; done)), H', ⟨by have := HJ2.out; have := HK2.out; omega⟩, by repeat (first | exact Drawn0.refl _ | apply Drawn0.step)⟩
                  · replace c17 := Bool.eq_false_iff.mpr c17
                    subst c17
                    have H1 : (some x5_2) = some r := by rw [if_neg (show ¬ (false = true) by decide)] at H; exact H
                    clear H
                    have H := H1
                    clear H1
                    obtain rfl := Option.some.inj H
                    have p12 : 0 ≤ (x5_2 : Int) := of_decide_eq_true (by first | (with_reducible assumption) | assumption)
                    have q12 : x5_2 < (a0.size : Int) := of_decide_eq_true (by first | (with_reducible assumption) | assumption)
                    have hx12 := bt_at a0 x5_2
                    replace p12 := eq_true p12
                    replace q12 := eq_true q12
                    go_wp2_with (first | (go_at_call 112; (with_reducible refine (dowelref04_letter.calls (bt a0 x5_2) false _ A13.out).mono ?_); rintro e w' ⟨rfl, ⟨nd, rfl⟩⟩; have p15 : 0 ≤ (x5_2 : Int) := of_decide_eq_true (by first | (with_reducible assumption) | assumption); have q15 : x5_2 < (a0.size : Int) := of_decide_eq_true (by first | (with_reducible assumption) | assumption); have hx15 := bt_at a0 x5_2; replace p15 := eq_true p15; replace q15 := eq_true q15) | (go_at_call 113; (with_reducible refine (dowelref04_digit.calls (bt a0 x5_2) false _ A16.out).mono ?_); rintro e w' ⟨rfl, ⟨nd, rfl⟩⟩))
                    go_ret
                    exact ⟨by first | rfl | (simp; done) | (simp [*]; done), by repeat (first | exact Drawn0.refl _ | apply Drawn0.step)⟩
              · rw [if_neg c11] at H
                exact absurd H (by simp)
            · rw [if_neg c10] at H
              have c10b0 : decide (x5_2 < (a0.size : Int)) = false := decide_eq_false c10
              clear c10
              obtain rfl := Option.some.inj H
              go_wp2
              go_ret
              exact ⟨by first | rfl | (simp; done) | (simp [*]; done), by repeat (first | exact Drawn0.refl _ | apply Drawn0.step)⟩
end Go.Proofs.Ytebiogaacikphaa.PAll
end
section
namespace Go.Proofs.Ytebiogaacikphaa.PAll
open Go.RowKit Go.Proofs.YtebiogaacikphaaW.PrintWords Go.Proofs.YtebiogaacikphaaW.PrintLast Go.Proofs.YtebiogaacikphaaW.PrintMore
set_option linter.unusedVariables false
set_option linter.unusedSimpArgs false
def dowelbase_Own.l0 : Nat → ByteArray → Int → Option (Bool)
  | 0, _, _ => none
  | k + 1, x0, x3 => if x3 < (x0.size : Int) then (if 0 ≤ x3 then (if (bt x0 x3) = 58 then (some false) else (if (bt x0 x3) = 126 then (some false) else (dowelbase_Own.l0 k x0 (wrap64 (x3 + 1))))) else (none)) else (some true)
def dowelbase_Own.f (k : Nat) (a0 : ByteArray) : Option (Bool) := dowelbase_Own.l0 k a0 0
end Go.Proofs.Ytebiogaacikphaa.PAll
end
