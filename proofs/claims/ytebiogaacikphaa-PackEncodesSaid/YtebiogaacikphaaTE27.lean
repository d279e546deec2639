/- Parts of the proof of packEncodes: RefEncodeKit. No condition beyond each lemma's own. -/
import Derived.Test.YtebiogaacikphaaTE6
import Derived.Test.YtebiogaacikphaaTE8
import Derived.Test.YtebiogaacikphaaTE14
import Derived.Test.YtebiogaacikphaaTE17
import Derived.Test.YtebiogaacikphaaTE23
import Derived.Test.YtebiogaacikphaaTE24
import Derived.Test.YtebiogaacikphaaTE26
section
namespace Go.Proofs.YtebiogaacikphaaW.PrintWords
open Go.RowKit
section
variable {P : Program} {ops : Array Oper} {o : Oper} {a : Act} {Q : Exit → Act → World → Prop} {Kc : Act → World → Prop}
/-- 'append(b, s...)', s a string, as one step of a region that draws its order. -/
theorem rstep_append_str {W : World} (base : Nat) (hw : Region.wanted o (yielded ops a.tmps) = true) (s x : Operand) (t u e : TypeId)
    (ho : o.op = .call { callee := .builtin .append, args := #[s, x], argTypes := #[t, u] })
    (ht : P.underlying t = some (.slice e)) (hu : P.underlying u = some .string) (hinfo : (P.info? e).map (fun i => (i.zero, i.size, i.bytes)) = some (some (.int .u8 0), 1, 1))
    (v : Value) (xs : List Int) (y : ByteArray) (hs : a.eval s = v) (hx : a.eval x = .string y)
    (HO : W.ownsRow base e 1 v xs.length (nums .u8 xs)) (hbase : base ≤ W.heap.size) (hl : xs.length + y.size ≤ 140737488355328)
    (h : ∀ v1 w1, w1.ownsRow base e 1 v1 (xs ++ bytesOf y).length (nums .u8 (xs ++ bytesOf y)) → W.grownBy w1 v.ownBlock → Kc (a.put o.dst v1) w1) :
    if Region.wanted o (yielded ops a.tmps) = true then Oper.wp P o a W Kc Q else Kc (a.put o.dst undef) W := by
  obtain ⟨i0, hi, hzz⟩ := Option.map_eq_some_iff.1 hinfo
  simp only [Prod.mk.injEq] at hzz
  obtain ⟨hz0, hz1, hz2⟩ := hzz
  obtain ⟨v', w', hr, h2, h3, h4⟩ := Lib.run_append_own_string (P := P) W base t u o.type e i0 ht hu hi hz0 hz1 hz2 v xs.length (nums .u8 xs) HO y (by simp only [maxLen]; omega) hl hbase
  have hl2 : (xs ++ bytesOf y).length = xs.length + y.size := by rw [List.length_append, bytesOf_length]
  have hc : nums .u8 (xs ++ bytesOf y) = nums .u8 xs ++ Lib.strCells y := by
    rw [nums_append]
    congr 1
    simp [nums, bytesOf, Lib.strCells]
  rw [if_pos hw]
  unfold Oper.wp execOp
  simp only [ho, resolve, invoke, builtin, Sem.run_bind, Sem.run_pure, Result.andThen_ok, List.map_toArray, List.map_cons, List.map_nil, hs, hx, hr]
  exact h v' w' (by rw [hl2, hc]; exact h2) h3
end
end Go.Proofs.YtebiogaacikphaaW.PrintWords
namespace Go.Proofs.Ytebiogaacikphaa.Pack
open Go.RowKit Go.Proofs.YtebiogaacikphaaW.PrintWords Go.Proofs.Ytebiogaacikphaa.PAll Go.Proofs.Ytebiogaacikphaa.Names
set_option linter.unusedVariables false
set_option linter.unusedSimpArgs false
/-- The bytes so far, all made behind w0. -/
structure BI (w0 W : World) (v : Value) (b : List Int) : Prop where
  bel : Below w0.heap.size w0 W
  own : W.ownsRow w0.heap.size 5 1 v b.length (nums .u8 b)
section
variable {w0 W W' : World} {v v' : Value} {b b' : List Int}
theorem BI.below (h : BI w0 W v b) (hb : Below W.heap.size W W') : BI w0 W' v b := ⟨below_step h.bel hb, own_kept h.own (fun k hk => hb.block k (own_lt h.own k hk))⟩
theorem BI.grown (h : BI w0 W v b) (hg : W.grownBy W' v.ownBlock) (ho : W'.ownsRow w0.heap.size 5 1 v' b'.length (nums .u8 b')) : BI w0 W' v' b' :=
  ⟨pw_below_grown h.bel v.ownBlock h.bel.size hg (fun k hk => own_base h.own k hk), ho⟩
theorem BI.push (h : BI w0 W v b) {y : Int} (hown : W'.ownsRow w0.heap.size 5 1 v' (b.length + 1) (nums .u8 b ++ [.int .u8 y])) (hg : W.grownBy W' v.ownBlock) : BI w0 W' v' (b ++ [y]) := by
  refine h.grown hg ?_
  rw [List.length_append, nums_append]
  exact hown
theorem countR_lit (h : BI w0 W v b) (n : Nat) (hb : b.length + n < 140737488355328) :
    Calls Try.prog 79 #[v, .int .i64 (n : Int)] W fun e W' => ∃ v', e = .returned v' ∧ BI w0 W' v' (b ++ cntE n) := by
  obtain ⟨kf, hkf⟩ := countR_ev n n (Nat.le_refl _) b hb
  have hcall := dowelref20_count.calls kf (fun k => v.ownBlock = some k) v b (n : Int) _ w0 W h.bel (Kd.R_of_own h.own (fun k hk => hk)) (hkf kf (Nat.le_refl _))
  refine hcall.mono ?_
  rintro e W' ⟨v', rfl, hR, hb', hk'⟩
  exact ⟨v', rfl, hb', Kd.own_of_R hR⟩
theorem sumR_lit (h : BI w0 W v b) (hb : b.length ≤ 140737488351232) : Calls Try.prog 29 #[v] W fun e W' => e = .returned (.int .u32 (crcL b)) ∧ BI w0 W' v b := by
  obtain ⟨A, c, rfl, hc, hr⟩ := Kd.R_reads (Kd.R_of_own (h1 := fun _ => rfl) (ok := fun _ => True) h.own (fun k hk => trivial))
  refine (refsum_lit A c b W hr hc hb).mono ?_
  rintro e W' ⟨he, hd⟩
  exact ⟨he, h.below hd.below⟩
end
theorem kindR_lit (a v : Int) (hv : kindOf a = v) (w : World) : Calls Try.prog 80 #[.int .i64 a] w fun e w' => e = .returned (.int .i64 v) ∧ Below w.heap.size w w' := by
  subst hv
  obtain ⟨k, hk⟩ := kindR_ev a
  exact (dowelref20_kind.calls k a _ w (hk k (Nat.le_refl _))).mono fun e w' ⟨he, hd⟩ => ⟨he, hd.below⟩
theorem chunks : ∀ (S : List Four) (inner : List Value), inner.length = S.length * 4 → (∀ j y, S[j]? = some y → (inner.drop (j * 4)).take 4 = clsCells y) → inner = S.flatMap clsCells
  | [], inner, h, _ => by
    rw [List.length_nil, Nat.zero_mul] at h
    exact List.length_eq_zero_iff.1 h
  | y :: S, inner, h, hc => by
    rw [List.length_cons] at h
    have h0 := hc 0 y rfl
    rw [Nat.zero_mul, List.drop_zero] at h0
    have ih := chunks S (inner.drop 4) (by rw [List.length_drop]; omega) (fun j z hz => by
      have := hc (j + 1) z (by simpa using hz)
      rw [List.drop_drop, show 4 + j * 4 = (j + 1) * 4 by omega]
      exact this)
    rw [List.flatMap_cons, ← ih, ← h0, List.take_append_drop]
theorem ownC_of_R {e : Nat} {w : World} {base : Nat} {ok : Nat → Prop} {v : Value} {S : List Four} (h : Kd.R k76 e w base ok v (S.map toC)) : w.ownsRow base e 4 v S.length (S.flatMap clsCells) := by
  obtain ⟨_, inner, ho, hlen, hr⟩ := h
  rw [List.length_map] at ho hlen
  have he : inner = S.flatMap clsCells := by
    refine chunks S inner hlen (fun j y hy => ?_)
    have h1 := hr j (toC y) (by rw [List.getElem?_map, hy]; rfl)
    exact k76_openM h1
  rw [← he]
  exact ho
theorem ownS_of_R {e : Nat} {w : World} {base : Nat} {ok : Nat → Prop} {v : Value} {xs : List ByteArray} (h : Kd.R Kd.string e w base ok v xs) : w.ownsRow base e 1 v xs.length (xs.map Value.string) := by
  obtain ⟨_, inner, ho, hlen, hr⟩ := h
  have he : inner = xs.map Value.string := by
    refine List.ext_getElem? (fun j => ?_)
    have hlen : inner.length = xs.length * 1 := hlen
    rw [Nat.mul_one] at hlen
    rcases Nat.lt_or_ge j xs.length with h | h
    · have h1 := hr j xs[j] (List.getElem?_eq_getElem h)
      have h2 : (inner.drop (j * 1)).take 1 = [Value.string xs[j]] := h1
      rw [Nat.mul_one] at h2
      rw [List.getElem?_map, List.getElem?_eq_getElem h]
      have h3 := congrArg (fun l => l[0]?) h2
      simp only [List.getElem?_take, List.getElem?_drop] at h3
      simpa using h3
    · rw [List.getElem?_eq_none (by omega), List.getElem?_eq_none (by simpa using h)]
  rw [← he]
  exact ho
/-- The tables. -/
theorem tables_lit (A : Option Addr) (c : Nat) (l : List Ins) (w : World) (hr : Kd.C k78 w A l.length l) (hc : l.length ≤ c) (hl : l.length ≤ 65536) :
    Calls Try.prog 78 #[.slice A l.length c] w fun e w' => ∃ v0 v1 v2, e = .returned (.agg #[v0, v1, v2]) ∧
      w'.ownsRow w.heap.size 76 4 v0 (l.foldl addC []).length ((l.foldl addC []).flatMap clsCells) ∧ w'.ownsRow w.heap.size 9 1 v1 (l.foldl addN []).length ((l.foldl addN []).map Value.string) ∧ w'.ownsRow w.heap.size 3 1 v2 l.length ((l.map (tabN (l.foldl addC []) (l.foldl addN []))).map (Value.int .i64)) ∧ Below w.heap.size w w' := by
  obtain ⟨k, hk⟩ := tables_ev l hl
  refine (dowelref20_tables.calls k A c l _ _ _ w hr hc (hk k (Nat.le_refl _))).mono ?_
  rintro e w' ⟨v0, v1, v2, rfl, h0, h1, h2, hb⟩
  have h2' := Kd.own_of_R h2
  rw [List.length_map] at h2'
  exact ⟨v0, v1, v2, rfl, ownC_of_R h0, ownS_of_R h1, h2', hb⟩
theorem int_at {base : Nat} {W : World} {v : Value} {N : List Int} {m : Nat} (h : W.ownsRow base 3 1 v m (N.map (Value.int .i64))) {n : Nat} {x : Int} (hx : N[n]? = some x) (hn : n < m) : ∃ g cap, v = .slice (some ⟨g, 0, none⟩) m cap ∧ W.cell? ⟨g, n, none⟩ = some (.int .i64 x) := by
  rcases h.2 with ⟨_, h0⟩ | ⟨g, cap, cur, rfl, _⟩
  · omega
  · refine ⟨g, cap, rfl, ?_⟩
    have := h.cells (g := g) rfl n (.int .i64 x) (by rw [List.getElem?_map, hx]; rfl)
    rwa [Go.Proofs.YtebiogaacikphaaW.PrintWords.add_plain] at this
theorem leN_get : ∀ (n : Nat) (s : Int) (r : Nat), r < n → (leN n s)[r]? = some (s / 256 ^ r % 256)
  | 0, s, r, h => by omega
  | n + 1, s, 0, h => by simp [leN]
  | n + 1, s, r + 1, h => by
    rw [leN, List.getElem?_cons_succ, leN_get n (s / 256) r (by omega), Int.pow_succ, Int.mul_comm, Int.ediv_ediv_of_nonneg (by decide)]
/-- Word j of a class. -/
def wordJ (c : Four) (j : Nat) : Int := if j = 0 then c.1 else if j = 1 then c.2.1 else if j = 2 then c.2.2.1 else c.2.2.2
theorem cell_below {w W : World} {g i : Nat} {u : Value} (h : w.cell? ⟨g, i, none⟩ = some u) (hg : g < w.heap.size) (hb : Below w.heap.size w W) : W.cell? ⟨g, i, none⟩ = some u := by
  have e := hb.block g hg
  unfold World.cell? at h ⊢
  simp only [e]
  exact h
theorem word_cell (c : Four) (j : Nat) (h : j < 4) : (clsCells c)[j]? = some (.int .u64 (wordJ c j)) := by
  match j, h with
  | 0, _ => rfl
  | 1, _ => rfl
  | 2, _ => rfl
  | 3, _ => rfl
theorem clsE_get (c : Four) (k : Nat) (h : k < 32) : (clsE c)[k]? = some (wordJ c (k / 8) / 256 ^ (k % 8) % 256) := by
  have h8 : k % 8 < 8 := Nat.mod_lt _ (by decide)
  have hk : k = 8 * (k / 8) + k % 8 := by omega
  generalize k / 8 = j at *
  generalize k % 8 = r at *
  subst hk
  have g0 := leN_get 8 c.1 r h8
  have g1 := leN_get 8 c.2.1 r h8
  have g2 := leN_get 8 c.2.2.1 r h8
  have g3 := leN_get 8 c.2.2.2 r h8
  unfold clsE wordJ
  match j, (show j < 4 by omega) with
  | 0, _ => rw [List.getElem?_append_left (by rw [leN_length]; omega), show 8 * 0 + r = r by omega, g0]; rfl
  | 1, _ => rw [List.getElem?_append_right (by rw [leN_length]; omega), leN_length, show 8 * 1 + r - 8 = r by omega, List.getElem?_append_left (by rw [leN_length]; omega), g1]; rfl
  | 2, _ => rw [List.getElem?_append_right (by rw [leN_length]; omega), leN_length, show 8 * 2 + r - 8 = 8 + r by omega, List.getElem?_append_right (by rw [leN_length]; omega), leN_length, show 8 + r - 8 = r by omega, List.getElem?_append_left (by rw [leN_length]; omega), g2]; rfl
  | 3, _ => rw [List.getElem?_append_right (by rw [leN_length]; omega), leN_length, show 8 * 3 + r - 8 = 16 + r by omega, List.getElem?_append_right (by rw [leN_length]; omega), leN_length, show 16 + r - 8 = 8 + r by omega, List.getElem?_append_right (by rw [leN_length]; omega), leN_length, show 8 + r - 8 = r by omega, g3]; rfl
theorem cls_snoc (c : Four) (k : Nat) (h : k < 32) : (clsE c).take k ++ [wordJ c (k / 8) / 256 ^ (k % 8) % 256] = (clsE c).take (k + 1) := by
  rw [take_snoc (clsE_get c k h)]
theorem cls_all (c : Four) : (clsE c).take 32 = clsE c := List.take_of_length_le (by rw [clsE_length]; exact Nat.le_refl _)
theorem ins_split (op : Int) (n : Nat) : insE op n = [op + 16 * min (n : Int) 15] ++ (if n < 15 then [] else cntE (n - 15)) := by
  unfold insE
  split
  · rename_i h
    rw [Int.min_eq_left (by omega), Int.mul_comm]
    rfl
  · rename_i h
    rw [Int.min_eq_right (by omega)]
    rfl
end Go.Proofs.Ytebiogaacikphaa.Pack
end
