/- Parts of the proof of packBack and packOne and packCuts and packSpoilt and packSmall: EncodeKit, EncodeParts. No condition beyond each lemma's own. -/
import Derived.Test.YtebiogaacikphaaTQ9
import Derived.Test.YtebiogaacikphaaTQ12
import Derived.Test.YtebiogaacikphaaTQ17
section
namespace Go.Proofs.Ytebiogaacikphaa.Pack
open Go.RowKit Go.Proofs.YtebiogaacikphaaW.PrintWords Go.Proofs.Ytebiogaacikphaa.PAll Go.Proofs.Ytebiogaacikphaa.Names
set_option linter.unusedVariables false
set_option linter.unusedSimpArgs false
set_option maxRecDepth 10000 in
theorem or_128 (x : Nat) : Go.bits .or .u8 ((x : Int) % 256) 128 = (((x % 128 : Nat) : Int) + 128) := by
  have key : ∀ y : Fin 256, y.val ||| 128 = y.val % 128 + 128 := by decide
  have h : ((x : Int) % 256) = ((x % 256 : Nat) : Int) := by omega
  rw [h]
  have hb := Bits.bits_or .u8 rfl (x % 256) 128 (by show _ < 2 ^ 8; omega) (by decide)
  have hk := key ⟨x % 256, by omega⟩
  simp only at hk
  rw [hk] at hb
  rw [show (128 : Int) = ((128 : Nat) : Int) from rfl, hb]
  omega
theorem counts_in (R : List Int) (l : List Int) : ∀ (m n : Nat), n ≤ m → ∀ (b : List Int), b.length + n < 140737488355328 → Ev (fun k => pack_counts.l0 k (b ++ cntE n) l 1 1) R → Ev (fun k => pack_counts.l1 k b (n : Int) l 1 0) R := by
  intro m
  induction m with
  | zero =>
    intro n hn b hb hr
    obtain rfl : n = 0 := by omega
    refine Ev.step (fun _ => by rw [pack_counts.l1]) ?_
    refine Ev.neg (by omega) (Ev.pos (by omega) ?_)
    rw [cntE, dif_pos (by omega)] at hr
    rw [show wrap64 (0 + 1) = 1 from (w64 (by decide) (by decide)), show (((0 : Nat) : Int) % 256) = ((0 : Nat) : Int) by decide]
    exact hr
  | succ m ih =>
    intro n hn b hb hr
    refine Ev.step (fun _ => by rw [pack_counts.l1]) ?_
    rw [cntE] at hr
    by_cases c : n < 128
    · rw [dif_pos c] at hr
      refine Ev.neg (by omega) (Ev.pos (by omega) ?_)
      rw [show ((n : Int) % 256) = (n : Int) by omega, show wrap64 (0 + 1) = 1 from (w64 (by decide) (by decide))]
      exact hr
    · rw [dif_neg c] at hr
      refine Ev.pos (by omega) (Ev.pos (by omega) ?_)
      rw [or_128, show ((n : Int) / 128) = ((n / 128 : Nat) : Int) by omega]
      refine ih (n / 128) (by omega) _ (by rw [List.length_append, List.length_singleton]; omega) ?_
      rw [List.append_assoc]
      exact hr
theorem counts_ev (b : List Int) (n : Nat) (hb : b.length + n < 140737488355328) : Ev (fun k => pack_counts.f k b [(n : Int)]) (b ++ cntE n) := by
  unfold pack_counts.f
  refine Ev.step (fun _ => by rw [pack_counts.l0]) ?_
  refine Ev.pos (by simp) (Ev.pos (by omega) (Ev.pos (by simp) ?_))
  refine counts_in _ _ n n (Nat.le_refl _) b hb ?_
  refine Ev.step (fun _ => by rw [pack_counts.l0]) ?_
  exact Ev.neg (by omega) (Ev.some_ rfl)
/-- A program is written: its tables, and the bytes so far. -/
structure EI (w W : World) (gt gc gn : Nat) (vs vt : Value) (S : List Four) (T : List ByteArray) (v : Value) (b : List Int) : Prop where
  tab : Tabs w W gt gc gn vs vt S T
  own : W.ownsRow w.heap.size 5 1 v b.length (nums .u8 b)
section
variable {w W W' : World} {gt gc gn : Nat} {cs : List Value} {vs vt : Value} {lc : List (Four × Value)} {ln : List (ByteArray × Value)} {S : List Four} {T : List ByteArray} {v v' : Value} {b b' : List Int}
theorem GT.kept (h : GT w W gt gc gn cs vs vt lc ln S T) (hk : ∀ q, q < W.heap.size → (q = gt ∨ q = gc ∨ q = gn ∨ vs.ownBlock = some q ∨ vt.ownBlock = some q) → W'.heap[q]? = W.heap[q]?) (hb : Below w.heap.size w W') : GT w W' gt gc gn cs vs vt lc ln S T :=
  ⟨hb, h.row.kept (hk gt h.row.lt (.inl rfl)), h.mc.kept (hk gc h.mc.lt (.inr (.inl rfl))), h.mn.kept (hk gn h.mn.lt (.inr (.inr (.inl rfl)))), own_kept h.s (fun k e => hk k (own_lt h.s k e) (.inr (.inr (.inr (.inl e))))), own_kept h.t (fun k e => hk k (own_lt h.t k e) (.inr (.inr (.inr (.inr e))))), h.ge, h.offs, h.offt⟩
theorem EI.off (h : EI w W gt gc gn vs vt S T v b) : ∀ q, v.ownBlock = some q → q ≠ gt ∧ q ≠ gc ∧ q ≠ gn ∧ vs.ownBlock ≠ some q ∧ vt.ownBlock ≠ some q := by
  intro q hq
  obtain ⟨c0, h0⟩ := own_typed h.own q hq
  refine ⟨?_, ?_, ?_, fun e => ?_, fun e => ?_⟩
  · rintro rfl
    obtain ⟨c1, h1, _⟩ := h.tab.row
    rw [h0] at h1
    injection h1 with h1
    injection h1 with _ h1
    exact absurd h1 (by decide)
  · rintro rfl
    obtain ⟨_, _, h1, _⟩ := h.tab.mc
    rw [h0] at h1
    injection h1 with h1
    cases h1
  · rintro rfl
    obtain ⟨_, _, h1, _⟩ := h.tab.mn
    rw [h0] at h1
    injection h1 with h1
    cases h1
  · obtain ⟨c1, h1⟩ := own_typed h.tab.s q e
    rw [h0] at h1
    injection h1 with h1
    injection h1 with _ h1
    exact absurd h1 (by decide)
  · obtain ⟨c1, h1⟩ := own_typed h.tab.t q e
    rw [h0] at h1
    injection h1 with h1
    injection h1 with _ h1
    exact absurd h1 (by decide)
/-- The bytes go on. -/
theorem EI.next (h : EI w W gt gc gn vs vt S T v b) (hk : Kept W W' (fun k => v.ownBlock = some k)) (hb : Below w.heap.size w W') (ho : W'.ownsRow w.heap.size 5 1 v' b'.length (nums .u8 b')) : EI w W' gt gc gn vs vt S T v' b' := by
  refine ⟨h.tab.kept (fun q hq hor => hk.2 q hq (fun e => ?_)) hb, ho⟩
  have := h.off q e
  rcases hor with hor | hor | hor | hor | hor
  · exact this.1 hor
  · exact this.2.1 hor
  · exact this.2.2.1 hor
  · exact this.2.2.2.1 hor
  · exact this.2.2.2.2 hor
theorem EI.grown (h : EI w W gt gc gn vs vt S T v b) (hg : W.grownBy W' v.ownBlock) (ho : W'.ownsRow w.heap.size 5 1 v' b'.length (nums .u8 b')) : EI w W' gt gc gn vs vt S T v' b' :=
  h.next (Kept.of_grown hg (Kept.refl _ _) (fun k hk => .inl hk)) (pw_below_grown h.tab.bel v.ownBlock h.tab.bel.size hg (fun k hk => own_base h.own k hk)) ho
theorem EI.below (h : EI w W gt gc gn vs vt S T v b) (hb : Below W.heap.size W W') : EI w W' gt gc gn vs vt S T v b :=
  ⟨h.tab.below hb, own_kept h.own (fun k hk => hb.block k (own_lt h.own k hk))⟩
theorem EI.new_off (h : EI w W gt gc gn vs vt S T v b) {g : Nat} (hg : g = W.heap.size) : gt < g ∧ vs.ownBlock ≠ some g ∧ vt.ownBlock ≠ some g ∧ v.ownBlock ≠ some g := by
  have h1 := Pack.new_off h.tab hg
  exact ⟨h1.1, h1.2.1, h1.2.2, fun e => by have := own_lt h.own g e; omega⟩
theorem EI.other (h : EI w W gt gc gn vs vt S T v b) {r : Nat} (hg : W.grownBy W' (some r)) (ho : gt < r ∧ vs.ownBlock ≠ some r ∧ vt.ownBlock ≠ some r ∧ v.ownBlock ≠ some r) : EI w W' gt gc gn vs vt S T v b :=
  ⟨h.tab.other hg ho.1 ho.2.1 ho.2.2.1, own_kept h.own (fun k hk => hg.block k (own_lt h.own k hk) (fun e => ho.2.2.2 (hk.trans e)))⟩
end
section
variable {w W : World} {gt gc gn : Nat} {vs vt : Value} {S : List Four} {T : List ByteArray} {v : Value} {b : List Int}
theorem ei_of_R {W0 W' : World} {ok : Nat → Prop} {v' : Value} {b' : List Int} (h : EI w W0 gt gc gn vs vt S T v b) (hR : Kd.R (Kd.int .u8) 5 W' w.heap.size ok v' b') (hb : Below w.heap.size w W') (hk : Kept W0 W' (fun k => v.ownBlock = some k)) : EI w W' gt gc gn vs vt S T v' b' :=
  h.next hk hb (Kd.own_of_R hR)
theorem counts_lit (h : EI w W gt gc gn vs vt S T v b) (n : Nat) (hb : b.length + n < 140737488355328) :
    Calls Try.prog 73 #[v, .slice (some ⟨W.heap.size, 0, none⟩) 1 1] (W.alloc (.cells #[.int .u64 (n : Int)] 74 (0, 0))) fun e W' => ∃ v', e = .returned v' ∧ EI w W' gt gc gn vs vt S T v' (b ++ cntE n) := by
  obtain ⟨kf, hkf⟩ := counts_ev b n hb
  have hb7 := below_alloc (Below.refl W.heap.size W) (.cells #[.int .u64 (n : Int)] 74 (0, 0))
  have hx7 := blk_new W (.cells #[.int .u64 (n : Int)] 74 (0, 0))
  have hR7 : RowAt (W.alloc (.cells #[.int .u64 (n : Int)] 74 (0, 0))) W.heap.size 74 ([(n : Int)].map (Value.int .u64)) := ⟨_, hx7, rfl⟩
  have h7 := h.below hb7
  have hcall := pack_counts.calls kf (fun k => v.ownBlock = some k) v b (some ⟨W.heap.size, 0, none⟩) 1 [(n : Int)] _ w _ h7.tab.bel (Kd.R_of_own h7.own (fun k hk => hk)) (fun W_ hk => C_row' (hR7.kept_ hk (fun e => by have := own_lt h.own _ e; omega)) (by simp)) (by simp) (hkf kf (Nat.le_refl _))
  refine hcall.mono ?_
  rintro e W' ⟨v', rfl, hR, hb', hk'⟩
  exact ⟨v', rfl, ei_of_R h7 hR hb' hk'⟩
theorem fixed_lit (h : EI w W gt gc gn vs vt S T v b) (m : Nat) (hm : m ≤ 8) (l : List Int) (hl : l.length ≤ 4) (hb : b.length ≤ 140737488351232) (n : Nat) (hn : l.length = n) :
    Calls Try.prog 74 #[v, .int .i64 (m : Int), .slice (some ⟨W.heap.size, 0, none⟩) n n] (W.alloc (.cells (l.map (Value.int .u64)).toArray 74 (0, 0))) fun e W' => ∃ v', e = .returned v' ∧ EI w W' gt gc gn vs vt S T v' (b ++ l.flatMap (leN m)) := by
  subst hn
  obtain ⟨kf, hkf⟩ := fixed_ev b m hm l hl hb
  have hb7 := below_alloc (Below.refl W.heap.size W) (.cells (l.map (Value.int .u64)).toArray 74 (0, 0))
  have hx7 := blk_new W (.cells (l.map (Value.int .u64)).toArray 74 (0, 0))
  have hR7 : RowAt (W.alloc (.cells (l.map (Value.int .u64)).toArray 74 (0, 0))) W.heap.size 74 (l.map (Value.int .u64)) := ⟨_, hx7, rfl⟩
  have h7 := h.below hb7
  have hcall := pack_fixed.calls kf (fun k => v.ownBlock = some k) v b (m : Int) (some ⟨W.heap.size, 0, none⟩) l.length l _ w _ h7.tab.bel (Kd.R_of_own h7.own (fun k hk => hk)) (fun W_ hk => C_row' (hR7.kept_ hk (fun e => by have := own_lt h.own _ e; omega)) (by omega)) (Nat.le_refl _) (hkf kf (Nat.le_refl _))
  refine hcall.mono ?_
  rintro e W' ⟨v', rfl, hR, hb', hk'⟩
  exact ⟨v', rfl, ei_of_R h7 hR hb' hk'⟩
theorem sumE_lit (h : EI w W gt gc gn vs vt S T v b) (hb : b.length ≤ 140737488351232) : Calls Try.prog 76 #[v] W fun e W' => e = .returned (.int .u32 (crcL b)) ∧ EI w W' gt gc gn vs vt S T v b := by
  obtain ⟨A, c, rfl, hc, hr⟩ := Kd.R_reads (Kd.R_of_own (h1 := fun _ => rfl) (ok := fun _ => True) h.own (fun k hk => trivial))
  refine (sum_lit A c b W hr hc hb).mono ?_
  rintro e W' ⟨he, hd⟩
  exact ⟨he, h.below hd.below⟩
end
theorem bytesOf_nums (s : ByteArray) : bytesOf s = numsOf s := rfl
theorem progE_append (S : List Four) (T : List ByteArray) (x : Ins) : ∀ (l : List Ins) (i : Nat), progE S T i (l ++ [x]) = progE S T i l ++ insE x.f0 (operN (i + l.length) x S T)
  | [], i => by simp [progE]
  | y :: l, i => by
    rw [List.cons_append, progE, progE_append S T x l (i + 1), progE, List.append_assoc, List.length_cons]
    rw [show i + 1 + l.length = i + (l.length + 1) by omega]
end Go.Proofs.Ytebiogaacikphaa.Pack
end
section
namespace Go.Proofs.Ytebiogaacikphaa.Pack
open Go.RowKit Go.Proofs.YtebiogaacikphaaW.PrintWords Go.Proofs.Ytebiogaacikphaa.PAll Go.Proofs.Ytebiogaacikphaa.Names
set_option linter.unusedVariables false
def e1 (S : List Four) (i : Nat) : List Int := (magicL ++ cntE S.length) ++ (S.take i).flatMap clsE
def e2 (S : List Four) (T : List ByteArray) (i : Nat) : List Int := (e1 S S.length ++ cntE T.length) ++ (T.take i).flatMap nameE
def e3 (S : List Four) (T : List ByteArray) (l : List Ins) (i : Nat) : List Int := (e2 S T T.length ++ cntE l.length) ++ progE S T 0 (l.take i)
section
variable {S : List Four} {T : List ByteArray} {l : List Ins} {i : Nat}
theorem e1_start : magicL ++ cntE S.length = e1 S 0 := by simp [e1]
theorem e2_start : e1 S S.length ++ cntE T.length = e2 S T 0 := by simp [e2]
theorem e3_start : e2 S T T.length ++ cntE l.length = e3 S T l 0 := by simp [e3, progE]
theorem take_snoc {α : Type} {l : List α} {i : Nat} {x : α} (h : l[i]? = some x) : l.take (i + 1) = l.take i ++ [x] := by rw [List.take_add_one, h]; rfl
theorem e1_step {y : Four} (h : S[i]? = some y) : e1 S i ++ clsE y = e1 S (i + 1) := by
  rw [e1, e1, take_snoc h, List.flatMap_append, List.append_assoc]
  simp
theorem e2_step {s : ByteArray} (h : T[i]? = some s) : (e2 S T i ++ cntE s.size) ++ numsOf s = e2 S T (i + 1) := by
  rw [e2, e2, take_snoc h, List.flatMap_append, List.append_assoc, List.append_assoc _ _ (cntE s.size ++ numsOf s)]
  simp [nameE]
theorem e3_step {x : Ins} (h : l[i]? = some x) : e3 S T l i ++ insE x.f0 (operN i x S T) = e3 S T l (i + 1) := by
  have hi := (List.getElem?_eq_some_iff.1 h).1
  rw [e3, e3, take_snoc h, progE_append, List.length_take, show min i l.length = i by omega, Nat.zero_add, List.append_assoc]
theorem e3_end (l : List Ins) : e3 (l.foldl addC []) (l.foldl addN []) l l.length = magicL ++ insideE l := by
  rw [e3, e2, e1, List.take_length, List.take_length, List.take_length, insideE]
  simp only [List.append_assoc]
theorem e1_len (hS : S.length ≤ 65536) : (e1 S i).length ≤ 2097160 := by
  have h1 := cntE_three S.length (by omega)
  rw [e1, List.length_append, List.length_append, clsE_len, List.length_take, show magicL.length = 5 from rfl]
  omega
theorem e2_len (hS : S.length ≤ 65536) (hT : T.length ≤ 65536) (hn : ∀ s ∈ T, okName s = true) : (e2 S T i).length ≤ 6357003 := by
  have h1 := cntE_three T.length (by omega)
  have h2 := e1_len (i := S.length) hS
  have h3 := namesE_len (T.take i) (fun s h => hn s (List.mem_of_mem_take h))
  rw [List.length_take] at h3
  rw [e2, List.length_append, List.length_append]
  omega
theorem e3_len (h1 : l.length ≤ 65536) (hok : ∀ x ∈ l, InsOk l.length x) (hn : ∀ x ∈ l, kindOf x.f0 = 3 → okName x.f3 = true) : (e3 (l.foldl addC []) (l.foldl addN []) l i).length ≤ 6619150 := by
  have hCl := foldC_length l []
  have hNl := foldN_length l []
  rw [List.length_nil, Nat.zero_add] at hCl hNl
  have h2 := e2_len (S := l.foldl addC []) (T := l.foldl addN []) (i := (l.foldl addN []).length) (by omega) (by omega) (fun c h => by
    rcases foldN_mem l [] c h with h | ⟨x, hx, hk, rfl⟩
    · cases h
    · exact hn x hx hk)
  have h3 := cntE_three l.length (by omega)
  have hd : l.take i ++ l.drop i = l := List.take_append_drop i l
  have p1 : (l.take i).foldl addC [] <+: l.foldl addC [] := by
    conv => rhs; rw [← hd, List.foldl_append]
    exact foldC_prefix _ _
  have p2 : (l.take i).foldl addN [] <+: l.foldl addN [] := by
    conv => rhs; rw [← hd, List.foldl_append]
    exact foldN_prefix _ _
  have h4 := (progE_len l.length (l.foldl addC []) (l.foldl addN []) h1 (by omega) (by omega) (l.take i) 0 [] [] List.nodup_nil List.nodup_nil p1 p2 (fun x hx => hok x (List.mem_of_mem_take hx)) (by rw [List.length_take]; omega)).2
  rw [List.length_take] at h4
  rw [e3, List.length_append, List.length_append]
  omega
end
theorem fixed8_lit {w W : World} {gt gc gn : Nat} {vs vt : Value} {S : List Four} {T : List ByteArray} {v : Value} {b : List Int} (h : EI w W gt gc gn vs vt S T v b) (y : Four) (hb : b.length ≤ 140737488351232) :
    Calls Try.prog 74 #[v, .int .i64 8, .slice (some ⟨W.heap.size, 0, none⟩) 4 4] (W.alloc (.cells #[.int .u64 y.1, .int .u64 y.2.1, .int .u64 y.2.2.1, .int .u64 y.2.2.2] 74 (0, 0))) fun e W' => ∃ v', e = .returned v' ∧ EI w W' gt gc gn vs vt S T v' (b ++ clsE y) := by
  have h1 := fixed_lit h 8 (by decide) [y.1, y.2.1, y.2.2.1, y.2.2.2] (by simp) hb 4 rfl
  have e : [y.1, y.2.1, y.2.2.1, y.2.2.2].flatMap (leN 8) = clsE y := by rw [clsE]; simp
  rw [e] at h1
  exact h1
theorem fixed4_lit {w W : World} {gt gc gn : Nat} {vs vt : Value} {S : List Four} {T : List ByteArray} {v : Value} {b : List Int} (h : EI w W gt gc gn vs vt S T v b) (s : Int) (hb : b.length ≤ 140737488351232) :
    Calls Try.prog 74 #[v, .int .i64 4, .slice (some ⟨W.heap.size, 0, none⟩) 1 1] (W.alloc (.cells #[.int .u64 s] 74 (0, 0))) fun e W' => ∃ v', e = .returned v' ∧ EI w W' gt gc gn vs vt S T v' (b ++ leN 4 s) := by
  have h1 := fixed_lit h 4 (by decide) [s] (by simp) hb 1 rfl
  have e : [s].flatMap (leN 4) = leN 4 s := by simp
  rw [e] at h1
  exact h1
theorem EI.push {w W W' : World} {gt gc gn : Nat} {vs vt : Value} {S : List Four} {T : List ByteArray} {v v' : Value} {b : List Int} (h : EI w W gt gc gn vs vt S T v b) {y : Int} (hown : W'.ownsRow w.heap.size 5 1 v' (b.length + 1) (nums .u8 b ++ [.int .u8 y])) (hg : W.grownBy W' v.ownBlock) : EI w W' gt gc gn vs vt S T v' (b ++ [y]) := by
  refine h.grown hg ?_
  rw [List.length_append, nums_append]
  exact hown
theorem or_low {a : Int} {n : Nat} (ha : 0 ≤ a ∧ a ≤ 15) (hn : n < 15) : Go.bits .or .u8 a ((n : Int) % 256 * 16 % 256) = a + (n : Int) * 16 := by
  obtain ⟨m, rfl⟩ := Int.eq_ofNat_of_zero_le ha.1
  have hb := Bits.bits_or .u8 rfl m (n * 16) (by show _ < 2 ^ 8; omega) (by show _ < 2 ^ 8; omega)
  have ho := Bits.or_add m n 4 (by omega)
  rw [show n * 2 ^ 4 = n * 16 from rfl] at ho
  rw [ho] at hb
  rw [show ((n : Int) % 256 * 16 % 256) = ((n * 16 : Nat) : Int) by omega, hb]
  omega
theorem or_240 {a : Int} (ha : 0 ≤ a ∧ a ≤ 15) : Go.bits .or .u8 a 240 = a + 240 := by
  obtain ⟨m, rfl⟩ := Int.eq_ofNat_of_zero_le ha.1
  have hb := Bits.bits_or .u8 rfl m (15 * 16) (by show _ < 2 ^ 8; omega) (by show _ < 2 ^ 8; omega)
  have ho := Bits.or_add m 15 4 (by omega)
  rw [show 15 * 2 ^ 4 = 15 * 16 from rfl] at ho
  rw [ho] at hb
  rw [show (240 : Int) = ((15 * 16 : Nat) : Int) from rfl, hb]
  omega
theorem foldC_has : ∀ (l : List Ins) (S : List Four) (x : Ins), x ∈ l → kindOf x.f0 = 2 → clsI x ∈ l.foldl addC S
  | y :: l, S, x, h, hk => by
    rw [List.foldl_cons]
    rcases List.mem_cons.1 h with rfl | h
    · refine (foldC_prefix l _).mem ?_
      rw [addC, if_pos hk]
      exact once_mem S _
    · exact foldC_has l _ x h hk
theorem foldN_has : ∀ (l : List Ins) (S : List ByteArray) (x : Ins), x ∈ l → kindOf x.f0 = 3 → x.f3 ∈ l.foldl addN S
  | y :: l, S, x, h, hk => by
    rw [List.foldl_cons]
    rcases List.mem_cons.1 h with rfl | h
    · refine (foldN_prefix l _).mem ?_
      rw [addN, if_pos hk]
      exact once_mem S _
    · exact foldN_has l _ x h hk
/-- Its bytes are bytes. -/
theorem byteL_append {l m : List Int} (h : ByteL l) (k : ByteL m) : ByteL (l ++ m) := fun x hx => (List.mem_append.1 hx).elim (h x) (k x)
theorem byteL_cnt : ∀ (m n : Nat), n ≤ m → ByteL (cntE n) := by
  intro m
  induction m with
  | zero =>
    intro n hn x hx
    obtain rfl : n = 0 := by omega
    rw [cntE, dif_pos (by omega)] at hx
    rw [List.mem_singleton.1 hx]
    decide
  | succ m ih =>
    intro n hn x hx
    rw [cntE] at hx
    split at hx
    · rw [List.mem_singleton.1 hx]
      omega
    · rcases List.mem_cons.1 hx with rfl | hx
      · omega
      · exact ih (n / 128) (by omega) x hx
theorem byteL_le : ∀ (n : Nat) (s : Int), ByteL (leN n s)
  | 0, s => fun x hx => by cases hx
  | n + 1, s => fun x hx => by
    rw [leN] at hx
    rcases List.mem_cons.1 hx with rfl | hx
    · omega
    · exact byteL_le n _ x hx
theorem byteL_flat {α : Type} {f : α → List Int} : ∀ {l : List α}, (∀ x ∈ l, ByteL (f x)) → ByteL (l.flatMap f)
  | [], _ => fun x hx => by cases hx
  | y :: l, h => by
    rw [List.flatMap_cons]
    exact byteL_append (h y List.mem_cons_self) (byteL_flat (fun x hx => h x (List.mem_cons_of_mem _ hx)))
theorem byteL_nums (s : ByteArray) : ByteL (numsOf s) := fun x hx => by
  rw [numsOf] at hx
  obtain ⟨b, _, rfl⟩ := List.mem_map.1 hx
  have := b.toNat_lt
  omega
theorem byteL_ins {op : Int} (h : 0 ≤ op ∧ op ≤ 15) (n : Nat) : ByteL (insE op n) := by
  unfold insE
  split
  · intro x hx
    rw [List.mem_singleton.1 hx]
    omega
  · intro x hx
    rcases List.mem_cons.1 hx with rfl | hx
    · omega
    · exact byteL_cnt _ _ (Nat.le_refl _) x hx
theorem byteL_prog (S : List Four) (T : List ByteArray) : ∀ (l : List Ins) (i : Nat), (∀ x ∈ l, 0 ≤ x.f0 ∧ x.f0 ≤ 15) → ByteL (progE S T i l)
  | [], i, _ => fun x hx => by cases hx
  | y :: l, i, h => by
    rw [progE]
    exact byteL_append (byteL_ins (h y List.mem_cons_self) _) (byteL_prog S T l (i + 1) (fun x hx => h x (List.mem_cons_of_mem _ hx)))
theorem byteL_encode {l : List Ins} (h : ∀ x ∈ l, 0 ≤ x.f0 ∧ x.f0 ≤ 15) : ByteL (encodeE l) := by
  rw [encodeE, insideE]
  refine byteL_append (byteL_append (by intro x hx; simp [magicL] at hx; omega) ?_) (byteL_le _ _)
  refine byteL_append (byteL_cnt _ _ (Nat.le_refl _)) (byteL_append (byteL_flat fun c _ => ?_) (byteL_append (byteL_cnt _ _ (Nat.le_refl _)) (byteL_append (byteL_flat fun s _ => ?_) (byteL_append (byteL_cnt _ _ (Nat.le_refl _)) (byteL_prog _ _ _ _ h)))))
  · exact byteL_append (byteL_le _ _) (byteL_append (byteL_le _ _) (byteL_append (byteL_le _ _) (byteL_le _ _)))
  · exact byteL_append (byteL_cnt _ _ (Nat.le_refl _)) (byteL_nums s)
end Go.Proofs.Ytebiogaacikphaa.Pack
end
