/- Parts of the proof of packBack and packOne and packCuts and packSpoilt and packSmall: PackDecode. No condition beyond each lemma's own. -/
import Derived.Test.YtebiogaacikphaaTQ11
import Derived.Test.YtebiogaacikphaaTQ13
section
namespace Go.Proofs.Ytebiogaacikphaa.Pack
open Go.RowKit Go.Proofs.YtebiogaacikphaaW.PrintWords Go.Proofs.Ytebiogaacikphaa.PAll
set_option linter.unusedVariables false
set_option linter.unusedSimpArgs false
set_option linter.unnecessarySimpa false
/-- The two tables. -/
def tableC (e : Nat) (l : List Int) : Except (Int × Int) (List Four × List Int) := (manyL e (e - l.length) l).bind fun p => classesL e p.1.toNat [] p.2
def tableN (e : Nat) (l : List Int) : Except (Int × Int) (List ByteArray × List Int) := (manyL e (e - l.length) l).bind fun p => namesL e p.1.toNat [] p.2
/-- What stands between the first five bytes and the sum. -/
def insideL (e : Nat) (l : List Int) : Except (Int × Int) (List Ins) := match tableC e l with
  | .error f => .error f
  | .ok (S, l1) => match tableN e l1 with
    | .error f => .error f
    | .ok (T, l2) => match programL e S T l2 with
      | .error f => .error f
      | .ok (p, kc, kn, l3) => if kc < S.length then .error ((e - l.length : Nat), 204) else if kn < T.length then .error ((e - l1.length : Nat), 204) else if l3.length ≠ 0 then .error ((e - l3.length : Nat), 201) else .ok p
def decodeL (b : List Int) : Except (Int × Int) (List Ins) := if (framedL b).2 ≠ 0 then .error (framedL b) else insideL (b.length - 4) ((b.take (b.length - 4)).drop 5)
/-- What Decode answers. -/
def Decoded (w0 w : World) (x : Ending) : Except (Int × Int) (List Ins) → Prop
  | .error f => x = .returned (.tuple #[.slice none 0 0, .agg #[.int .i64 f.1, .int .i64 f.2]])
  | .ok p => ∃ v, x = .returned (.tuple #[v, .agg #[.int .i64 0, .int .i64 0]]) ∧ w.ownsRow w0.heap.size 78 7 v p.length (p.flatMap insCells)
theorem classesL_len (e : Nat) : ∀ (n : Nat) (acc : List Four) (l : List Int) (S : List Four) (r : List Int), classesL e n acc l = .ok (S, r) → S.length = acc.length + n
  | 0, acc, l, S, r, h => by rw [classesL] at h; injection h with h; injection h with h1 h2; rw [← h1]; rfl
  | n + 1, acc, l, S, r, h => by
    rw [classesL] at h
    split at h
    · cases h
    · split at h
      · cases h
      · have := classesL_len e n _ _ S r h
        rw [this, List.length_append, List.length_singleton]
        omega
theorem namesL_len (e : Nat) : ∀ (n : Nat) (acc : List ByteArray) (l : List Int) (S : List ByteArray) (r : List Int), namesL e n acc l = .ok (S, r) → S.length = acc.length + n
  | 0, acc, l, S, r, h => by rw [namesL] at h; injection h with h; injection h with h1 h2; rw [← h1]; rfl
  | n + 1, acc, l, S, r, h => by
    rw [namesL] at h
    split at h
    · cases h
    · split at h
      · cases h
      · split at h
        · cases h
        · split at h
          · cases h
          · have := namesL_len e n _ _ S r h
            rw [this, List.length_append, List.length_singleton]
            omega
theorem framed_ok {b : List Int} (h : (framedL b).2 = 0) : 9 ≤ b.length ∧ b.length ≤ 4194304 := by
  rw [framedL] at h
  split at h
  · cases h
  · split at h
    · cases h
    · split at h
      · cases h
      · omega
theorem RS.start {w W W' : World} {g : Nat} {A : Option Addr} {c : Nat} {b : List Int} {e : Nat} (hr : Kd.C (Kd.int .u8) w A b.length b) (hc : b.length ≤ c) (hl : b.length ≤ 140737488351232) (hb0 : Below w.heap.size w W) (hb : Below w.heap.size w W') (hg : g = W.heap.size) (hbox : W'.heap[g]? = some (.cells (rcells A c b (5 : Nat) e 0 0) 99 (0, 0))) (he : 5 ≤ e ∧ e ≤ b.length) : RS w W' g A c b 5 e 0 0 :=
  ⟨hbox, by have := hb0.size; omega, hr, hc, by omega, he.2, he.1, hb⟩
theorem at_len {w W : World} {g : Nat} {A : Option Addr} {c : Nat} {b : List Int} {i e : Nat} {fa fc : Int} {l : List Int} (h : RS w W g A c b i e fa fc) (hl : l = (b.take e).drop i) : e - l.length = i := by
  have h1 := h.e_
  have h2 := h.at_
  rw [hl, List.length_drop, List.length_take]
  omega
theorem left_len {w W : World} {g : Nat} {A : Option Addr} {c : Nat} {b : List Int} {i e : Nat} {fa fc : Int} {l : List Int} (h : RS w W g A c b i e fa fc) (hl : l = (b.take e).drop i) : l.length = e - i := by
  have h1 := h.e_
  rw [hl, List.length_drop, List.length_take]
  omega
theorem tableN_at {w W : World} {g : Nat} {A : Option Addr} {c : Nat} {b : List Int} {i e : Nat} {fa fc : Int} {l : List Int} {tn : Except (Int × Int) (List ByteArray × List Int)} (h : RS w W g A c b i e fa fc) (hl : l = (b.take e).drop i) (ht : tableN e l = tn) : ((manyL e i ((b.take e).drop i)).bind fun p => namesL e p.1.toNat [] p.2) = tn := by
  rw [← ht, tableN, at_len h hl, hl]
theorem tableC_len {e i : Nat} {l : List Int} (hb : ∀ x ∈ l, 0 ≤ x ∧ x < 256) {S : List Four} {r : List Int} (h : ((manyL e i l).bind fun p => classesL e p.1.toNat [] p.2) = .ok (S, r)) : S.length ≤ 65536 := by
  cases hm : manyL e i l with
  | error f => rw [hm] at h; cases h
  | ok p =>
    obtain ⟨n, q⟩ := p
    rw [hm] at h
    have h1 := manyL_range hb hm
    have h2 := classesL_len e _ _ _ _ _ h
    simp at h2
    omega
theorem tableN_len {e : Nat} {l : List Int} (hb : ∀ x ∈ l, 0 ≤ x ∧ x < 256) {S : List ByteArray} {r : List Int} (h : tableN e l = .ok (S, r)) : S.length ≤ 65536 := by
  unfold tableN at h
  cases hm : manyL e (e - l.length) l with
  | error f => rw [hm] at h; cases h
  | ok p =>
    obtain ⟨n, q⟩ := p
    rw [hm] at h
    have h1 := manyL_range hb hm
    have h2 := namesL_len e _ _ _ _ _ h
    simp at h2
    omega
/-- What a table leaves is the list's end. -/
theorem cntL_suffix (e fr : Nat) : ∀ (l : List Int) (k : Nat) (n v : Int) (r : List Int), cntL e fr k n l = .ok (v, r) → r <:+ l
  | [], _, _, _, _, h => by cases h
  | x :: l, k, n, v, r, h => by
    rw [cntL] at h
    split at h
    · exact (cntL_suffix e fr l _ _ v r h).trans (List.suffix_cons _ _)
    · generalize (if k < 5 then n + x % 128 * 128 ^ k else n) = u at h
      by_cases h2 : 4 < k ∨ (x = 0 ∧ 0 < k) ∨ 2147483647 < u
      · rw [if_pos h2] at h; cases h
      · rw [if_neg h2] at h
        injection h with h
        injection h with h h3
        exact h3 ▸ List.suffix_cons _ _
theorem manyL_suffix {e fr : Nat} {l : List Int} {v : Int} {r : List Int} (h : manyL e fr l = .ok (v, r)) : r <:+ l := by
  unfold manyL at h
  cases hm : cntL e fr 0 0 l with
  | error f => rw [hm] at h; cases h
  | ok p =>
    obtain ⟨n, q⟩ := p
    rw [hm] at h
    dsimp only at h
    split at h
    · cases h
    · injection h with h
      injection h with h1 h2
      exact h2 ▸ cntL_suffix e fr l 0 0 n q hm
theorem classesL_suffix (e : Nat) : ∀ (n : Nat) (acc : List Four) (l : List Int) (S : List Four) (r : List Int), classesL e n acc l = .ok (S, r) → r <:+ l
  | 0, acc, l, S, r, h => by rw [classesL] at h; injection h with h; injection h with h1 h2; exact h2 ▸ List.suffix_refl _
  | n + 1, acc, l, S, r, h => by
    rw [classesL] at h
    split at h
    · cases h
    · split at h
      · cases h
      · exact (classesL_suffix e n _ _ S r h).trans (List.drop_suffix _ _)
theorem tableC_suffix {e i : Nat} {l : List Int} {S : List Four} {r : List Int} (h : ((manyL e i l).bind fun p => classesL e p.1.toNat [] p.2) = .ok (S, r)) : r <:+ l := by
  cases hm : manyL e i l with
  | error f => rw [hm] at h; cases h
  | ok p =>
    obtain ⟨n, q⟩ := p
    rw [hm] at h
    exact (classesL_suffix e _ _ _ _ _ h).trans (manyL_suffix hm)
theorem program_at {e : Nat} {S : List Four} {T : List ByteArray} {l l' : List Int} {pr : Except (Int × Int) (List Ins × Nat × Nat × List Int)} (hl : l = l') (h : programL e S T l = pr) : programL e S T l' = pr := hl ▸ h
theorem PI.start {w W : World} {g gu : Nat} {vs vt : Value} {S : List Four} {T : List ByteArray} (hrow : RowAt W gu 103 [.slice none 0 0, .slice none 0 0, vs, vt]) (hs : W.ownsRow (gu + 1) 76 4 vs S.length (S.flatMap clsCells)) (ht : W.ownsRow (gu + 1) 9 1 vt T.length (T.map Value.string)) (hg : w.heap.size ≤ g) (hgu : g < gu) : PI w W W g gu (.slice none 0 0) (.slice none 0 0) vs vt (.slice none 0 0) 0 0 S T [] := by
  have hlt := hrow.lt
  refine ⟨⟨hrow, ⟨[], World.ownsRow_nil W _ _ _⟩, ⟨[], World.ownsRow_nil W _ _ _⟩, own_less hs (by omega), own_less ht (by omega), by omega, ⟨by simp [Value.ownBlock], by simp [Value.ownBlock], fun h => by have := own_base hs _ h; omega, fun h => by have := own_base ht _ h; omega⟩, fun k hk => by simp [Value.ownBlock] at hk, fun k hk => by simp [Value.ownBlock] at hk⟩, Nat.le_refl _, World.ownsRow_nil W _ _ _, fun k hk => by simp [Value.ownBlock] at hk, fun k hk => by simp [Value.ownBlock] at hk, fun k hk => ⟨own_lt hs k hk, by have := own_base hs k hk; omega⟩, fun k hk => ⟨own_lt ht k hk, by have := own_base ht k hk; omega⟩, fun k hk => by simp [Value.ownBlock] at hk, by omega, hlt, by omega, OnlyTwo.refl _ _ _⟩
section
variable (w : World) (A : Option Addr) (c : Nat) (b : List Int)
set_option maxHeartbeats 4000000 in
set_option maxRecDepth 100000 in
theorem decode_calls (hr : Kd.C (Kd.int .u8) w A b.length b) (hc : b.length ≤ c) (hl : b.length ≤ 140737488351232) (hby : ∀ x ∈ b, 0 ≤ x ∧ x < 256) (res : Except (Int × Int) (List Ins)) (hres : decodeL b = res) :
    Calls Try.prog 23 #[.slice A b.length c] w fun x w' => Decoded w w' x res ∧ Below w.heap.size w w' := by
  have HR := Aside0.mk hr
  have HC := Aside0.mk hc
  have HL := Aside0.mk hl
  have HY := Aside0.mk hby
  clear hr hc hby
  rw [decodeL] at hres
  generalize hfr : framedL b = fr at *
  have HFR := Aside0.mk hfr
  clear hfr
  by_cases c0 : fr.2 ≠ 0
  · rw [if_pos c0] at hres
    have b0 : (fr.2 != 0) = true := by simpa using c0
    have HRES := Aside0.mk hres
    clear hres c0
    go_enter Try.func23, Try.ntmps23
    go_wp2_with (first
      | ((with_reducible refine gate_dst (N := 3) rfl ?_); refine box_event (N := 3) rfl rfl (cs := #[.int .i64 0, .int .i64 0]) (t := 42) ?hr2 ?_; (case hr2 => first | (go_simp; done) | (go_simp; rfl)); intro g3 hg3 w1 hbox hb1; have HB := Aside0.mk hb1; have H3 := Aside0.mk (show RowAt w1 g3 42 [.int .i64 0, .int .i64 0] from ⟨_, hbox, rfl⟩); have HG3 := Aside0.mk (show w.heap.size ≤ g3 by omega); clear hbox hb1 hg3)
      | (go_at_call 50; refine (framed_calls _ A c b (Kd.C_below HR.out HB.out) HC.out HL.out HY.out _ HFR.out).mono ?_; rintro xx w2 ⟨rfl, hb⟩; have n1_ := Aside0.mk (below_step HB.out hb); have n2_ := Aside0.mk (H3.out.below hb); clear HB H3 hb; have HB := n1_; have H3 := n2_; clear n1_ n2_)
      | ((with_reducible refine gate_dst (N := 4) rfl ?_); refine box_event (N := 4) rfl rfl (cs := #[.int .i64 0, .int .i64 0]) (t := 42) ?hr2 ?_; (case hr2 => first | (go_simp; done) | (go_simp; rfl)); intro g4 hg4 w1 hbox hb1; have HG4 := Aside0.mk (show w.heap.size ≤ g4 ∧ g3 < g4 by have := HB.out.size; have := H3.out.lt; omega); have n1_ := Aside0.mk (below_step HB.out hb1); have H4 := Aside0.mk (show RowAt w1 g4 42 [.int .i64 0, .int .i64 0] from ⟨_, hbox, rfl⟩); have n2_ := Aside0.mk (H3.out.below hb1); clear HB H3 hbox hb1 hg4; have HB := n1_; have H3 := n2_; clear n1_ n2_)
      | ((with_reducible refine gate_store (t := 42) (p := 4) rfl ?_); refine put_event rfl rfl 42 (.tmp 4) (.tmp 11) rfl (off := 0) (u := .agg #[.int .i64 fr.1, .int .i64 fr.2]) (seg := [.int .i64 fr.1, .int .i64 fr.2]) rfl rfl H4.out rfl (by kernel_rfl) (by simp) (by simp [Value.oneCell']) ?_; intro w5 hrow hgr; have n1_ := Aside0.mk (pw_below_grown HB.out (some g4) HB.out.size hgr (fun k hk => by injection hk with hk; have := HG4.out; omega)); have n2_ := Aside0.mk (H3.out.grown hgr (by have := HG4.out; simp; omega)); have hf0 := (show RowAt w5 g4 42 [.int .i64 fr.1, .int .i64 fr.2] from hrow).cell 0; have hf1 := (show RowAt w5 g4 42 [.int .i64 fr.1, .int .i64 fr.2] from hrow).cell 1; simp only [List.getElem?_cons_zero, List.getElem?_cons_succ] at hf0 hf1; clear H3 H4 HB hrow hgr; have HB := n1_; have H3 := n2_; clear n1_ n2_))
    go_still_tail 2, (by kernel_rfl)
    have n1_ := Aside0.mk (below_drew HB.out)
    have n2_ := Aside0.mk (H3.out.below (below_drew (Below.refl w5.heap.size w5)))
    clear HB H3
    have HB := n1_
    have H3 := n2_
    clear n1_ n2_
    (refine put_event rfl rfl 42 (.tmp 3) (.tmp 15) rfl (off := 0) (u := .agg #[.int .i64 (fr.1), .int .i64 (fr.2)]) (seg := [.int .i64 (fr.1), .int .i64 (fr.2)]) rfl rfl H3.out rfl (by kernel_rfl) (by simp) (by simp [Value.oneCell']) ?_; intro w5 hrow hgr; have n1_ := Aside0.mk (pw_below_grown HB.out (some g3) HB.out.size hgr (fun k hk => by injection hk with hk; have := HG3.out; omega)); have HX := Aside0.mk (show RowAt w5 g3 42 [.int .i64 (fr.1), .int .i64 (fr.2)] from hrow); clear H3 HB hrow; have HB := n1_; clear n1_)
    go_wp2
    refine bodyPost_ret (results_tc rfl _ _ g3 42 #[.int .i64 (fr.1), .int .i64 (fr.2)] (0, 0) _ rfl (by obtain ⟨cur, h1, h2⟩ := HX.out; rw [h1, ← h2]) Try.underlying42 rfl (by kernel_rfl)) rfl ?_
    rw [← HRES.out]
    exact ⟨rfl, HB.out⟩
  · have c0' : fr.2 = 0 := by simpa using c0
    rw [if_neg c0] at hres
    have hrange : 9 ≤ b.length ∧ b.length ≤ 4194304 := framed_ok (by rw [HFR.out]; exact c0')
    have b0 : (fr.2 != 0) = false := by simp [c0']
    have hw4 : IntKind.i64.wrap ((b.length : Int) - 4) = ((b.length - 4 : Nat) : Int) := by rw [IntWalk.i64_in _ (by omega)]; omega
    have HE := Aside0.mk (show 5 ≤ b.length - 4 ∧ b.length - 4 ≤ b.length by omega)
    have htc : tableC (b.length - 4) ((b.take (b.length - 4)).drop 5) = ((manyL (b.length - 4) 5 ((b.take (b.length - 4)).drop 5)).bind fun p => classesL (b.length - 4) p.1.toNat [] p.2) := by
      rw [tableC, show b.length - 4 - ((b.take (b.length - 4)).drop 5).length = 5 by rw [List.length_drop, List.length_take]; omega]
    rw [insideL] at hres
    have hl0 : (b.length - 4) - ((b.take (b.length - 4)).drop 5).length = 5 := by rw [List.length_drop, List.length_take]; omega
    rw [htc] at hres
    clear htc c0 c0'
    generalize hE : b.length - 4 = e at *
    clear hE
    rw [hl0] at hres
    generalize htc : ((manyL e 5 ((b.take e).drop 5)).bind fun p => classesL e p.1.toNat [] p.2) = tc at *
    have HTC := Aside0.mk htc
    clear htc hl0 hrange
    match tc with
    | .error f =>
        have HRES := Aside0.mk hres
        clear hres
        go_enter Try.func23, Try.ntmps23
        go_wp2_with (first
          | ((with_reducible refine gate_dst (N := 3) rfl ?_); refine box_event (N := 3) rfl rfl (cs := #[.int .i64 0, .int .i64 0]) (t := 42) ?hr2 ?_; (case hr2 => first | (go_simp; done) | (go_simp; rfl)); intro g3 hg3 w1 hbox hb1; have HB := Aside0.mk hb1; have H3 := Aside0.mk (show RowAt w1 g3 42 [.int .i64 0, .int .i64 0] from ⟨_, hbox, rfl⟩); have HG3 := Aside0.mk (show w.heap.size ≤ g3 by omega); clear hbox hb1 hg3)
          | (go_at_call 50; refine (framed_calls _ A c b (Kd.C_below HR.out HB.out) HC.out HL.out HY.out _ HFR.out).mono ?_; rintro xx w2 ⟨rfl, hb⟩; have n1_ := Aside0.mk (below_step HB.out hb); have n2_ := Aside0.mk (H3.out.below hb); clear HB H3 hb; have HB := n1_; have H3 := n2_; clear n1_ n2_)
          | ((with_reducible refine gate_dst (N := 4) rfl ?_); refine box_event (N := 4) rfl rfl (cs := #[.int .i64 0, .int .i64 0]) (t := 42) ?hr2 ?_; (case hr2 => first | (go_simp; done) | (go_simp; rfl)); intro g4 hg4 w1 hbox hb1; have HG4 := Aside0.mk (show w.heap.size ≤ g4 ∧ g3 < g4 by have := HB.out.size; have := H3.out.lt; omega); have n1_ := Aside0.mk (below_step HB.out hb1); have H4 := Aside0.mk (show RowAt w1 g4 42 [.int .i64 0, .int .i64 0] from ⟨_, hbox, rfl⟩); have n2_ := Aside0.mk (H3.out.below hb1); clear HB H3 hbox hb1 hg4; have HB := n1_; have H3 := n2_; clear n1_ n2_)
          | ((with_reducible refine gate_store (t := 42) (p := 4) rfl ?_); refine put_event rfl rfl 42 (.tmp 4) (.tmp 11) rfl (off := 0) (u := .agg #[.int .i64 fr.1, .int .i64 fr.2]) (seg := [.int .i64 fr.1, .int .i64 fr.2]) rfl rfl H4.out rfl (by kernel_rfl) (by simp) (by simp [Value.oneCell']) ?_; intro w5 hrow hgr; have n1_ := Aside0.mk (pw_below_grown HB.out (some g4) HB.out.size hgr (fun k hk => by injection hk with hk; have := HG4.out; omega)); have n2_ := Aside0.mk (H3.out.grown hgr (by have := HG4.out; simp; omega)); have hf0 := (show RowAt w5 g4 42 [.int .i64 fr.1, .int .i64 fr.2] from hrow).cell 0; have hf1 := (show RowAt w5 g4 42 [.int .i64 fr.1, .int .i64 fr.2] from hrow).cell 1; simp only [List.getElem?_cons_zero, List.getElem?_cons_succ] at hf0 hf1; clear H3 H4 HB hrow hgr; have HB := n1_; have H3 := n2_; clear n1_ n2_)
          | ((with_reducible refine gate_dst (N := 21) rfl ?_); refine box_event (N := 21) rfl rfl (cs := rcells A c b (5 : Nat) e 0 0) (t := 99) ?hr2 ?_; (case hr2 => first | (go_simp; done) | (go_simp; rfl)); intro g hg w1 hbox hb1; have HG := Aside0.mk (show w.heap.size ≤ g ∧ g3 < g by have := HB.out.size; have := H3.out.lt; omega); have n1_ := Aside0.mk (RS.start HR.out HC.out HL.out HB.out (below_step HB.out hb1) hg hbox HE.out); have n2_ := Aside0.mk (H3.out.below hb1); clear HB H3 hbox hb1 hg; have H := n1_; have H3 := n2_; clear n1_ n2_)
          | ((with_reducible refine gate_dst (N := 23) rfl ?_); refine box_event (N := 23) rfl rfl (cs := #[.slice none 0 0, .slice none 0 0, .slice none 0 0, .slice none 0 0]) (t := 103) ?hr2 ?_; (case hr2 => first | (go_simp; done) | (go_simp; rfl)); intro gu hgu w1 hbox hb1; have HGU := Aside0.mk (show g < gu by have := H.out.lt; omega); have n1_ := Aside0.mk (H.out.below hb1); have n2_ := Aside0.mk (H3.out.below hb1); have HU := Aside0.mk (show RowAt w1 gu 103 [.slice none 0 0, .slice none 0 0, .slice none 0 0, .slice none 0 0] from ⟨_, hbox, rfl⟩); clear H H3 hbox hb1 hgu; have H := n1_; have H3 := n2_; clear n1_ n2_; have h1 := H.out.c1)
          | (go_at_call 51; refine (classes_ok w _ g A c b 5 e H.out HY.out _ HTC.out).mono ?_; rintro xx w3 ⟨vs, rfl, hq1, hq2, hq3, ⟨As, ns, cs, rfl⟩⟩; obtain ⟨jc, hf, hrs⟩ := hq1; clear h1 hq3; have n1_ := Aside0.mk (HU.out.kept (hq2.2 gu HU.out.lt (by have := HGU.out; omega))); have n2_ := Aside0.mk (H3.out.kept (hq2.2 g3 H3.out.lt (by have := HG.out; omega))); clear H HU H3; have HU := n1_; have H3 := n2_; clear n1_ n2_; have HF := Aside0.mk (show (f.2 != 0) = true by simpa using hf); have H := Aside0.mk hrs; clear hf hrs hq2; have h1 := H.out.c1)
          | (((with_reducible refine gate_store (t := 85) (p := 32) rfl ?_); refine put_event rfl rfl 85 (.tmp 32) (.tmp 30) rfl (off := 2) (u := .slice As ns cs) (seg := [.slice As ns cs]) rfl rfl HU.out rfl (by kernel_rfl) (by simp) (by simp [Value.oneCell']) ?_; intro w4 hrow hgr; have n1_ := Aside0.mk (H.out.grown hgr (by have := HGU.out; omega) (by have := HGU.out; have := HG.out; omega)); have n2_ := Aside0.mk (H3.out.grown hgr (by have := HGU.out; have := HG.out; simp; omega)); have n4_ := Aside0.mk (show RowAt w4 gu 103 [.slice none 0 0, .slice none 0 0, .slice As ns cs, .slice none 0 0] from hrow); clear H H3 HU hrow h1; have H := n1_; have H3 := n2_; have HU := n4_; clear n1_ n2_ n4_; have h1 := H.out.c1); clear hgr)
          | (go_at_call 52; refine (names_bad w _ g A c b jc e f.1 f.2 H.out (by simpa using HF.out)).mono ?_; rintro xx w3 ⟨rfl, hrs, hq2⟩; clear h1; have n1_ := Aside0.mk (HU.out.kept (hq2.2 gu HU.out.lt (by have := HGU.out; omega))); have n2_ := Aside0.mk (H3.out.kept (hq2.2 g3 H3.out.lt (by have := HG.out; omega))); clear H HU H3; have HU := n1_; have H3 := n2_; clear n1_ n2_; have H := Aside0.mk hrs; clear hrs hq2; have h1 := H.out.c1)
          | (((with_reducible refine gate_store (t := 86) (p := 41) rfl ?_); refine put_event rfl rfl 86 (.tmp 41) (.tmp 39) rfl (off := 3) (u := .slice none 0 0) (seg := [.slice none 0 0]) rfl rfl HU.out rfl (by kernel_rfl) (by simp) (by simp [Value.oneCell']) ?_; intro w4 hrow hgr; have n1_ := Aside0.mk (H.out.grown hgr (by have := HGU.out; omega) (by have := HGU.out; have := HG.out; omega)); have n2_ := Aside0.mk (H3.out.grown hgr (by have := HGU.out; have := HG.out; simp; omega)); have n4_ := Aside0.mk (show RowAt w4 gu 103 [.slice none 0 0, .slice none 0 0, .slice As ns cs, .slice none 0 0] from hrow); clear H H3 HU hrow h1; have H := n1_; have H3 := n2_; have HU := n4_; clear n1_ n2_ n4_; have h1 := H.out.c1); clear hgr)
          | (go_at_call 53; refine (program_bad w _ g A c b _ e gu f.1 f.2 H.out (by simpa using HF.out)).mono ?_; rintro xx w3 ⟨rfl, hrs, hq2⟩; clear h1; have n1_ := Aside0.mk (HU.out.kept (hq2.2 gu HU.out.lt (by have := HGU.out; omega))); have n2_ := Aside0.mk (H3.out.kept (hq2.2 g3 H3.out.lt (by have := HG.out; omega))); clear H HU H3; have HU := n1_; have H3 := n2_; clear n1_ n2_; have H := Aside0.mk hrs; clear hrs hq2; have h3 := H.out.c3; have h4 := H.out.c4))
        go_quiet ((go_at_call 54; exact Calls.quiet_of_same (bad_same w _ g A c b _ e _ _ true (H.out.drew _) HF.out)))
        have n1_ := Aside0.mk (H.out.drew nq); have n2_ := Aside0.mk (H3.out.below (pw_below_drewN (Below.refl w3.heap.size w3) nq)); clear H H3 h3 h4; have H := n1_; have H3 := n2_; clear n1_ n2_; generalize w3.drewN nq = w6 at *; have h3 := H.out.c3; have h4 := H.out.c4
        go_wp2
        go_quiet ((go_at_call 54; exact Calls.quiet_of_same (bad_same w _ g A c b _ e _ _ true (H.out.drew _) HF.out)))
        have n1_ := Aside0.mk (H.out.drew nq); have n2_ := Aside0.mk (H3.out.below (pw_below_drewN (Below.refl w6.heap.size w6) nq)); clear H H3 h3 h4; have H := n1_; have H3 := n2_; clear n1_ n2_; generalize w6.drewN nq = w7 at *; have h3 := H.out.c3; have h4 := H.out.c4
        go_wp2
        go_quiet ((go_at_call 54; exact Calls.quiet_of_same (bad_same w _ g A c b _ e _ _ true (H.out.drew _) HF.out)))
        have n1_ := Aside0.mk (H.out.drew nq); have n2_ := Aside0.mk (H3.out.below (pw_below_drewN (Below.refl w7.heap.size w7) nq)); clear H H3 h3 h4; have H := n1_; have H3 := n2_; clear n1_ n2_; generalize w7.drewN nq = w8 at *; have h3 := H.out.c3; have h4 := H.out.c4
        go_wp2_with (first
          | (go_at_call 54; refine (bad_same w _ g A c b _ e _ _ true H.out HF.out).mono ?_; rintro xx w9 ⟨rfl, rfl⟩))
        go_still_tail 5, (by kernel_rfl)
        have HB := Aside0.mk (below_drew H.out.old)
        have n2_ := Aside0.mk (H3.out.below (below_drew (Below.refl w9.heap.size w9)))
        clear H3
        have H3 := n2_
        clear n2_
        (refine put_event rfl rfl 42 (.tmp 3) (.tmp 108) rfl (off := 0) (u := .agg #[.int .i64 (f.1), .int .i64 (f.2)]) (seg := [.int .i64 (f.1), .int .i64 (f.2)]) rfl rfl H3.out rfl (by kernel_rfl) (by simp) (by simp [Value.oneCell']) ?_; intro w5 hrow hgr; have n1_ := Aside0.mk (pw_below_grown HB.out (some g3) HB.out.size hgr (fun k hk => by injection hk with hk; have := HG3.out; omega)); have HX := Aside0.mk (show RowAt w5 g3 42 [.int .i64 (f.1), .int .i64 (f.2)] from hrow); clear H3 HB hrow; have HB := n1_; clear n1_)
        go_wp2
        refine bodyPost_ret (results_tc rfl _ _ g3 42 #[.int .i64 (f.1), .int .i64 (f.2)] (0, 0) _ rfl (by obtain ⟨cur, h1, h2⟩ := HX.out; rw [h1, ← h2]) Try.underlying42 rfl (by kernel_rfl)) rfl ?_
        rw [← HRES.out]
        exact ⟨rfl, HB.out⟩
    | .ok (S, l1) =>
      dsimp only at hres
      generalize htn : tableN e l1 = tn at *
      have HTN := Aside0.mk htn
      clear htn
      match tn with
      | .error f =>
        have HRES := Aside0.mk hres
        clear hres
        go_enter Try.func23, Try.ntmps23
        go_wp2_with (first
          | ((with_reducible refine gate_dst (N := 3) rfl ?_); refine box_event (N := 3) rfl rfl (cs := #[.int .i64 0, .int .i64 0]) (t := 42) ?hr2 ?_; (case hr2 => first | (go_simp; done) | (go_simp; rfl)); intro g3 hg3 w1 hbox hb1; have HB := Aside0.mk hb1; have H3 := Aside0.mk (show RowAt w1 g3 42 [.int .i64 0, .int .i64 0] from ⟨_, hbox, rfl⟩); have HG3 := Aside0.mk (show w.heap.size ≤ g3 by omega); clear hbox hb1 hg3)
          | (go_at_call 50; refine (framed_calls _ A c b (Kd.C_below HR.out HB.out) HC.out HL.out HY.out _ HFR.out).mono ?_; rintro xx w2 ⟨rfl, hb⟩; have n1_ := Aside0.mk (below_step HB.out hb); have n2_ := Aside0.mk (H3.out.below hb); clear HB H3 hb; have HB := n1_; have H3 := n2_; clear n1_ n2_)
          | ((with_reducible refine gate_dst (N := 4) rfl ?_); refine box_event (N := 4) rfl rfl (cs := #[.int .i64 0, .int .i64 0]) (t := 42) ?hr2 ?_; (case hr2 => first | (go_simp; done) | (go_simp; rfl)); intro g4 hg4 w1 hbox hb1; have HG4 := Aside0.mk (show w.heap.size ≤ g4 ∧ g3 < g4 by have := HB.out.size; have := H3.out.lt; omega); have n1_ := Aside0.mk (below_step HB.out hb1); have H4 := Aside0.mk (show RowAt w1 g4 42 [.int .i64 0, .int .i64 0] from ⟨_, hbox, rfl⟩); have n2_ := Aside0.mk (H3.out.below hb1); clear HB H3 hbox hb1 hg4; have HB := n1_; have H3 := n2_; clear n1_ n2_)
          | ((with_reducible refine gate_store (t := 42) (p := 4) rfl ?_); refine put_event rfl rfl 42 (.tmp 4) (.tmp 11) rfl (off := 0) (u := .agg #[.int .i64 fr.1, .int .i64 fr.2]) (seg := [.int .i64 fr.1, .int .i64 fr.2]) rfl rfl H4.out rfl (by kernel_rfl) (by simp) (by simp [Value.oneCell']) ?_; intro w5 hrow hgr; have n1_ := Aside0.mk (pw_below_grown HB.out (some g4) HB.out.size hgr (fun k hk => by injection hk with hk; have := HG4.out; omega)); have n2_ := Aside0.mk (H3.out.grown hgr (by have := HG4.out; simp; omega)); have hf0 := (show RowAt w5 g4 42 [.int .i64 fr.1, .int .i64 fr.2] from hrow).cell 0; have hf1 := (show RowAt w5 g4 42 [.int .i64 fr.1, .int .i64 fr.2] from hrow).cell 1; simp only [List.getElem?_cons_zero, List.getElem?_cons_succ] at hf0 hf1; clear H3 H4 HB hrow hgr; have HB := n1_; have H3 := n2_; clear n1_ n2_)
          | ((with_reducible refine gate_dst (N := 21) rfl ?_); refine box_event (N := 21) rfl rfl (cs := rcells A c b (5 : Nat) e 0 0) (t := 99) ?hr2 ?_; (case hr2 => first | (go_simp; done) | (go_simp; rfl)); intro g hg w1 hbox hb1; have HG := Aside0.mk (show w.heap.size ≤ g ∧ g3 < g by have := HB.out.size; have := H3.out.lt; omega); have n1_ := Aside0.mk (RS.start HR.out HC.out HL.out HB.out (below_step HB.out hb1) hg hbox HE.out); have n2_ := Aside0.mk (H3.out.below hb1); clear HB H3 hbox hb1 hg; have H := n1_; have H3 := n2_; clear n1_ n2_)
          | ((with_reducible refine gate_dst (N := 23) rfl ?_); refine box_event (N := 23) rfl rfl (cs := #[.slice none 0 0, .slice none 0 0, .slice none 0 0, .slice none 0 0]) (t := 103) ?hr2 ?_; (case hr2 => first | (go_simp; done) | (go_simp; rfl)); intro gu hgu w1 hbox hb1; have HGU := Aside0.mk (show g < gu by have := H.out.lt; omega); have n1_ := Aside0.mk (H.out.below hb1); have n2_ := Aside0.mk (H3.out.below hb1); have HU := Aside0.mk (show RowAt w1 gu 103 [.slice none 0 0, .slice none 0 0, .slice none 0 0, .slice none 0 0] from ⟨_, hbox, rfl⟩); clear H H3 hbox hb1 hgu; have H := n1_; have H3 := n2_; clear n1_ n2_; have h1 := H.out.c1)
          | (go_at_call 51; refine (classes_ok w _ g A c b 5 e H.out HY.out _ HTC.out).mono ?_; rintro xx w3 ⟨vs, rfl, hq1, hq2, hq3, _⟩; obtain ⟨jc, hrs, hl1⟩ := hq1; obtain ⟨As, cs, rfl⟩ := own_len (hq3 S l1 rfl); have HS := Aside0.mk (own_less (hq3 S l1 rfl) (show gu + 1 ≤ _ from HU.out.lt)); have HTN2 := Aside0.mk (tableN_at hrs hl1 HTN.out); have HJC := Aside0.mk (at_len hrs hl1); clear h1; have n1_ := Aside0.mk (HU.out.kept (hq2.2 gu HU.out.lt (by have := HGU.out; omega))); have n2_ := Aside0.mk (H3.out.kept (hq2.2 g3 H3.out.lt (by have := HG.out; omega))); clear H HU H3; have HU := n1_; have H3 := n2_; clear n1_ n2_; have H := Aside0.mk hrs; clear hrs hq2 hq3 hl1; have h1 := H.out.c1)
          | (((with_reducible refine gate_store (t := 85) (p := 32) rfl ?_); refine put_event rfl rfl 85 (.tmp 32) (.tmp 30) rfl (off := 2) (u := .slice As S.length cs) (seg := [.slice As S.length cs]) rfl rfl HU.out rfl (by kernel_rfl) (by simp) (by simp [Value.oneCell']) ?_; intro w4 hrow hgr; have n1_ := Aside0.mk (H.out.grown hgr (by have := HGU.out; omega) (by have := HGU.out; have := HG.out; omega)); have n2_ := Aside0.mk (H3.out.grown hgr (by have := HGU.out; have := HG.out; simp; omega)); have n4_ := Aside0.mk (show RowAt w4 gu 103 [.slice none 0 0, .slice none 0 0, .slice As S.length cs, .slice none 0 0] from hrow); clear H H3 HU hrow h1; have H := n1_; have H3 := n2_; have HU := n4_; clear n1_ n2_ n4_; have h1 := H.out.c1); have n1_ := Aside0.mk (own_kept HS.out (fun k hk => hgr.block k (own_lt HS.out k hk) (by have := own_base HS.out k hk; simp; omega))); clear HS; have HS := n1_; clear n1_; clear hgr)
          | (go_at_call 52; refine (names_ok w _ g A c b jc e H.out HY.out _ HTN2.out).mono ?_; rintro xx w3 ⟨vt, rfl, hq1, hq2, hq3, ⟨At, nt, ct, rfl⟩⟩; obtain ⟨jn, hf, hrs⟩ := hq1; clear h1 hq3; have n1_ := Aside0.mk (HU.out.kept (hq2.2 gu HU.out.lt (by have := HGU.out; omega))); have n2_ := Aside0.mk (H3.out.kept (hq2.2 g3 H3.out.lt (by have := HG.out; omega))); clear H HU H3; have HU := n1_; have H3 := n2_; clear n1_ n2_; have HF := Aside0.mk (show (f.2 != 0) = true by simpa using hf); have H := Aside0.mk hrs; clear hf hrs hq2; have h1 := H.out.c1)
          | (((with_reducible refine gate_store (t := 86) (p := 41) rfl ?_); refine put_event rfl rfl 86 (.tmp 41) (.tmp 39) rfl (off := 3) (u := .slice At nt ct) (seg := [.slice At nt ct]) rfl rfl HU.out rfl (by kernel_rfl) (by simp) (by simp [Value.oneCell']) ?_; intro w4 hrow hgr; have n1_ := Aside0.mk (H.out.grown hgr (by have := HGU.out; omega) (by have := HGU.out; have := HG.out; omega)); have n2_ := Aside0.mk (H3.out.grown hgr (by have := HGU.out; have := HG.out; simp; omega)); have n4_ := Aside0.mk (show RowAt w4 gu 103 [.slice none 0 0, .slice none 0 0, .slice As S.length cs, .slice At nt ct] from hrow); clear H H3 HU hrow h1; have H := n1_; have H3 := n2_; have HU := n4_; clear n1_ n2_ n4_; have h1 := H.out.c1); clear hgr)
          | (go_at_call 53; refine (program_bad w _ g A c b _ e gu f.1 f.2 H.out (by simpa using HF.out)).mono ?_; rintro xx w3 ⟨rfl, hrs, hq2⟩; clear h1; have n1_ := Aside0.mk (HU.out.kept (hq2.2 gu HU.out.lt (by have := HGU.out; omega))); have n2_ := Aside0.mk (H3.out.kept (hq2.2 g3 H3.out.lt (by have := HG.out; omega))); clear H HU H3; have HU := n1_; have H3 := n2_; clear n1_ n2_; have H := Aside0.mk hrs; clear hrs hq2; have h3 := H.out.c3; have h4 := H.out.c4))
        go_quiet ((go_at_call 54; exact Calls.quiet_of_same (bad_same w _ g A c b _ e _ _ true (H.out.drew _) HF.out)))
        have n1_ := Aside0.mk (H.out.drew nq); have n2_ := Aside0.mk (H3.out.below (pw_below_drewN (Below.refl w3.heap.size w3) nq)); clear H H3 h3 h4; have H := n1_; have H3 := n2_; clear n1_ n2_; generalize w3.drewN nq = v0 at *; have h3 := H.out.c3; have h4 := H.out.c4
        go_wp2
        go_quiet ((go_at_call 54; exact Calls.quiet_of_same (bad_same w _ g A c b _ e _ _ true (H.out.drew _) HF.out)))
        have n1_ := Aside0.mk (H.out.drew nq); have n2_ := Aside0.mk (H3.out.below (pw_below_drewN (Below.refl v0.heap.size v0) nq)); clear H H3 h3 h4; have H := n1_; have H3 := n2_; clear n1_ n2_; generalize v0.drewN nq = v1 at *; have h3 := H.out.c3; have h4 := H.out.c4
        go_wp2
        go_quiet ((go_at_call 54; exact Calls.quiet_of_same (bad_same w _ g A c b _ e _ _ true (H.out.drew _) HF.out)))
        have n1_ := Aside0.mk (H.out.drew nq); have n2_ := Aside0.mk (H3.out.below (pw_below_drewN (Below.refl v1.heap.size v1) nq)); clear H H3 h3 h4; have H := n1_; have H3 := n2_; clear n1_ n2_; generalize v1.drewN nq = v2 at *; have h3 := H.out.c3; have h4 := H.out.c4
        go_wp2_with (first
          | (go_at_call 54; refine (bad_same w _ g A c b _ e _ _ true H.out HF.out).mono ?_; rintro xx w9 ⟨rfl, rfl⟩))
        go_still_tail 5, (by kernel_rfl)
        have HB := Aside0.mk (below_drew H.out.old)
        have n2_ := Aside0.mk (H3.out.below (below_drew (Below.refl w9.heap.size w9)))
        clear H3
        have H3 := n2_
        clear n2_
        (refine put_event rfl rfl 42 (.tmp 3) (.tmp 108) rfl (off := 0) (u := .agg #[.int .i64 (f.1), .int .i64 (f.2)]) (seg := [.int .i64 (f.1), .int .i64 (f.2)]) rfl rfl H3.out rfl (by kernel_rfl) (by simp) (by simp [Value.oneCell']) ?_; intro w5 hrow hgr; have n1_ := Aside0.mk (pw_below_grown HB.out (some g3) HB.out.size hgr (fun k hk => by injection hk with hk; have := HG3.out; omega)); have HX := Aside0.mk (show RowAt w5 g3 42 [.int .i64 (f.1), .int .i64 (f.2)] from hrow); clear H3 HB hrow; have HB := n1_; clear n1_)
        go_wp2
        refine bodyPost_ret (results_tc rfl _ _ g3 42 #[.int .i64 (f.1), .int .i64 (f.2)] (0, 0) _ rfl (by obtain ⟨cur, h1, h2⟩ := HX.out; rw [h1, ← h2]) Try.underlying42 rfl (by kernel_rfl)) rfl ?_
        rw [← HRES.out]
        exact ⟨rfl, HB.out⟩
      | .ok (T, l2) =>
        have HST := Aside0.mk (show S.length ≤ 65536 ∧ T.length ≤ 65536 from ⟨tableC_len (fun x hx => HY.out x (List.mem_of_mem_take (List.mem_of_mem_drop hx))) HTC.out, tableN_len (fun x hx => HY.out x (List.mem_of_mem_take (List.mem_of_mem_drop ((tableC_suffix HTC.out).subset hx)))) HTN.out⟩)
        dsimp only at hres
        generalize hpr : programL e S T l2 = pr at *
        have HPR := Aside0.mk hpr
        clear hpr
        match pr with
        | .error f =>
          have HRES := Aside0.mk hres
          clear hres
          go_enter Try.func23, Try.ntmps23
          go_wp2_with (first
            | ((with_reducible refine gate_dst (N := 3) rfl ?_); refine box_event (N := 3) rfl rfl (cs := #[.int .i64 0, .int .i64 0]) (t := 42) ?hr2 ?_; (case hr2 => first | (go_simp; done) | (go_simp; rfl)); intro g3 hg3 w1 hbox hb1; have HB := Aside0.mk hb1; have H3 := Aside0.mk (show RowAt w1 g3 42 [.int .i64 0, .int .i64 0] from ⟨_, hbox, rfl⟩); have HG3 := Aside0.mk (show w.heap.size ≤ g3 by omega); clear hbox hb1 hg3)
            | (go_at_call 50; refine (framed_calls _ A c b (Kd.C_below HR.out HB.out) HC.out HL.out HY.out _ HFR.out).mono ?_; rintro xx w2 ⟨rfl, hb⟩; have n1_ := Aside0.mk (below_step HB.out hb); have n2_ := Aside0.mk (H3.out.below hb); clear HB H3 hb; have HB := n1_; have H3 := n2_; clear n1_ n2_)
            | ((with_reducible refine gate_dst (N := 4) rfl ?_); refine box_event (N := 4) rfl rfl (cs := #[.int .i64 0, .int .i64 0]) (t := 42) ?hr2 ?_; (case hr2 => first | (go_simp; done) | (go_simp; rfl)); intro g4 hg4 w1 hbox hb1; have HG4 := Aside0.mk (show w.heap.size ≤ g4 ∧ g3 < g4 by have := HB.out.size; have := H3.out.lt; omega); have n1_ := Aside0.mk (below_step HB.out hb1); have H4 := Aside0.mk (show RowAt w1 g4 42 [.int .i64 0, .int .i64 0] from ⟨_, hbox, rfl⟩); have n2_ := Aside0.mk (H3.out.below hb1); clear HB H3 hbox hb1 hg4; have HB := n1_; have H3 := n2_; clear n1_ n2_)
            | ((with_reducible refine gate_store (t := 42) (p := 4) rfl ?_); refine put_event rfl rfl 42 (.tmp 4) (.tmp 11) rfl (off := 0) (u := .agg #[.int .i64 fr.1, .int .i64 fr.2]) (seg := [.int .i64 fr.1, .int .i64 fr.2]) rfl rfl H4.out rfl (by kernel_rfl) (by simp) (by simp [Value.oneCell']) ?_; intro w5 hrow hgr; have n1_ := Aside0.mk (pw_below_grown HB.out (some g4) HB.out.size hgr (fun k hk => by injection hk with hk; have := HG4.out; omega)); have n2_ := Aside0.mk (H3.out.grown hgr (by have := HG4.out; simp; omega)); have hf0 := (show RowAt w5 g4 42 [.int .i64 fr.1, .int .i64 fr.2] from hrow).cell 0; have hf1 := (show RowAt w5 g4 42 [.int .i64 fr.1, .int .i64 fr.2] from hrow).cell 1; simp only [List.getElem?_cons_zero, List.getElem?_cons_succ] at hf0 hf1; clear H3 H4 HB hrow hgr; have HB := n1_; have H3 := n2_; clear n1_ n2_)
            | ((with_reducible refine gate_dst (N := 21) rfl ?_); refine box_event (N := 21) rfl rfl (cs := rcells A c b (5 : Nat) e 0 0) (t := 99) ?hr2 ?_; (case hr2 => first | (go_simp; done) | (go_simp; rfl)); intro g hg w1 hbox hb1; have HG := Aside0.mk (show w.heap.size ≤ g ∧ g3 < g by have := HB.out.size; have := H3.out.lt; omega); have n1_ := Aside0.mk (RS.start HR.out HC.out HL.out HB.out (below_step HB.out hb1) hg hbox HE.out); have n2_ := Aside0.mk (H3.out.below hb1); clear HB H3 hbox hb1 hg; have H := n1_; have H3 := n2_; clear n1_ n2_)
            | ((with_reducible refine gate_dst (N := 23) rfl ?_); refine box_event (N := 23) rfl rfl (cs := #[.slice none 0 0, .slice none 0 0, .slice none 0 0, .slice none 0 0]) (t := 103) ?hr2 ?_; (case hr2 => first | (go_simp; done) | (go_simp; rfl)); intro gu hgu w1 hbox hb1; have HGU := Aside0.mk (show g < gu by have := H.out.lt; omega); have n1_ := Aside0.mk (H.out.below hb1); have n2_ := Aside0.mk (H3.out.below hb1); have HU := Aside0.mk (show RowAt w1 gu 103 [.slice none 0 0, .slice none 0 0, .slice none 0 0, .slice none 0 0] from ⟨_, hbox, rfl⟩); clear H H3 hbox hb1 hgu; have H := n1_; have H3 := n2_; clear n1_ n2_; have h1 := H.out.c1)
            | (go_at_call 51; refine (classes_ok w _ g A c b 5 e H.out HY.out _ HTC.out).mono ?_; rintro xx w3 ⟨vs, rfl, hq1, hq2, hq3, _⟩; obtain ⟨jc, hrs, hl1⟩ := hq1; obtain ⟨As, cs, rfl⟩ := own_len (hq3 S l1 rfl); have HS := Aside0.mk (own_less (hq3 S l1 rfl) (show gu + 1 ≤ _ from HU.out.lt)); have HTN2 := Aside0.mk (tableN_at hrs hl1 HTN.out); have HJC := Aside0.mk (at_len hrs hl1); clear h1; have n1_ := Aside0.mk (HU.out.kept (hq2.2 gu HU.out.lt (by have := HGU.out; omega))); have n2_ := Aside0.mk (H3.out.kept (hq2.2 g3 H3.out.lt (by have := HG.out; omega))); clear H HU H3; have HU := n1_; have H3 := n2_; clear n1_ n2_; have H := Aside0.mk hrs; clear hrs hq2 hq3 hl1; have h1 := H.out.c1)
            | (((with_reducible refine gate_store (t := 85) (p := 32) rfl ?_); refine put_event rfl rfl 85 (.tmp 32) (.tmp 30) rfl (off := 2) (u := .slice As S.length cs) (seg := [.slice As S.length cs]) rfl rfl HU.out rfl (by kernel_rfl) (by simp) (by simp [Value.oneCell']) ?_; intro w4 hrow hgr; have n1_ := Aside0.mk (H.out.grown hgr (by have := HGU.out; omega) (by have := HGU.out; have := HG.out; omega)); have n2_ := Aside0.mk (H3.out.grown hgr (by have := HGU.out; have := HG.out; simp; omega)); have n4_ := Aside0.mk (show RowAt w4 gu 103 [.slice none 0 0, .slice none 0 0, .slice As S.length cs, .slice none 0 0] from hrow); clear H H3 HU hrow h1; have H := n1_; have H3 := n2_; have HU := n4_; clear n1_ n2_ n4_; have h1 := H.out.c1); have n1_ := Aside0.mk (own_kept HS.out (fun k hk => hgr.block k (own_lt HS.out k hk) (by have := own_base HS.out k hk; simp; omega))); clear HS; have HS := n1_; clear n1_; clear hgr)
            | (go_at_call 52; refine (names_ok w _ g A c b jc e H.out HY.out _ HTN2.out).mono ?_; rintro xx w3 ⟨vt, rfl, hq1, hq2, hq3, _⟩; obtain ⟨jn, hrs, hl2⟩ := hq1; obtain ⟨At, ct, rfl⟩ := own_len (hq3 T l2 rfl); have HT := Aside0.mk (own_less (hq3 T l2 rfl) (show gu + 1 ≤ _ from HU.out.lt)); have n3_ := Aside0.mk (own_kept HS.out (fun k hk => hq2.2 k (own_lt HS.out k hk) (by have := own_base HS.out k hk; have := HGU.out; omega))); clear HS; have HS := n3_; clear n3_; have HPR2 := Aside0.mk (program_at hl2 HPR.out); clear h1; have n1_ := Aside0.mk (HU.out.kept (hq2.2 gu HU.out.lt (by have := HGU.out; omega))); have n2_ := Aside0.mk (H3.out.kept (hq2.2 g3 H3.out.lt (by have := HG.out; omega))); clear H HU H3; have HU := n1_; have H3 := n2_; clear n1_ n2_; have H := Aside0.mk hrs; clear hrs hq2 hq3 hl2; have h1 := H.out.c1)
            | (((with_reducible refine gate_store (t := 86) (p := 41) rfl ?_); refine put_event rfl rfl 86 (.tmp 41) (.tmp 39) rfl (off := 3) (u := .slice At T.length ct) (seg := [.slice At T.length ct]) rfl rfl HU.out rfl (by kernel_rfl) (by simp) (by simp [Value.oneCell']) ?_; intro w4 hrow hgr; have n1_ := Aside0.mk (H.out.grown hgr (by have := HGU.out; omega) (by have := HGU.out; have := HG.out; omega)); have n2_ := Aside0.mk (H3.out.grown hgr (by have := HGU.out; have := HG.out; simp; omega)); have n4_ := Aside0.mk (show RowAt w4 gu 103 [.slice none 0 0, .slice none 0 0, .slice As S.length cs, .slice At T.length ct] from hrow); clear H H3 HU hrow h1; have H := n1_; have H3 := n2_; have HU := n4_; clear n1_ n2_ n4_; have h1 := H.out.c1); have n1_ := Aside0.mk (own_kept HS.out (fun k hk => hgr.block k (own_lt HS.out k hk) (by have := own_base HS.out k hk; simp; omega))); clear HS; have HS := n1_; clear n1_; have n1_ := Aside0.mk (own_kept HT.out (fun k hk => hgr.block k (own_lt HT.out k hk) (by have := own_base HT.out k hk; simp; omega))); clear HT; have HT := n1_; clear n1_; clear hgr)
            | (go_at_call 53; refine (program_ok w _ g A c b jn e gu _ _ S T H.out HY.out (PI.start HU.out HS.out HT.out (by have := HG.out; omega) (by have := HGU.out; omega)) HST.out _ HPR2.out).mono ?_; rintro xx w3 ⟨vp, rfl, hq1, hot, _⟩; obtain ⟨jp, hf, hrs⟩ := hq1; have n2_ := Aside0.mk (H3.out.kept (hot.2 g3 H3.out.lt (by have := HG.out; omega) (by have := HG.out; have := HGU.out; omega))); clear H H3 h1; have H3 := n2_; clear n2_; have HF := Aside0.mk (show (f.2 != 0) = true by simpa using hf); have H := Aside0.mk hrs; clear hf hrs hot; have h3 := H.out.c3; have h4 := H.out.c4))
          go_quiet ((go_at_call 54; exact Calls.quiet_of_same (bad_same w _ g A c b _ e _ _ true (H.out.drew _) HF.out)))
          have n1_ := Aside0.mk (H.out.drew nq); have n2_ := Aside0.mk (H3.out.below (pw_below_drewN (Below.refl w3.heap.size w3) nq)); clear H H3 h3 h4; have H := n1_; have H3 := n2_; clear n1_ n2_; generalize w3.drewN nq = v0 at *; have h3 := H.out.c3; have h4 := H.out.c4
          go_wp2
          go_quiet ((go_at_call 54; exact Calls.quiet_of_same (bad_same w _ g A c b _ e _ _ true (H.out.drew _) HF.out)))
          have n1_ := Aside0.mk (H.out.drew nq); have n2_ := Aside0.mk (H3.out.below (pw_below_drewN (Below.refl v0.heap.size v0) nq)); clear H H3 h3 h4; have H := n1_; have H3 := n2_; clear n1_ n2_; generalize v0.drewN nq = v1 at *; have h3 := H.out.c3; have h4 := H.out.c4
          go_wp2
          go_quiet ((go_at_call 54; exact Calls.quiet_of_same (bad_same w _ g A c b _ e _ _ true (H.out.drew _) HF.out)))
          have n1_ := Aside0.mk (H.out.drew nq); have n2_ := Aside0.mk (H3.out.below (pw_below_drewN (Below.refl v1.heap.size v1) nq)); clear H H3 h3 h4; have H := n1_; have H3 := n2_; clear n1_ n2_; generalize v1.drewN nq = v2 at *; have h3 := H.out.c3; have h4 := H.out.c4
          go_wp2_with (first
            | (go_at_call 54; refine (bad_same w _ g A c b _ e _ _ true H.out HF.out).mono ?_; rintro xx w9 ⟨rfl, rfl⟩))
          go_still_tail 5, (by kernel_rfl)
          have HB := Aside0.mk (below_drew H.out.old)
          have n2_ := Aside0.mk (H3.out.below (below_drew (Below.refl w9.heap.size w9)))
          clear H3
          have H3 := n2_
          clear n2_
          (refine put_event rfl rfl 42 (.tmp 3) (.tmp 108) rfl (off := 0) (u := .agg #[.int .i64 (f.1), .int .i64 (f.2)]) (seg := [.int .i64 (f.1), .int .i64 (f.2)]) rfl rfl H3.out rfl (by kernel_rfl) (by simp) (by simp [Value.oneCell']) ?_; intro w5 hrow hgr; have n1_ := Aside0.mk (pw_below_grown HB.out (some g3) HB.out.size hgr (fun k hk => by injection hk with hk; have := HG3.out; omega)); have HX := Aside0.mk (show RowAt w5 g3 42 [.int .i64 (f.1), .int .i64 (f.2)] from hrow); clear H3 HB hrow; have HB := n1_; clear n1_)
          go_wp2
          refine bodyPost_ret (results_tc rfl _ _ g3 42 #[.int .i64 (f.1), .int .i64 (f.2)] (0, 0) _ rfl (by obtain ⟨cur, h1, h2⟩ := HX.out; rw [h1, ← h2]) Try.underlying42 rfl (by kernel_rfl)) rfl ?_
          rw [← HRES.out]
          exact ⟨rfl, HB.out⟩
        | .ok (p, kc, kn, l3) =>
          dsimp only at hres
          by_cases k1 : kc < S.length
          · have b1 : decide ((kc : Int) < (S.length : Int)) = true := decide_eq_true (by omega)
            rw [if_pos k1] at hres
            have HRES := Aside0.mk hres
            have HF := Aside0.mk (show ((204 : Int) != 0) = true by decide)
            clear hres
            go_enter Try.func23, Try.ntmps23
            go_wp2_with (first
              | ((with_reducible refine gate_dst (N := 3) rfl ?_); refine box_event (N := 3) rfl rfl (cs := #[.int .i64 0, .int .i64 0]) (t := 42) ?hr2 ?_; (case hr2 => first | (go_simp; done) | (go_simp; rfl)); intro g3 hg3 w1 hbox hb1; have HB := Aside0.mk hb1; have H3 := Aside0.mk (show RowAt w1 g3 42 [.int .i64 0, .int .i64 0] from ⟨_, hbox, rfl⟩); have HG3 := Aside0.mk (show w.heap.size ≤ g3 by omega); clear hbox hb1 hg3)
              | (go_at_call 50; refine (framed_calls _ A c b (Kd.C_below HR.out HB.out) HC.out HL.out HY.out _ HFR.out).mono ?_; rintro xx w2 ⟨rfl, hb⟩; have n1_ := Aside0.mk (below_step HB.out hb); have n2_ := Aside0.mk (H3.out.below hb); clear HB H3 hb; have HB := n1_; have H3 := n2_; clear n1_ n2_)
              | ((with_reducible refine gate_dst (N := 4) rfl ?_); refine box_event (N := 4) rfl rfl (cs := #[.int .i64 0, .int .i64 0]) (t := 42) ?hr2 ?_; (case hr2 => first | (go_simp; done) | (go_simp; rfl)); intro g4 hg4 w1 hbox hb1; have HG4 := Aside0.mk (show w.heap.size ≤ g4 ∧ g3 < g4 by have := HB.out.size; have := H3.out.lt; omega); have n1_ := Aside0.mk (below_step HB.out hb1); have H4 := Aside0.mk (show RowAt w1 g4 42 [.int .i64 0, .int .i64 0] from ⟨_, hbox, rfl⟩); have n2_ := Aside0.mk (H3.out.below hb1); clear HB H3 hbox hb1 hg4; have HB := n1_; have H3 := n2_; clear n1_ n2_)
              | ((with_reducible refine gate_store (t := 42) (p := 4) rfl ?_); refine put_event rfl rfl 42 (.tmp 4) (.tmp 11) rfl (off := 0) (u := .agg #[.int .i64 fr.1, .int .i64 fr.2]) (seg := [.int .i64 fr.1, .int .i64 fr.2]) rfl rfl H4.out rfl (by kernel_rfl) (by simp) (by simp [Value.oneCell']) ?_; intro w5 hrow hgr; have n1_ := Aside0.mk (pw_below_grown HB.out (some g4) HB.out.size hgr (fun k hk => by injection hk with hk; have := HG4.out; omega)); have n2_ := Aside0.mk (H3.out.grown hgr (by have := HG4.out; simp; omega)); have hf0 := (show RowAt w5 g4 42 [.int .i64 fr.1, .int .i64 fr.2] from hrow).cell 0; have hf1 := (show RowAt w5 g4 42 [.int .i64 fr.1, .int .i64 fr.2] from hrow).cell 1; simp only [List.getElem?_cons_zero, List.getElem?_cons_succ] at hf0 hf1; clear H3 H4 HB hrow hgr; have HB := n1_; have H3 := n2_; clear n1_ n2_)
              | ((with_reducible refine gate_dst (N := 21) rfl ?_); refine box_event (N := 21) rfl rfl (cs := rcells A c b (5 : Nat) e 0 0) (t := 99) ?hr2 ?_; (case hr2 => first | (go_simp; done) | (go_simp; rfl)); intro g hg w1 hbox hb1; have HG := Aside0.mk (show w.heap.size ≤ g ∧ g3 < g by have := HB.out.size; have := H3.out.lt; omega); have n1_ := Aside0.mk (RS.start HR.out HC.out HL.out HB.out (below_step HB.out hb1) hg hbox HE.out); have n2_ := Aside0.mk (H3.out.below hb1); clear HB H3 hbox hb1 hg; have H := n1_; have H3 := n2_; clear n1_ n2_)
              | ((with_reducible refine gate_dst (N := 23) rfl ?_); refine box_event (N := 23) rfl rfl (cs := #[.slice none 0 0, .slice none 0 0, .slice none 0 0, .slice none 0 0]) (t := 103) ?hr2 ?_; (case hr2 => first | (go_simp; done) | (go_simp; rfl)); intro gu hgu w1 hbox hb1; have HGU := Aside0.mk (show g < gu by have := H.out.lt; omega); have n1_ := Aside0.mk (H.out.below hb1); have n2_ := Aside0.mk (H3.out.below hb1); have HU := Aside0.mk (show RowAt w1 gu 103 [.slice none 0 0, .slice none 0 0, .slice none 0 0, .slice none 0 0] from ⟨_, hbox, rfl⟩); clear H H3 hbox hb1 hgu; have H := n1_; have H3 := n2_; clear n1_ n2_; have h1 := H.out.c1)
              | (go_at_call 51; refine (classes_ok w _ g A c b 5 e H.out HY.out _ HTC.out).mono ?_; rintro xx w3 ⟨vs, rfl, hq1, hq2, hq3, _⟩; obtain ⟨jc, hrs, hl1⟩ := hq1; obtain ⟨As, cs, rfl⟩ := own_len (hq3 S l1 rfl); have HS := Aside0.mk (own_less (hq3 S l1 rfl) (show gu + 1 ≤ _ from HU.out.lt)); have HTN2 := Aside0.mk (tableN_at hrs hl1 HTN.out); have HJC := Aside0.mk (at_len hrs hl1); clear h1; have n1_ := Aside0.mk (HU.out.kept (hq2.2 gu HU.out.lt (by have := HGU.out; omega))); have n2_ := Aside0.mk (H3.out.kept (hq2.2 g3 H3.out.lt (by have := HG.out; omega))); clear H HU H3; have HU := n1_; have H3 := n2_; clear n1_ n2_; have H := Aside0.mk hrs; clear hrs hq2 hq3 hl1; have h1 := H.out.c1)
              | (((with_reducible refine gate_store (t := 85) (p := 32) rfl ?_); refine put_event rfl rfl 85 (.tmp 32) (.tmp 30) rfl (off := 2) (u := .slice As S.length cs) (seg := [.slice As S.length cs]) rfl rfl HU.out rfl (by kernel_rfl) (by simp) (by simp [Value.oneCell']) ?_; intro w4 hrow hgr; have n1_ := Aside0.mk (H.out.grown hgr (by have := HGU.out; omega) (by have := HGU.out; have := HG.out; omega)); have n2_ := Aside0.mk (H3.out.grown hgr (by have := HGU.out; have := HG.out; simp; omega)); have n4_ := Aside0.mk (show RowAt w4 gu 103 [.slice none 0 0, .slice none 0 0, .slice As S.length cs, .slice none 0 0] from hrow); clear H H3 HU hrow h1; have H := n1_; have H3 := n2_; have HU := n4_; clear n1_ n2_ n4_; have h1 := H.out.c1); have n1_ := Aside0.mk (own_kept HS.out (fun k hk => hgr.block k (own_lt HS.out k hk) (by have := own_base HS.out k hk; simp; omega))); clear HS; have HS := n1_; clear n1_; clear hgr)
              | (go_at_call 52; refine (names_ok w _ g A c b jc e H.out HY.out _ HTN2.out).mono ?_; rintro xx w3 ⟨vt, rfl, hq1, hq2, hq3, _⟩; obtain ⟨jn, hrs, hl2⟩ := hq1; obtain ⟨At, ct, rfl⟩ := own_len (hq3 T l2 rfl); have HT := Aside0.mk (own_less (hq3 T l2 rfl) (show gu + 1 ≤ _ from HU.out.lt)); have n3_ := Aside0.mk (own_kept HS.out (fun k hk => hq2.2 k (own_lt HS.out k hk) (by have := own_base HS.out k hk; have := HGU.out; omega))); clear HS; have HS := n3_; clear n3_; have HPR2 := Aside0.mk (program_at hl2 HPR.out); clear h1; have n1_ := Aside0.mk (HU.out.kept (hq2.2 gu HU.out.lt (by have := HGU.out; omega))); have n2_ := Aside0.mk (H3.out.kept (hq2.2 g3 H3.out.lt (by have := HG.out; omega))); clear H HU H3; have HU := n1_; have H3 := n2_; clear n1_ n2_; have H := Aside0.mk hrs; clear hrs hq2 hq3 hl2; have h1 := H.out.c1)
              | (((with_reducible refine gate_store (t := 86) (p := 41) rfl ?_); refine put_event rfl rfl 86 (.tmp 41) (.tmp 39) rfl (off := 3) (u := .slice At T.length ct) (seg := [.slice At T.length ct]) rfl rfl HU.out rfl (by kernel_rfl) (by simp) (by simp [Value.oneCell']) ?_; intro w4 hrow hgr; have n1_ := Aside0.mk (H.out.grown hgr (by have := HGU.out; omega) (by have := HGU.out; have := HG.out; omega)); have n2_ := Aside0.mk (H3.out.grown hgr (by have := HGU.out; have := HG.out; simp; omega)); have n4_ := Aside0.mk (show RowAt w4 gu 103 [.slice none 0 0, .slice none 0 0, .slice As S.length cs, .slice At T.length ct] from hrow); clear H H3 HU hrow h1; have H := n1_; have H3 := n2_; have HU := n4_; clear n1_ n2_ n4_; have h1 := H.out.c1); have n1_ := Aside0.mk (own_kept HS.out (fun k hk => hgr.block k (own_lt HS.out k hk) (by have := own_base HS.out k hk; simp; omega))); clear HS; have HS := n1_; clear n1_; have n1_ := Aside0.mk (own_kept HT.out (fun k hk => hgr.block k (own_lt HT.out k hk) (by have := own_base HT.out k hk; simp; omega))); clear HT; have HT := n1_; clear n1_; clear hgr)
              | (go_at_call 53; refine (program_ok w _ g A c b jn e gu _ _ S T H.out HY.out (PI.start HU.out HS.out HT.out (by have := HG.out; omega) (by have := HGU.out; omega)) HST.out _ HPR2.out).mono ?_; rintro xx w3 ⟨vp, rfl, hq1, hot, hpi⟩; obtain ⟨jp, hrs, hl3⟩ := hq1; obtain ⟨vc, vn, hpi⟩ := hpi p kc kn l3 rfl; obtain ⟨xc, hxc⟩ := hpi.us.c; obtain ⟨xn, hxn⟩ := hpi.us.n; obtain ⟨Ac, cc, rfl⟩ := own_len hxc; obtain ⟨An, cn, rfl⟩ := own_len hxn; have HWP := Aside0.mk (show g3 < _ ∧ w.heap.size ≤ _ from ⟨H3.out.lt, H.out.old.size⟩); have n2_ := Aside0.mk (H3.out.kept (hot.2 g3 H3.out.lt (by have := HG.out; omega) (by have := HG.out; have := HGU.out; omega))); clear H H3 h1; have H3 := n2_; clear n2_; have HI := Aside0.mk hpi; have HJP := Aside0.mk (at_len hrs hl3); have HL3 := Aside0.mk (show l3.length = e - jp from left_len hrs hl3); have HJE := Aside0.mk hrs.at_; have H := Aside0.mk hrs; clear hrs hot hpi hxc hxn hl3; have h1 := H.out.c1; have h2 := H.out.c2; have hu0 := (HI.out.us.row.cell 0).trans (show _ = some (.slice Ac kc cc) from rfl); have hu1 := (HI.out.us.row.cell 1).trans (show _ = some (.slice An kn cn) from rfl); have hu2 := (HI.out.us.row.cell 2).trans (show _ = some (.slice As S.length cs) from rfl); have hu3 := (HI.out.us.row.cell 3).trans (show _ = some (.slice At T.length ct) from rfl)))
            go_quiet ((go_at_call 54; exact Calls.quiet_of_same (bad_same w _ g A c b _ e 0 0 false (H.out.drew _) rfl)))
            have n1_ := Aside0.mk (H.out.drew nq); have n2_ := Aside0.mk (H3.out.below (pw_below_drewN (Below.refl w3.heap.size w3) nq)); have n3_ := Aside0.mk (HI.out.below (pw_below_drewN (Below.refl w3.heap.size w3) nq)); clear H H3 HI h1 h2 hu0 hu1 hu2 hu3; have H := n1_; have H3 := n2_; have HI := n3_; clear n1_ n2_ n3_; generalize w3.drewN nq = w6 at *; have h1 := H.out.c1; have h2 := H.out.c2; have hu0 := (HI.out.us.row.cell 0).trans (show _ = some (.slice Ac kc cc) from rfl); have hu1 := (HI.out.us.row.cell 1).trans (show _ = some (.slice An kn cn) from rfl); have hu2 := (HI.out.us.row.cell 2).trans (show _ = some (.slice As S.length cs) from rfl); have hu3 := (HI.out.us.row.cell 3).trans (show _ = some (.slice At T.length ct) from rfl)
            go_wp2_with (first
              | (go_at_call 55; refine (fail_ok w _ g A c b _ e _ _ H.out).mono ?_; rintro xx w7 ⟨rfl, hrs, hq2⟩; have n2_ := Aside0.mk (H3.out.kept (hq2.2 g3 H3.out.lt (by have := HG.out; omega))); clear H H3 h1 h2 hu0 hu1 hu2 hu3; have H := Aside0.mk hrs; have H3 := n2_; clear n2_ hrs hq2; have h3 := H.out.c3; have h4 := H.out.c4))
            go_quiet ((go_at_call 54; exact Calls.quiet_of_same (bad_same w _ g A c b _ e _ _ true (H.out.drew _) HF.out)))
            have n1_ := Aside0.mk (H.out.drew nq); have n2_ := Aside0.mk (H3.out.below (pw_below_drewN (Below.refl w7.heap.size w7) nq)); clear H H3 h3 h4; have H := n1_; have H3 := n2_; clear n1_ n2_; generalize w7.drewN nq = v0 at *; have h3 := H.out.c3; have h4 := H.out.c4
            go_wp2
            go_quiet ((go_at_call 54; exact Calls.quiet_of_same (bad_same w _ g A c b _ e _ _ true (H.out.drew _) HF.out)))
            have n1_ := Aside0.mk (H.out.drew nq); have n2_ := Aside0.mk (H3.out.below (pw_below_drewN (Below.refl v0.heap.size v0) nq)); clear H H3 h3 h4; have H := n1_; have H3 := n2_; clear n1_ n2_; generalize v0.drewN nq = v1 at *; have h3 := H.out.c3; have h4 := H.out.c4
            go_wp2_with (first
              | (go_at_call 54; refine (bad_same w _ g A c b _ e _ _ true H.out HF.out).mono ?_; rintro xx w9 ⟨rfl, rfl⟩))
            go_still_tail 5, (by kernel_rfl)
            have HB := Aside0.mk (below_drew H.out.old)
            have n2_ := Aside0.mk (H3.out.below (below_drew (Below.refl w9.heap.size w9)))
            clear H3
            have H3 := n2_
            clear n2_
            (refine put_event rfl rfl 42 (.tmp 3) (.tmp 108) rfl (off := 0) (u := .agg #[.int .i64 (5), .int .i64 (204)]) (seg := [.int .i64 (5), .int .i64 (204)]) rfl rfl H3.out rfl (by kernel_rfl) (by simp) (by simp [Value.oneCell']) ?_; intro w5 hrow hgr; have n1_ := Aside0.mk (pw_below_grown HB.out (some g3) HB.out.size hgr (fun k hk => by injection hk with hk; have := HG3.out; omega)); have HX := Aside0.mk (show RowAt w5 g3 42 [.int .i64 (5), .int .i64 (204)] from hrow); clear H3 HB hrow; have HB := n1_; clear n1_)
            go_wp2
            refine bodyPost_ret (results_tc rfl _ _ g3 42 #[.int .i64 (5), .int .i64 (204)] (0, 0) _ rfl (by obtain ⟨cur, h1, h2⟩ := HX.out; rw [h1, ← h2]) Try.underlying42 rfl (by kernel_rfl)) rfl ?_
            rw [← HRES.out]
            exact ⟨rfl, HB.out⟩
          · have b1 : decide ((kc : Int) < (S.length : Int)) = false := decide_eq_false (by omega)
            rw [if_neg k1] at hres
            by_cases k2 : kn < T.length
            · have b2 : decide ((kn : Int) < (T.length : Int)) = true := decide_eq_true (by omega)
              rw [if_pos k2] at hres
              have HRES := Aside0.mk hres
              have HF := Aside0.mk (show ((204 : Int) != 0) = true by decide)
              clear hres
              go_enter Try.func23, Try.ntmps23
              go_wp2_with (first
                | ((with_reducible refine gate_dst (N := 3) rfl ?_); refine box_event (N := 3) rfl rfl (cs := #[.int .i64 0, .int .i64 0]) (t := 42) ?hr2 ?_; (case hr2 => first | (go_simp; done) | (go_simp; rfl)); intro g3 hg3 w1 hbox hb1; have HB := Aside0.mk hb1; have H3 := Aside0.mk (show RowAt w1 g3 42 [.int .i64 0, .int .i64 0] from ⟨_, hbox, rfl⟩); have HG3 := Aside0.mk (show w.heap.size ≤ g3 by omega); clear hbox hb1 hg3)
                | (go_at_call 50; refine (framed_calls _ A c b (Kd.C_below HR.out HB.out) HC.out HL.out HY.out _ HFR.out).mono ?_; rintro xx w2 ⟨rfl, hb⟩; have n1_ := Aside0.mk (below_step HB.out hb); have n2_ := Aside0.mk (H3.out.below hb); clear HB H3 hb; have HB := n1_; have H3 := n2_; clear n1_ n2_)
                | ((with_reducible refine gate_dst (N := 4) rfl ?_); refine box_event (N := 4) rfl rfl (cs := #[.int .i64 0, .int .i64 0]) (t := 42) ?hr2 ?_; (case hr2 => first | (go_simp; done) | (go_simp; rfl)); intro g4 hg4 w1 hbox hb1; have HG4 := Aside0.mk (show w.heap.size ≤ g4 ∧ g3 < g4 by have := HB.out.size; have := H3.out.lt; omega); have n1_ := Aside0.mk (below_step HB.out hb1); have H4 := Aside0.mk (show RowAt w1 g4 42 [.int .i64 0, .int .i64 0] from ⟨_, hbox, rfl⟩); have n2_ := Aside0.mk (H3.out.below hb1); clear HB H3 hbox hb1 hg4; have HB := n1_; have H3 := n2_; clear n1_ n2_)
                | ((with_reducible refine gate_store (t := 42) (p := 4) rfl ?_); refine put_event rfl rfl 42 (.tmp 4) (.tmp 11) rfl (off := 0) (u := .agg #[.int .i64 fr.1, .int .i64 fr.2]) (seg := [.int .i64 fr.1, .int .i64 fr.2]) rfl rfl H4.out rfl (by kernel_rfl) (by simp) (by simp [Value.oneCell']) ?_; intro w5 hrow hgr; have n1_ := Aside0.mk (pw_below_grown HB.out (some g4) HB.out.size hgr (fun k hk => by injection hk with hk; have := HG4.out; omega)); have n2_ := Aside0.mk (H3.out.grown hgr (by have := HG4.out; simp; omega)); have hf0 := (show RowAt w5 g4 42 [.int .i64 fr.1, .int .i64 fr.2] from hrow).cell 0; have hf1 := (show RowAt w5 g4 42 [.int .i64 fr.1, .int .i64 fr.2] from hrow).cell 1; simp only [List.getElem?_cons_zero, List.getElem?_cons_succ] at hf0 hf1; clear H3 H4 HB hrow hgr; have HB := n1_; have H3 := n2_; clear n1_ n2_)
                | ((with_reducible refine gate_dst (N := 21) rfl ?_); refine box_event (N := 21) rfl rfl (cs := rcells A c b (5 : Nat) e 0 0) (t := 99) ?hr2 ?_; (case hr2 => first | (go_simp; done) | (go_simp; rfl)); intro g hg w1 hbox hb1; have HG := Aside0.mk (show w.heap.size ≤ g ∧ g3 < g by have := HB.out.size; have := H3.out.lt; omega); have n1_ := Aside0.mk (RS.start HR.out HC.out HL.out HB.out (below_step HB.out hb1) hg hbox HE.out); have n2_ := Aside0.mk (H3.out.below hb1); clear HB H3 hbox hb1 hg; have H := n1_; have H3 := n2_; clear n1_ n2_)
                | ((with_reducible refine gate_dst (N := 23) rfl ?_); refine box_event (N := 23) rfl rfl (cs := #[.slice none 0 0, .slice none 0 0, .slice none 0 0, .slice none 0 0]) (t := 103) ?hr2 ?_; (case hr2 => first | (go_simp; done) | (go_simp; rfl)); intro gu hgu w1 hbox hb1; have HGU := Aside0.mk (show g < gu by have := H.out.lt; omega); have n1_ := Aside0.mk (H.out.below hb1); have n2_ := Aside0.mk (H3.out.below hb1); have HU := Aside0.mk (show RowAt w1 gu 103 [.slice none 0 0, .slice none 0 0, .slice none 0 0, .slice none 0 0] from ⟨_, hbox, rfl⟩); clear H H3 hbox hb1 hgu; have H := n1_; have H3 := n2_; clear n1_ n2_; have h1 := H.out.c1)
                | (go_at_call 51; refine (classes_ok w _ g A c b 5 e H.out HY.out _ HTC.out).mono ?_; rintro xx w3 ⟨vs, rfl, hq1, hq2, hq3, _⟩; obtain ⟨jc, hrs, hl1⟩ := hq1; obtain ⟨As, cs, rfl⟩ := own_len (hq3 S l1 rfl); have HS := Aside0.mk (own_less (hq3 S l1 rfl) (show gu + 1 ≤ _ from HU.out.lt)); have HTN2 := Aside0.mk (tableN_at hrs hl1 HTN.out); have HJC := Aside0.mk (at_len hrs hl1); clear h1; have n1_ := Aside0.mk (HU.out.kept (hq2.2 gu HU.out.lt (by have := HGU.out; omega))); have n2_ := Aside0.mk (H3.out.kept (hq2.2 g3 H3.out.lt (by have := HG.out; omega))); clear H HU H3; have HU := n1_; have H3 := n2_; clear n1_ n2_; have H := Aside0.mk hrs; clear hrs hq2 hq3 hl1; have h1 := H.out.c1)
                | (((with_reducible refine gate_store (t := 85) (p := 32) rfl ?_); refine put_event rfl rfl 85 (.tmp 32) (.tmp 30) rfl (off := 2) (u := .slice As S.length cs) (seg := [.slice As S.length cs]) rfl rfl HU.out rfl (by kernel_rfl) (by simp) (by simp [Value.oneCell']) ?_; intro w4 hrow hgr; have n1_ := Aside0.mk (H.out.grown hgr (by have := HGU.out; omega) (by have := HGU.out; have := HG.out; omega)); have n2_ := Aside0.mk (H3.out.grown hgr (by have := HGU.out; have := HG.out; simp; omega)); have n4_ := Aside0.mk (show RowAt w4 gu 103 [.slice none 0 0, .slice none 0 0, .slice As S.length cs, .slice none 0 0] from hrow); clear H H3 HU hrow h1; have H := n1_; have H3 := n2_; have HU := n4_; clear n1_ n2_ n4_; have h1 := H.out.c1); have n1_ := Aside0.mk (own_kept HS.out (fun k hk => hgr.block k (own_lt HS.out k hk) (by have := own_base HS.out k hk; simp; omega))); clear HS; have HS := n1_; clear n1_; clear hgr)
                | (go_at_call 52; refine (names_ok w _ g A c b jc e H.out HY.out _ HTN2.out).mono ?_; rintro xx w3 ⟨vt, rfl, hq1, hq2, hq3, _⟩; obtain ⟨jn, hrs, hl2⟩ := hq1; obtain ⟨At, ct, rfl⟩ := own_len (hq3 T l2 rfl); have HT := Aside0.mk (own_less (hq3 T l2 rfl) (show gu + 1 ≤ _ from HU.out.lt)); have n3_ := Aside0.mk (own_kept HS.out (fun k hk => hq2.2 k (own_lt HS.out k hk) (by have := own_base HS.out k hk; have := HGU.out; omega))); clear HS; have HS := n3_; clear n3_; have HPR2 := Aside0.mk (program_at hl2 HPR.out); clear h1; have n1_ := Aside0.mk (HU.out.kept (hq2.2 gu HU.out.lt (by have := HGU.out; omega))); have n2_ := Aside0.mk (H3.out.kept (hq2.2 g3 H3.out.lt (by have := HG.out; omega))); clear H HU H3; have HU := n1_; have H3 := n2_; clear n1_ n2_; have H := Aside0.mk hrs; clear hrs hq2 hq3 hl2; have h1 := H.out.c1)
                | (((with_reducible refine gate_store (t := 86) (p := 41) rfl ?_); refine put_event rfl rfl 86 (.tmp 41) (.tmp 39) rfl (off := 3) (u := .slice At T.length ct) (seg := [.slice At T.length ct]) rfl rfl HU.out rfl (by kernel_rfl) (by simp) (by simp [Value.oneCell']) ?_; intro w4 hrow hgr; have n1_ := Aside0.mk (H.out.grown hgr (by have := HGU.out; omega) (by have := HGU.out; have := HG.out; omega)); have n2_ := Aside0.mk (H3.out.grown hgr (by have := HGU.out; have := HG.out; simp; omega)); have n4_ := Aside0.mk (show RowAt w4 gu 103 [.slice none 0 0, .slice none 0 0, .slice As S.length cs, .slice At T.length ct] from hrow); clear H H3 HU hrow h1; have H := n1_; have H3 := n2_; have HU := n4_; clear n1_ n2_ n4_; have h1 := H.out.c1); have n1_ := Aside0.mk (own_kept HS.out (fun k hk => hgr.block k (own_lt HS.out k hk) (by have := own_base HS.out k hk; simp; omega))); clear HS; have HS := n1_; clear n1_; have n1_ := Aside0.mk (own_kept HT.out (fun k hk => hgr.block k (own_lt HT.out k hk) (by have := own_base HT.out k hk; simp; omega))); clear HT; have HT := n1_; clear n1_; clear hgr)
                | (go_at_call 53; refine (program_ok w _ g A c b jn e gu _ _ S T H.out HY.out (PI.start HU.out HS.out HT.out (by have := HG.out; omega) (by have := HGU.out; omega)) HST.out _ HPR2.out).mono ?_; rintro xx w3 ⟨vp, rfl, hq1, hot, hpi⟩; obtain ⟨jp, hrs, hl3⟩ := hq1; obtain ⟨vc, vn, hpi⟩ := hpi p kc kn l3 rfl; obtain ⟨xc, hxc⟩ := hpi.us.c; obtain ⟨xn, hxn⟩ := hpi.us.n; obtain ⟨Ac, cc, rfl⟩ := own_len hxc; obtain ⟨An, cn, rfl⟩ := own_len hxn; have HWP := Aside0.mk (show g3 < _ ∧ w.heap.size ≤ _ from ⟨H3.out.lt, H.out.old.size⟩); have n2_ := Aside0.mk (H3.out.kept (hot.2 g3 H3.out.lt (by have := HG.out; omega) (by have := HG.out; have := HGU.out; omega))); clear H H3 h1; have H3 := n2_; clear n2_; have HI := Aside0.mk hpi; have HJP := Aside0.mk (at_len hrs hl3); have HL3 := Aside0.mk (show l3.length = e - jp from left_len hrs hl3); have HJE := Aside0.mk hrs.at_; have H := Aside0.mk hrs; clear hrs hot hpi hxc hxn hl3; have h1 := H.out.c1; have h2 := H.out.c2; have hu0 := (HI.out.us.row.cell 0).trans (show _ = some (.slice Ac kc cc) from rfl); have hu1 := (HI.out.us.row.cell 1).trans (show _ = some (.slice An kn cn) from rfl); have hu2 := (HI.out.us.row.cell 2).trans (show _ = some (.slice As S.length cs) from rfl); have hu3 := (HI.out.us.row.cell 3).trans (show _ = some (.slice At T.length ct) from rfl)))
              go_quiet ((go_at_call 54; exact Calls.quiet_of_same (bad_same w _ g A c b _ e 0 0 false (H.out.drew _) rfl)))
              have n1_ := Aside0.mk (H.out.drew nq); have n2_ := Aside0.mk (H3.out.below (pw_below_drewN (Below.refl w3.heap.size w3) nq)); have n3_ := Aside0.mk (HI.out.below (pw_below_drewN (Below.refl w3.heap.size w3) nq)); clear H H3 HI h1 h2 hu0 hu1 hu2 hu3; have H := n1_; have H3 := n2_; have HI := n3_; clear n1_ n2_ n3_; generalize w3.drewN nq = w6 at *; have h1 := H.out.c1; have h2 := H.out.c2; have hu0 := (HI.out.us.row.cell 0).trans (show _ = some (.slice Ac kc cc) from rfl); have hu1 := (HI.out.us.row.cell 1).trans (show _ = some (.slice An kn cn) from rfl); have hu2 := (HI.out.us.row.cell 2).trans (show _ = some (.slice As S.length cs) from rfl); have hu3 := (HI.out.us.row.cell 3).trans (show _ = some (.slice At T.length ct) from rfl)
              go_wp2
              go_quiet ((go_at_call 54; exact Calls.quiet_of_same (bad_same w _ g A c b _ e 0 0 false (H.out.drew _) rfl)))
              have n1_ := Aside0.mk (H.out.drew nq); have n2_ := Aside0.mk (H3.out.below (pw_below_drewN (Below.refl w6.heap.size w6) nq)); have n3_ := Aside0.mk (HI.out.below (pw_below_drewN (Below.refl w6.heap.size w6) nq)); clear H H3 HI h1 h2 hu0 hu1 hu2 hu3; have H := n1_; have H3 := n2_; have HI := n3_; clear n1_ n2_ n3_; generalize w6.drewN nq = w12 at *; have h1 := H.out.c1; have h2 := H.out.c2; have hu0 := (HI.out.us.row.cell 0).trans (show _ = some (.slice Ac kc cc) from rfl); have hu1 := (HI.out.us.row.cell 1).trans (show _ = some (.slice An kn cn) from rfl); have hu2 := (HI.out.us.row.cell 2).trans (show _ = some (.slice As S.length cs) from rfl); have hu3 := (HI.out.us.row.cell 3).trans (show _ = some (.slice At T.length ct) from rfl)
              go_wp2_with (first
                | (go_at_call 55; refine (fail_ok w _ g A c b _ e _ _ H.out).mono ?_; rintro xx w7 ⟨rfl, hrs, hq2⟩; have n2_ := Aside0.mk (H3.out.kept (hq2.2 g3 H3.out.lt (by have := HG.out; omega))); clear H H3 h1 h2 hu0 hu1 hu2 hu3; have H := Aside0.mk hrs; have H3 := n2_; clear n2_ hrs hq2; have h3 := H.out.c3; have h4 := H.out.c4))
              have hjc := HJC.out
              subst hjc
              go_quiet ((go_at_call 54; exact Calls.quiet_of_same (bad_same w _ g A c b _ e _ _ true (H.out.drew _) HF.out)))
              have n1_ := Aside0.mk (H.out.drew nq); have n2_ := Aside0.mk (H3.out.below (pw_below_drewN (Below.refl w7.heap.size w7) nq)); clear H H3 h3 h4; have H := n1_; have H3 := n2_; clear n1_ n2_; generalize w7.drewN nq = v0 at *; have h3 := H.out.c3; have h4 := H.out.c4
              go_wp2_with (first
                | (go_at_call 54; refine (bad_same w _ g A c b _ e _ _ true H.out HF.out).mono ?_; rintro xx w9 ⟨rfl, rfl⟩))
              go_still_tail 5, (by kernel_rfl)
              have HB := Aside0.mk (below_drew H.out.old)
              have n2_ := Aside0.mk (H3.out.below (below_drew (Below.refl w9.heap.size w9)))
              clear H3
              have H3 := n2_
              clear n2_
              (refine put_event rfl rfl 42 (.tmp 3) (.tmp 108) rfl (off := 0) (u := .agg #[.int .i64 (((e - l1.length : Nat) : Int)), .int .i64 (204)]) (seg := [.int .i64 (((e - l1.length : Nat) : Int)), .int .i64 (204)]) rfl rfl H3.out rfl (by kernel_rfl) (by simp) (by simp [Value.oneCell']) ?_; intro w5 hrow hgr; have n1_ := Aside0.mk (pw_below_grown HB.out (some g3) HB.out.size hgr (fun k hk => by injection hk with hk; have := HG3.out; omega)); have HX := Aside0.mk (show RowAt w5 g3 42 [.int .i64 (((e - l1.length : Nat) : Int)), .int .i64 (204)] from hrow); clear H3 HB hrow; have HB := n1_; clear n1_)
              go_wp2
              refine bodyPost_ret (results_tc rfl _ _ g3 42 #[.int .i64 (((e - l1.length : Nat) : Int)), .int .i64 (204)] (0, 0) _ rfl (by obtain ⟨cur, h1, h2⟩ := HX.out; rw [h1, ← h2]) Try.underlying42 rfl (by kernel_rfl)) rfl ?_
              rw [← HRES.out]
              exact ⟨rfl, HB.out⟩
            · have b2 : decide ((kn : Int) < (T.length : Int)) = false := decide_eq_false (by omega)
              rw [if_neg k2] at hres
              by_cases k3 : l3.length ≠ 0
              · rw [if_pos k3] at hres
                have HRES := Aside0.mk hres
                have HF := Aside0.mk (show ((201 : Int) != 0) = true by decide)
                clear hres
                go_enter Try.func23, Try.ntmps23
                go_wp2_with (first
                  | ((with_reducible refine gate_dst (N := 3) rfl ?_); refine box_event (N := 3) rfl rfl (cs := #[.int .i64 0, .int .i64 0]) (t := 42) ?hr2 ?_; (case hr2 => first | (go_simp; done) | (go_simp; rfl)); intro g3 hg3 w1 hbox hb1; have HB := Aside0.mk hb1; have H3 := Aside0.mk (show RowAt w1 g3 42 [.int .i64 0, .int .i64 0] from ⟨_, hbox, rfl⟩); have HG3 := Aside0.mk (show w.heap.size ≤ g3 by omega); clear hbox hb1 hg3)
                  | (go_at_call 50; refine (framed_calls _ A c b (Kd.C_below HR.out HB.out) HC.out HL.out HY.out _ HFR.out).mono ?_; rintro xx w2 ⟨rfl, hb⟩; have n1_ := Aside0.mk (below_step HB.out hb); have n2_ := Aside0.mk (H3.out.below hb); clear HB H3 hb; have HB := n1_; have H3 := n2_; clear n1_ n2_)
                  | ((with_reducible refine gate_dst (N := 4) rfl ?_); refine box_event (N := 4) rfl rfl (cs := #[.int .i64 0, .int .i64 0]) (t := 42) ?hr2 ?_; (case hr2 => first | (go_simp; done) | (go_simp; rfl)); intro g4 hg4 w1 hbox hb1; have HG4 := Aside0.mk (show w.heap.size ≤ g4 ∧ g3 < g4 by have := HB.out.size; have := H3.out.lt; omega); have n1_ := Aside0.mk (below_step HB.out hb1); have H4 := Aside0.mk (show RowAt w1 g4 42 [.int .i64 0, .int .i64 0] from ⟨_, hbox, rfl⟩); have n2_ := Aside0.mk (H3.out.below hb1); clear HB H3 hbox hb1 hg4; have HB := n1_; have H3 := n2_; clear n1_ n2_)
                  | ((with_reducible refine gate_store (t := 42) (p := 4) rfl ?_); refine put_event rfl rfl 42 (.tmp 4) (.tmp 11) rfl (off := 0) (u := .agg #[.int .i64 fr.1, .int .i64 fr.2]) (seg := [.int .i64 fr.1, .int .i64 fr.2]) rfl rfl H4.out rfl (by kernel_rfl) (by simp) (by simp [Value.oneCell']) ?_; intro w5 hrow hgr; have n1_ := Aside0.mk (pw_below_grown HB.out (some g4) HB.out.size hgr (fun k hk => by injection hk with hk; have := HG4.out; omega)); have n2_ := Aside0.mk (H3.out.grown hgr (by have := HG4.out; simp; omega)); have hf0 := (show RowAt w5 g4 42 [.int .i64 fr.1, .int .i64 fr.2] from hrow).cell 0; have hf1 := (show RowAt w5 g4 42 [.int .i64 fr.1, .int .i64 fr.2] from hrow).cell 1; simp only [List.getElem?_cons_zero, List.getElem?_cons_succ] at hf0 hf1; clear H3 H4 HB hrow hgr; have HB := n1_; have H3 := n2_; clear n1_ n2_)
                  | ((with_reducible refine gate_dst (N := 21) rfl ?_); refine box_event (N := 21) rfl rfl (cs := rcells A c b (5 : Nat) e 0 0) (t := 99) ?hr2 ?_; (case hr2 => first | (go_simp; done) | (go_simp; rfl)); intro g hg w1 hbox hb1; have HG := Aside0.mk (show w.heap.size ≤ g ∧ g3 < g by have := HB.out.size; have := H3.out.lt; omega); have n1_ := Aside0.mk (RS.start HR.out HC.out HL.out HB.out (below_step HB.out hb1) hg hbox HE.out); have n2_ := Aside0.mk (H3.out.below hb1); clear HB H3 hbox hb1 hg; have H := n1_; have H3 := n2_; clear n1_ n2_)
                  | ((with_reducible refine gate_dst (N := 23) rfl ?_); refine box_event (N := 23) rfl rfl (cs := #[.slice none 0 0, .slice none 0 0, .slice none 0 0, .slice none 0 0]) (t := 103) ?hr2 ?_; (case hr2 => first | (go_simp; done) | (go_simp; rfl)); intro gu hgu w1 hbox hb1; have HGU := Aside0.mk (show g < gu by have := H.out.lt; omega); have n1_ := Aside0.mk (H.out.below hb1); have n2_ := Aside0.mk (H3.out.below hb1); have HU := Aside0.mk (show RowAt w1 gu 103 [.slice none 0 0, .slice none 0 0, .slice none 0 0, .slice none 0 0] from ⟨_, hbox, rfl⟩); clear H H3 hbox hb1 hgu; have H := n1_; have H3 := n2_; clear n1_ n2_; have h1 := H.out.c1)
                  | (go_at_call 51; refine (classes_ok w _ g A c b 5 e H.out HY.out _ HTC.out).mono ?_; rintro xx w3 ⟨vs, rfl, hq1, hq2, hq3, _⟩; obtain ⟨jc, hrs, hl1⟩ := hq1; obtain ⟨As, cs, rfl⟩ := own_len (hq3 S l1 rfl); have HS := Aside0.mk (own_less (hq3 S l1 rfl) (show gu + 1 ≤ _ from HU.out.lt)); have HTN2 := Aside0.mk (tableN_at hrs hl1 HTN.out); have HJC := Aside0.mk (at_len hrs hl1); clear h1; have n1_ := Aside0.mk (HU.out.kept (hq2.2 gu HU.out.lt (by have := HGU.out; omega))); have n2_ := Aside0.mk (H3.out.kept (hq2.2 g3 H3.out.lt (by have := HG.out; omega))); clear H HU H3; have HU := n1_; have H3 := n2_; clear n1_ n2_; have H := Aside0.mk hrs; clear hrs hq2 hq3 hl1; have h1 := H.out.c1)
                  | (((with_reducible refine gate_store (t := 85) (p := 32) rfl ?_); refine put_event rfl rfl 85 (.tmp 32) (.tmp 30) rfl (off := 2) (u := .slice As S.length cs) (seg := [.slice As S.length cs]) rfl rfl HU.out rfl (by kernel_rfl) (by simp) (by simp [Value.oneCell']) ?_; intro w4 hrow hgr; have n1_ := Aside0.mk (H.out.grown hgr (by have := HGU.out; omega) (by have := HGU.out; have := HG.out; omega)); have n2_ := Aside0.mk (H3.out.grown hgr (by have := HGU.out; have := HG.out; simp; omega)); have n4_ := Aside0.mk (show RowAt w4 gu 103 [.slice none 0 0, .slice none 0 0, .slice As S.length cs, .slice none 0 0] from hrow); clear H H3 HU hrow h1; have H := n1_; have H3 := n2_; have HU := n4_; clear n1_ n2_ n4_; have h1 := H.out.c1); have n1_ := Aside0.mk (own_kept HS.out (fun k hk => hgr.block k (own_lt HS.out k hk) (by have := own_base HS.out k hk; simp; omega))); clear HS; have HS := n1_; clear n1_; clear hgr)
                  | (go_at_call 52; refine (names_ok w _ g A c b jc e H.out HY.out _ HTN2.out).mono ?_; rintro xx w3 ⟨vt, rfl, hq1, hq2, hq3, _⟩; obtain ⟨jn, hrs, hl2⟩ := hq1; obtain ⟨At, ct, rfl⟩ := own_len (hq3 T l2 rfl); have HT := Aside0.mk (own_less (hq3 T l2 rfl) (show gu + 1 ≤ _ from HU.out.lt)); have n3_ := Aside0.mk (own_kept HS.out (fun k hk => hq2.2 k (own_lt HS.out k hk) (by have := own_base HS.out k hk; have := HGU.out; omega))); clear HS; have HS := n3_; clear n3_; have HPR2 := Aside0.mk (program_at hl2 HPR.out); clear h1; have n1_ := Aside0.mk (HU.out.kept (hq2.2 gu HU.out.lt (by have := HGU.out; omega))); have n2_ := Aside0.mk (H3.out.kept (hq2.2 g3 H3.out.lt (by have := HG.out; omega))); clear H HU H3; have HU := n1_; have H3 := n2_; clear n1_ n2_; have H := Aside0.mk hrs; clear hrs hq2 hq3 hl2; have h1 := H.out.c1)
                  | (((with_reducible refine gate_store (t := 86) (p := 41) rfl ?_); refine put_event rfl rfl 86 (.tmp 41) (.tmp 39) rfl (off := 3) (u := .slice At T.length ct) (seg := [.slice At T.length ct]) rfl rfl HU.out rfl (by kernel_rfl) (by simp) (by simp [Value.oneCell']) ?_; intro w4 hrow hgr; have n1_ := Aside0.mk (H.out.grown hgr (by have := HGU.out; omega) (by have := HGU.out; have := HG.out; omega)); have n2_ := Aside0.mk (H3.out.grown hgr (by have := HGU.out; have := HG.out; simp; omega)); have n4_ := Aside0.mk (show RowAt w4 gu 103 [.slice none 0 0, .slice none 0 0, .slice As S.length cs, .slice At T.length ct] from hrow); clear H H3 HU hrow h1; have H := n1_; have H3 := n2_; have HU := n4_; clear n1_ n2_ n4_; have h1 := H.out.c1); have n1_ := Aside0.mk (own_kept HS.out (fun k hk => hgr.block k (own_lt HS.out k hk) (by have := own_base HS.out k hk; simp; omega))); clear HS; have HS := n1_; clear n1_; have n1_ := Aside0.mk (own_kept HT.out (fun k hk => hgr.block k (own_lt HT.out k hk) (by have := own_base HT.out k hk; simp; omega))); clear HT; have HT := n1_; clear n1_; clear hgr)
                  | (go_at_call 53; refine (program_ok w _ g A c b jn e gu _ _ S T H.out HY.out (PI.start HU.out HS.out HT.out (by have := HG.out; omega) (by have := HGU.out; omega)) HST.out _ HPR2.out).mono ?_; rintro xx w3 ⟨vp, rfl, hq1, hot, hpi⟩; obtain ⟨jp, hrs, hl3⟩ := hq1; obtain ⟨vc, vn, hpi⟩ := hpi p kc kn l3 rfl; obtain ⟨xc, hxc⟩ := hpi.us.c; obtain ⟨xn, hxn⟩ := hpi.us.n; obtain ⟨Ac, cc, rfl⟩ := own_len hxc; obtain ⟨An, cn, rfl⟩ := own_len hxn; have HWP := Aside0.mk (show g3 < _ ∧ w.heap.size ≤ _ from ⟨H3.out.lt, H.out.old.size⟩); have n2_ := Aside0.mk (H3.out.kept (hot.2 g3 H3.out.lt (by have := HG.out; omega) (by have := HG.out; have := HGU.out; omega))); clear H H3 h1; have H3 := n2_; clear n2_; have HI := Aside0.mk hpi; have HJP := Aside0.mk (at_len hrs hl3); have HL3 := Aside0.mk (show l3.length = e - jp from left_len hrs hl3); have HJE := Aside0.mk hrs.at_; have H := Aside0.mk hrs; clear hrs hot hpi hxc hxn hl3; have h1 := H.out.c1; have h2 := H.out.c2; have hu0 := (HI.out.us.row.cell 0).trans (show _ = some (.slice Ac kc cc) from rfl); have hu1 := (HI.out.us.row.cell 1).trans (show _ = some (.slice An kn cn) from rfl); have hu2 := (HI.out.us.row.cell 2).trans (show _ = some (.slice As S.length cs) from rfl); have hu3 := (HI.out.us.row.cell 3).trans (show _ = some (.slice At T.length ct) from rfl)))
                have b3 : ((jp : Int) != (e : Int)) = true := by have := HL3.out; have := HJE.out; simp; omega
                go_quiet ((go_at_call 54; exact Calls.quiet_of_same (bad_same w _ g A c b _ e 0 0 false (H.out.drew _) rfl)))
                have n1_ := Aside0.mk (H.out.drew nq); have n2_ := Aside0.mk (H3.out.below (pw_below_drewN (Below.refl w3.heap.size w3) nq)); have n3_ := Aside0.mk (HI.out.below (pw_below_drewN (Below.refl w3.heap.size w3) nq)); clear H H3 HI h1 h2 hu0 hu1 hu2 hu3; have H := n1_; have H3 := n2_; have HI := n3_; clear n1_ n2_ n3_; generalize w3.drewN nq = w6 at *; have h1 := H.out.c1; have h2 := H.out.c2; have hu0 := (HI.out.us.row.cell 0).trans (show _ = some (.slice Ac kc cc) from rfl); have hu1 := (HI.out.us.row.cell 1).trans (show _ = some (.slice An kn cn) from rfl); have hu2 := (HI.out.us.row.cell 2).trans (show _ = some (.slice As S.length cs) from rfl); have hu3 := (HI.out.us.row.cell 3).trans (show _ = some (.slice At T.length ct) from rfl)
                go_wp2
                go_quiet ((go_at_call 54; exact Calls.quiet_of_same (bad_same w _ g A c b _ e 0 0 false (H.out.drew _) rfl)))
                have n1_ := Aside0.mk (H.out.drew nq); have n2_ := Aside0.mk (H3.out.below (pw_below_drewN (Below.refl w6.heap.size w6) nq)); have n3_ := Aside0.mk (HI.out.below (pw_below_drewN (Below.refl w6.heap.size w6) nq)); clear H H3 HI h1 h2 hu0 hu1 hu2 hu3; have H := n1_; have H3 := n2_; have HI := n3_; clear n1_ n2_ n3_; generalize w6.drewN nq = w12 at *; have h1 := H.out.c1; have h2 := H.out.c2; have hu0 := (HI.out.us.row.cell 0).trans (show _ = some (.slice Ac kc cc) from rfl); have hu1 := (HI.out.us.row.cell 1).trans (show _ = some (.slice An kn cn) from rfl); have hu2 := (HI.out.us.row.cell 2).trans (show _ = some (.slice As S.length cs) from rfl); have hu3 := (HI.out.us.row.cell 3).trans (show _ = some (.slice At T.length ct) from rfl)
                go_wp2
                go_quiet ((go_at_call 54; exact Calls.quiet_of_same (bad_same w _ g A c b _ e 0 0 false (H.out.drew _) rfl)))
                have n1_ := Aside0.mk (H.out.drew nq); have n2_ := Aside0.mk (H3.out.below (pw_below_drewN (Below.refl w12.heap.size w12) nq)); have n3_ := Aside0.mk (HI.out.below (pw_below_drewN (Below.refl w12.heap.size w12) nq)); clear H H3 HI h1 h2 hu0 hu1 hu2 hu3; have H := n1_; have H3 := n2_; have HI := n3_; clear n1_ n2_ n3_; generalize w12.drewN nq = w13 at *; have h1 := H.out.c1; have h2 := H.out.c2; have hu0 := (HI.out.us.row.cell 0).trans (show _ = some (.slice Ac kc cc) from rfl); have hu1 := (HI.out.us.row.cell 1).trans (show _ = some (.slice An kn cn) from rfl); have hu2 := (HI.out.us.row.cell 2).trans (show _ = some (.slice As S.length cs) from rfl); have hu3 := (HI.out.us.row.cell 3).trans (show _ = some (.slice At T.length ct) from rfl)
                go_wp2_with (first
                  | (go_at_call 55; refine (fail_ok w _ g A c b _ e _ _ H.out).mono ?_; rintro xx w7 ⟨rfl, hrs, hq2⟩; have n2_ := Aside0.mk (H3.out.kept (hq2.2 g3 H3.out.lt (by have := HG.out; omega))); clear H H3 h1 h2 hu0 hu1 hu2 hu3; have H := Aside0.mk hrs; have H3 := n2_; clear n2_ hrs hq2; have h3 := H.out.c3; have h4 := H.out.c4))
                have hjp := HJP.out
                subst hjp
                go_wp2_with (first
                  | (go_at_call 54; refine (bad_same w _ g A c b _ e _ _ true H.out HF.out).mono ?_; rintro xx w9 ⟨rfl, rfl⟩))
                go_still_tail 5, (by kernel_rfl)
                have HB := Aside0.mk (below_drew H.out.old)
                have n2_ := Aside0.mk (H3.out.below (below_drew (Below.refl w9.heap.size w9)))
                clear H3
                have H3 := n2_
                clear n2_
                (refine put_event rfl rfl 42 (.tmp 3) (.tmp 108) rfl (off := 0) (u := .agg #[.int .i64 (((e - l3.length : Nat) : Int)), .int .i64 (201)]) (seg := [.int .i64 (((e - l3.length : Nat) : Int)), .int .i64 (201)]) rfl rfl H3.out rfl (by kernel_rfl) (by simp) (by simp [Value.oneCell']) ?_; intro w5 hrow hgr; have n1_ := Aside0.mk (pw_below_grown HB.out (some g3) HB.out.size hgr (fun k hk => by injection hk with hk; have := HG3.out; omega)); have HX := Aside0.mk (show RowAt w5 g3 42 [.int .i64 (((e - l3.length : Nat) : Int)), .int .i64 (201)] from hrow); clear H3 HB hrow; have HB := n1_; clear n1_)
                go_wp2
                refine bodyPost_ret (results_tc rfl _ _ g3 42 #[.int .i64 (((e - l3.length : Nat) : Int)), .int .i64 (201)] (0, 0) _ rfl (by obtain ⟨cur, h1, h2⟩ := HX.out; rw [h1, ← h2]) Try.underlying42 rfl (by kernel_rfl)) rfl ?_
                rw [← HRES.out]
                exact ⟨rfl, HB.out⟩
              · rw [if_neg k3] at hres
                have HRES := Aside0.mk hres
                clear hres
                go_enter Try.func23, Try.ntmps23
                go_wp2_with (first
                  | ((with_reducible refine gate_dst (N := 3) rfl ?_); refine box_event (N := 3) rfl rfl (cs := #[.int .i64 0, .int .i64 0]) (t := 42) ?hr2 ?_; (case hr2 => first | (go_simp; done) | (go_simp; rfl)); intro g3 hg3 w1 hbox hb1; have HB := Aside0.mk hb1; have H3 := Aside0.mk (show RowAt w1 g3 42 [.int .i64 0, .int .i64 0] from ⟨_, hbox, rfl⟩); have HG3 := Aside0.mk (show w.heap.size ≤ g3 by omega); clear hbox hb1 hg3)
                  | (go_at_call 50; refine (framed_calls _ A c b (Kd.C_below HR.out HB.out) HC.out HL.out HY.out _ HFR.out).mono ?_; rintro xx w2 ⟨rfl, hb⟩; have n1_ := Aside0.mk (below_step HB.out hb); have n2_ := Aside0.mk (H3.out.below hb); clear HB H3 hb; have HB := n1_; have H3 := n2_; clear n1_ n2_)
                  | ((with_reducible refine gate_dst (N := 4) rfl ?_); refine box_event (N := 4) rfl rfl (cs := #[.int .i64 0, .int .i64 0]) (t := 42) ?hr2 ?_; (case hr2 => first | (go_simp; done) | (go_simp; rfl)); intro g4 hg4 w1 hbox hb1; have HG4 := Aside0.mk (show w.heap.size ≤ g4 ∧ g3 < g4 by have := HB.out.size; have := H3.out.lt; omega); have n1_ := Aside0.mk (below_step HB.out hb1); have H4 := Aside0.mk (show RowAt w1 g4 42 [.int .i64 0, .int .i64 0] from ⟨_, hbox, rfl⟩); have n2_ := Aside0.mk (H3.out.below hb1); clear HB H3 hbox hb1 hg4; have HB := n1_; have H3 := n2_; clear n1_ n2_)
                  | ((with_reducible refine gate_store (t := 42) (p := 4) rfl ?_); refine put_event rfl rfl 42 (.tmp 4) (.tmp 11) rfl (off := 0) (u := .agg #[.int .i64 fr.1, .int .i64 fr.2]) (seg := [.int .i64 fr.1, .int .i64 fr.2]) rfl rfl H4.out rfl (by kernel_rfl) (by simp) (by simp [Value.oneCell']) ?_; intro w5 hrow hgr; have n1_ := Aside0.mk (pw_below_grown HB.out (some g4) HB.out.size hgr (fun k hk => by injection hk with hk; have := HG4.out; omega)); have n2_ := Aside0.mk (H3.out.grown hgr (by have := HG4.out; simp; omega)); have hf0 := (show RowAt w5 g4 42 [.int .i64 fr.1, .int .i64 fr.2] from hrow).cell 0; have hf1 := (show RowAt w5 g4 42 [.int .i64 fr.1, .int .i64 fr.2] from hrow).cell 1; simp only [List.getElem?_cons_zero, List.getElem?_cons_succ] at hf0 hf1; clear H3 H4 HB hrow hgr; have HB := n1_; have H3 := n2_; clear n1_ n2_)
                  | ((with_reducible refine gate_dst (N := 21) rfl ?_); refine box_event (N := 21) rfl rfl (cs := rcells A c b (5 : Nat) e 0 0) (t := 99) ?hr2 ?_; (case hr2 => first | (go_simp; done) | (go_simp; rfl)); intro g hg w1 hbox hb1; have HG := Aside0.mk (show w.heap.size ≤ g ∧ g3 < g by have := HB.out.size; have := H3.out.lt; omega); have n1_ := Aside0.mk (RS.start HR.out HC.out HL.out HB.out (below_step HB.out hb1) hg hbox HE.out); have n2_ := Aside0.mk (H3.out.below hb1); clear HB H3 hbox hb1 hg; have H := n1_; have H3 := n2_; clear n1_ n2_)
                  | ((with_reducible refine gate_dst (N := 23) rfl ?_); refine box_event (N := 23) rfl rfl (cs := #[.slice none 0 0, .slice none 0 0, .slice none 0 0, .slice none 0 0]) (t := 103) ?hr2 ?_; (case hr2 => first | (go_simp; done) | (go_simp; rfl)); intro gu hgu w1 hbox hb1; have HGU := Aside0.mk (show g < gu by have := H.out.lt; omega); have n1_ := Aside0.mk (H.out.below hb1); have n2_ := Aside0.mk (H3.out.below hb1); have HU := Aside0.mk (show RowAt w1 gu 103 [.slice none 0 0, .slice none 0 0, .slice none 0 0, .slice none 0 0] from ⟨_, hbox, rfl⟩); clear H H3 hbox hb1 hgu; have H := n1_; have H3 := n2_; clear n1_ n2_; have h1 := H.out.c1)
                  | (go_at_call 51; refine (classes_ok w _ g A c b 5 e H.out HY.out _ HTC.out).mono ?_; rintro xx w3 ⟨vs, rfl, hq1, hq2, hq3, _⟩; obtain ⟨jc, hrs, hl1⟩ := hq1; obtain ⟨As, cs, rfl⟩ := own_len (hq3 S l1 rfl); have HS := Aside0.mk (own_less (hq3 S l1 rfl) (show gu + 1 ≤ _ from HU.out.lt)); have HTN2 := Aside0.mk (tableN_at hrs hl1 HTN.out); have HJC := Aside0.mk (at_len hrs hl1); clear h1; have n1_ := Aside0.mk (HU.out.kept (hq2.2 gu HU.out.lt (by have := HGU.out; omega))); have n2_ := Aside0.mk (H3.out.kept (hq2.2 g3 H3.out.lt (by have := HG.out; omega))); clear H HU H3; have HU := n1_; have H3 := n2_; clear n1_ n2_; have H := Aside0.mk hrs; clear hrs hq2 hq3 hl1; have h1 := H.out.c1)
                  | (((with_reducible refine gate_store (t := 85) (p := 32) rfl ?_); refine put_event rfl rfl 85 (.tmp 32) (.tmp 30) rfl (off := 2) (u := .slice As S.length cs) (seg := [.slice As S.length cs]) rfl rfl HU.out rfl (by kernel_rfl) (by simp) (by simp [Value.oneCell']) ?_; intro w4 hrow hgr; have n1_ := Aside0.mk (H.out.grown hgr (by have := HGU.out; omega) (by have := HGU.out; have := HG.out; omega)); have n2_ := Aside0.mk (H3.out.grown hgr (by have := HGU.out; have := HG.out; simp; omega)); have n4_ := Aside0.mk (show RowAt w4 gu 103 [.slice none 0 0, .slice none 0 0, .slice As S.length cs, .slice none 0 0] from hrow); clear H H3 HU hrow h1; have H := n1_; have H3 := n2_; have HU := n4_; clear n1_ n2_ n4_; have h1 := H.out.c1); have n1_ := Aside0.mk (own_kept HS.out (fun k hk => hgr.block k (own_lt HS.out k hk) (by have := own_base HS.out k hk; simp; omega))); clear HS; have HS := n1_; clear n1_; clear hgr)
                  | (go_at_call 52; refine (names_ok w _ g A c b jc e H.out HY.out _ HTN2.out).mono ?_; rintro xx w3 ⟨vt, rfl, hq1, hq2, hq3, _⟩; obtain ⟨jn, hrs, hl2⟩ := hq1; obtain ⟨At, ct, rfl⟩ := own_len (hq3 T l2 rfl); have HT := Aside0.mk (own_less (hq3 T l2 rfl) (show gu + 1 ≤ _ from HU.out.lt)); have n3_ := Aside0.mk (own_kept HS.out (fun k hk => hq2.2 k (own_lt HS.out k hk) (by have := own_base HS.out k hk; have := HGU.out; omega))); clear HS; have HS := n3_; clear n3_; have HPR2 := Aside0.mk (program_at hl2 HPR.out); clear h1; have n1_ := Aside0.mk (HU.out.kept (hq2.2 gu HU.out.lt (by have := HGU.out; omega))); have n2_ := Aside0.mk (H3.out.kept (hq2.2 g3 H3.out.lt (by have := HG.out; omega))); clear H HU H3; have HU := n1_; have H3 := n2_; clear n1_ n2_; have H := Aside0.mk hrs; clear hrs hq2 hq3 hl2; have h1 := H.out.c1)
                  | (((with_reducible refine gate_store (t := 86) (p := 41) rfl ?_); refine put_event rfl rfl 86 (.tmp 41) (.tmp 39) rfl (off := 3) (u := .slice At T.length ct) (seg := [.slice At T.length ct]) rfl rfl HU.out rfl (by kernel_rfl) (by simp) (by simp [Value.oneCell']) ?_; intro w4 hrow hgr; have n1_ := Aside0.mk (H.out.grown hgr (by have := HGU.out; omega) (by have := HGU.out; have := HG.out; omega)); have n2_ := Aside0.mk (H3.out.grown hgr (by have := HGU.out; have := HG.out; simp; omega)); have n4_ := Aside0.mk (show RowAt w4 gu 103 [.slice none 0 0, .slice none 0 0, .slice As S.length cs, .slice At T.length ct] from hrow); clear H H3 HU hrow h1; have H := n1_; have H3 := n2_; have HU := n4_; clear n1_ n2_ n4_; have h1 := H.out.c1); have n1_ := Aside0.mk (own_kept HS.out (fun k hk => hgr.block k (own_lt HS.out k hk) (by have := own_base HS.out k hk; simp; omega))); clear HS; have HS := n1_; clear n1_; have n1_ := Aside0.mk (own_kept HT.out (fun k hk => hgr.block k (own_lt HT.out k hk) (by have := own_base HT.out k hk; simp; omega))); clear HT; have HT := n1_; clear n1_; clear hgr)
                  | (go_at_call 53; refine (program_ok w _ g A c b jn e gu _ _ S T H.out HY.out (PI.start HU.out HS.out HT.out (by have := HG.out; omega) (by have := HGU.out; omega)) HST.out _ HPR2.out).mono ?_; rintro xx w3 ⟨vp, rfl, hq1, hot, hpi⟩; obtain ⟨jp, hrs, hl3⟩ := hq1; obtain ⟨vc, vn, hpi⟩ := hpi p kc kn l3 rfl; obtain ⟨xc, hxc⟩ := hpi.us.c; obtain ⟨xn, hxn⟩ := hpi.us.n; obtain ⟨Ac, cc, rfl⟩ := own_len hxc; obtain ⟨An, cn, rfl⟩ := own_len hxn; have HWP := Aside0.mk (show g3 < _ ∧ w.heap.size ≤ _ from ⟨H3.out.lt, H.out.old.size⟩); have n2_ := Aside0.mk (H3.out.kept (hot.2 g3 H3.out.lt (by have := HG.out; omega) (by have := HG.out; have := HGU.out; omega))); clear H H3 h1; have H3 := n2_; clear n2_; have HI := Aside0.mk hpi; have HJP := Aside0.mk (at_len hrs hl3); have HL3 := Aside0.mk (show l3.length = e - jp from left_len hrs hl3); have HJE := Aside0.mk hrs.at_; have H := Aside0.mk hrs; clear hrs hot hpi hxc hxn hl3; have h1 := H.out.c1; have h2 := H.out.c2; have hu0 := (HI.out.us.row.cell 0).trans (show _ = some (.slice Ac kc cc) from rfl); have hu1 := (HI.out.us.row.cell 1).trans (show _ = some (.slice An kn cn) from rfl); have hu2 := (HI.out.us.row.cell 2).trans (show _ = some (.slice As S.length cs) from rfl); have hu3 := (HI.out.us.row.cell 3).trans (show _ = some (.slice At T.length ct) from rfl)))
                have b3 : ((jp : Int) != (e : Int)) = false := by have := HL3.out; have := HJE.out; simp; omega
                go_quiet ((go_at_call 54; exact Calls.quiet_of_same (bad_same w _ g A c b _ e 0 0 false (H.out.drew _) rfl)))
                have n1_ := Aside0.mk (H.out.drew nq); have n2_ := Aside0.mk (H3.out.below (pw_below_drewN (Below.refl w3.heap.size w3) nq)); have n3_ := Aside0.mk (HI.out.below (pw_below_drewN (Below.refl w3.heap.size w3) nq)); clear H H3 HI h1 h2 hu0 hu1 hu2 hu3; have H := n1_; have H3 := n2_; have HI := n3_; clear n1_ n2_ n3_; generalize w3.drewN nq = w6 at *; have h1 := H.out.c1; have h2 := H.out.c2; have hu0 := (HI.out.us.row.cell 0).trans (show _ = some (.slice Ac kc cc) from rfl); have hu1 := (HI.out.us.row.cell 1).trans (show _ = some (.slice An kn cn) from rfl); have hu2 := (HI.out.us.row.cell 2).trans (show _ = some (.slice As S.length cs) from rfl); have hu3 := (HI.out.us.row.cell 3).trans (show _ = some (.slice At T.length ct) from rfl)
                go_wp2
                go_quiet ((go_at_call 54; exact Calls.quiet_of_same (bad_same w _ g A c b _ e 0 0 false (H.out.drew _) rfl)))
                have n1_ := Aside0.mk (H.out.drew nq); have n2_ := Aside0.mk (H3.out.below (pw_below_drewN (Below.refl w6.heap.size w6) nq)); have n3_ := Aside0.mk (HI.out.below (pw_below_drewN (Below.refl w6.heap.size w6) nq)); clear H H3 HI h1 h2 hu0 hu1 hu2 hu3; have H := n1_; have H3 := n2_; have HI := n3_; clear n1_ n2_ n3_; generalize w6.drewN nq = w12 at *; have h1 := H.out.c1; have h2 := H.out.c2; have hu0 := (HI.out.us.row.cell 0).trans (show _ = some (.slice Ac kc cc) from rfl); have hu1 := (HI.out.us.row.cell 1).trans (show _ = some (.slice An kn cn) from rfl); have hu2 := (HI.out.us.row.cell 2).trans (show _ = some (.slice As S.length cs) from rfl); have hu3 := (HI.out.us.row.cell 3).trans (show _ = some (.slice At T.length ct) from rfl)
                go_wp2
                go_quiet ((go_at_call 54; exact Calls.quiet_of_same (bad_same w _ g A c b _ e 0 0 false (H.out.drew _) rfl)))
                have n1_ := Aside0.mk (H.out.drew nq); have n2_ := Aside0.mk (H3.out.below (pw_below_drewN (Below.refl w12.heap.size w12) nq)); have n3_ := Aside0.mk (HI.out.below (pw_below_drewN (Below.refl w12.heap.size w12) nq)); clear H H3 HI h1 h2 hu0 hu1 hu2 hu3; have H := n1_; have H3 := n2_; have HI := n3_; clear n1_ n2_ n3_; generalize w12.drewN nq = w13 at *; have h1 := H.out.c1; have h2 := H.out.c2; have hu0 := (HI.out.us.row.cell 0).trans (show _ = some (.slice Ac kc cc) from rfl); have hu1 := (HI.out.us.row.cell 1).trans (show _ = some (.slice An kn cn) from rfl); have hu2 := (HI.out.us.row.cell 2).trans (show _ = some (.slice As S.length cs) from rfl); have hu3 := (HI.out.us.row.cell 3).trans (show _ = some (.slice At T.length ct) from rfl)
                go_wp2_with (first
                  | (go_at_call 54; refine (bad_same w _ g A c b _ e 0 0 false H.out rfl).mono ?_; rintro xx w9 ⟨rfl, rfl⟩; have HB := Aside0.mk H.out.old)
                  | ((with_reducible refine gate_store (t := 42) (p := 3) rfl ?_); (refine put_event rfl rfl 42 (.tmp 3) (.tmp 110) rfl (off := 0) (u := .agg #[.int .i64 (0), .int .i64 (0)]) (seg := [.int .i64 (0), .int .i64 (0)]) rfl rfl H3.out rfl (by kernel_rfl) (by simp) (by simp [Value.oneCell']) ?_; intro w5 hrow hgr; have n1_ := Aside0.mk (pw_below_grown HB.out (some g3) HB.out.size hgr (fun k hk => by injection hk with hk; have := HG3.out; omega)); have HX := Aside0.mk (show RowAt w5 g3 42 [.int .i64 (0), .int .i64 (0)] from hrow); clear H3 HB hrow; have HB := n1_; clear n1_); have HGR := Aside0.mk hgr))
                refine bodyPost_ret (results_tc rfl _ _ g3 42 #[.int .i64 (0), .int .i64 (0)] (0, 0) _ rfl (by obtain ⟨cur, h1, h2⟩ := HX.out; rw [h1, ← h2]) Try.underlying42 rfl (by kernel_rfl)) rfl ?_
                rw [← HRES.out]
                refine ⟨⟨_, rfl, own_less (own_kept HI.out.row (fun k hk => HGR.out.block k (own_lt HI.out.row k hk) (by have := own_base HI.out.row k hk; have := HWP.out; simp; omega))) HWP.out.2⟩, HB.out⟩
end
end Go.Proofs.Ytebiogaacikphaa.Pack
end
