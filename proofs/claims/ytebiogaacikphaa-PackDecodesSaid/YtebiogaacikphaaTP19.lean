/- Parts of the proof of packForged and packDecodes and Pack and Pack and Pack: PackRefDecode. -/
import Derived.Test.YtebiogaacikphaaTP18
section
namespace Go.Proofs.Ytebiogaacikphaa.Pack
open Go.RowKit Go.Proofs.YtebiogaacikphaaW.PrintWords Go.Proofs.Ytebiogaacikphaa.PAll
set_option linter.unusedVariables false
set_option linter.unusedSimpArgs false
set_option linter.unnecessarySimpa false
theorem drop4 (b : List Int) (h : 4 ≤ b.length) : b.drop (b.length - 4) = [rd b ((b.length - 4 : Nat) : Int), rd b (((b.length - 4 : Nat) : Int) + 1), rd b (((b.length - 4 : Nat) : Int) + 2), rd b (((b.length - 4 : Nat) : Int) + 3)] := by
  have e1 : ((b.length - 4 : Nat) : Int) + 1 = ((b.length - 4 + 1 : Nat) : Int) := by omega
  have e2 : ((b.length - 4 : Nat) : Int) + 2 = ((b.length - 4 + 2 : Nat) : Int) := by omega
  have e3 : ((b.length - 4 : Nat) : Int) + 3 = ((b.length - 4 + 3 : Nat) : Int) := by omega
  rw [e1, e2, e3, rd_nat b _ (by omega), rd_nat b _ (by omega), rd_nat b _ (by omega), rd_nat b _ (by omega)]
  rw [List.drop_eq_getElem_cons (by omega), List.drop_eq_getElem_cons (by omega), List.drop_eq_getElem_cons (by omega), List.drop_eq_getElem_cons (by omega), List.drop_of_length_le (by omega)]
/-- What the rounds of Decode keep. -/
structure LI (w W : World) (g gu g3 g7 : Nat) (As At : Option Addr) (cs ct : Nat) (v : Value) (S : List Four) (T : List ByteArray) (kc kn : Nat) (acc : List Ins) : Prop where
  h3 : RowAt W g3 46 [.int .i64 0, .int .i64 0]
  tb : RowAt W g7 112 [.slice As S.length cs, .slice At T.length ct, .slice none 0 0]
  us : RowAt W gu 115 [.int .i64 kc, .int .i64 kn]
  s : W.ownsRow (g + 1) 76 4 (.slice As S.length cs) S.length (S.flatMap clsCells)
  t : W.ownsRow (g7 + 1) 9 1 (.slice At T.length ct) T.length (T.map Value.string)
  row : W.ownsRow (gu + 1) 78 7 v acc.length (acc.flatMap insCells)
  sb : ∀ k, (Value.slice As S.length cs).ownBlock = some k → k < gu
  tb_ : ∀ k, (Value.slice At T.length ct).ownBlock = some k → k < gu
  ord : (w.heap.size ≤ g3 ∧ g3 < g ∧ g < g7 ∧ g7 < gu) ∧ w.heap.size ≤ gu
  gl : g < W.heap.size
section
variable {w W W' : World} {g gu g3 g7 : Nat} {As At : Option Addr} {cs ct : Nat} {v : Value} {S : List Four} {T : List ByteArray} {kc kn : Nat} {acc : List Ins}
theorem LI.kept (h : LI w W g gu g3 g7 As At cs ct v S T kc kn acc) {kc' kn' : Nat} (hu : RowAt W' gu 115 [.int .i64 kc', .int .i64 kn']) (hs : W.heap.size ≤ W'.heap.size) (hk : ∀ q, q < W.heap.size → q ≠ g → q ≠ gu → W'.heap[q]? = W.heap[q]?) : LI w W' g gu g3 g7 As At cs ct v S T kc' kn' acc := by
  have ho := h.ord
  exact ⟨h.h3.kept (hk g3 h.h3.lt (by omega) (by omega)), h.tb.kept (hk g7 h.tb.lt (by omega) (by omega)), hu, own_kept h.s (fun k e => hk k (own_lt h.s k e) (by have := own_base h.s k e; omega) (by have := h.sb k e; omega)), own_kept h.t (fun k e => hk k (own_lt h.t k e) (by have := own_base h.t k e; omega) (by have := h.tb_ k e; omega)), own_kept h.row (fun k e => hk k (own_lt h.row k e) (by have := own_base h.row k e; omega) (by have := own_base h.row k e; omega)), h.sb, h.tb_, h.ord, Nat.lt_of_lt_of_le h.gl hs⟩
theorem LI.step (h : LI w W g gu g3 g7 As At cs ct v S T kc kn acc) (ho : Only W W' g) : LI w W' g gu g3 g7 As At cs ct v S T kc kn acc :=
  h.kept (h.us.kept (ho.2 gu h.us.lt (by have := h.ord; omega))) ho.1 (fun q h1 h2 _ => ho.2 q h1 h2)
theorem LI.ti (h : LI w W g gu g3 g7 As At cs ct v S T kc kn acc) : TI w W W g gu (.slice As S.length cs) (.slice At T.length ct) S T kc kn := by
  have ho := h.ord
  exact ⟨h.us, own_less h.s (by omega), own_less h.t (by omega), OnlyTwo.refl _ _ _, fun k e => ⟨own_lt h.s k e, by have := own_base h.s k e; omega, by have := h.sb k e; omega⟩, fun k e => ⟨own_lt h.t k e, by have := own_base h.t k e; omega, by have := h.tb_ k e; omega⟩, h.gl, h.us.lt, by omega⟩
theorem LI.after (h : LI w W g gu g3 g7 As At cs ct v S T kc kn acc) {kc' kn' : Nat} (ht : TI w W W' g gu (.slice As S.length cs) (.slice At T.length ct) S T kc' kn') : LI w W' g gu g3 g7 As At cs ct v S T kc' kn' acc :=
  h.kept ht.us ht.fr.1 (fun q h1 h2 h3 => ht.fr.2 q h1 h2 h3)
theorem LI.append (h : LI w W g gu g3 g7 As At cs ct v S T kc kn acc) {v' : Value} {y : Ins} (ho : W'.ownsRow (gu + 1) 78 7 v' (acc.length + 1) (acc.flatMap insCells ++ insCells y)) (hg : W.grownBy W' v.ownBlock) : LI w W' g gu g3 g7 As At cs ct v' S T kc kn (acc ++ [y]) := by
  have hord := h.ord
  have hb := fun k hk => own_base h.row k hk
  refine ⟨h.h3.grown hg (fun e => by have := hb _ e.symm; omega), h.tb.grown hg (fun e => by have := hb _ e.symm; omega), h.us.grown hg (fun e => by have := hb _ e.symm; omega), own_kept h.s (fun k e => hg.block k (own_lt h.s k e) (fun e2 => by have := hb _ e2.symm; have := h.sb k e; omega)), own_kept h.t (fun k e => hg.block k (own_lt h.t k e) (fun e2 => by have := hb _ e2.symm; have := h.tb_ k e; omega)), ?_, h.sb, h.tb_, h.ord, Nat.lt_of_lt_of_le h.gl hg.size⟩
  rw [List.length_append, List.flatMap_append]
  simpa using ho
end
theorem putL_le {op : Int} {i n size kc kn : Nat} {S : List Four} {T : List ByteArray} {z : Ins × Nat × Nat} (h : putL op i n size kc kn S T = some z) (h1 : kc ≤ S.length) (h2 : kn ≤ T.length) : z.2.1 ≤ S.length ∧ z.2.2 ≤ T.length := by
  unfold putL at h
  split at h
  · split at h
    · injection h with h; subst h; exact ⟨h1, h2⟩
    · cases h
  · split at h
    · split at h
      · cases hs : S[n]? with
        | none => rw [hs] at h; cases h
        | some y =>
          rw [hs] at h
          injection h with h
          subst h
          have := (List.getElem?_eq_some_iff.1 hs).1
          exact ⟨by show max kc (n + 1) ≤ _; omega, h2⟩
      · cases h
    · split at h
      · split at h
        · cases hs : T[n]? with
          | none => rw [hs] at h; cases h
          | some y =>
            rw [hs] at h
            injection h with h
            subst h
            have := (List.getElem?_eq_some_iff.1 hs).1
            exact ⟨h1, by show max kn (n + 1) ≤ _; omega⟩
        · cases h
      · split at h
        · injection h with h; subst h; exact ⟨h1, h2⟩
        · cases h
theorem instrL_le {e i size kc kn : Nat} {S : List Four} {T : List ByteArray} {l : List Int} {z : Ins × Nat × Nat} {r : List Int} (h : instrL e i size kc kn S T l = .ok (z, r)) (h1 : kc ≤ S.length) (h2 : kn ≤ T.length) : z.2.1 ≤ S.length ∧ z.2.2 ≤ T.length := by
  cases l with
  | nil => cases h
  | cons x l =>
    rw [instrL] at h
    split at h
    · cases h
    · split at h
      · cases h
      · rename_i z' hp
        injection h with h
        injection h with h h3
        subst h
        exact putL_le hp h1 h2
theorem st_len {b : List Int} {e : Nat} (hby : ∀ x ∈ b, 0 ≤ x ∧ x < 256) {S : List Four} {T : List ByteArray} {l1 l2 : List Int} (hc : tableC e ((b.take e).drop 5) = .ok (S, l1)) (hn : tableN e l1 = .ok (T, l2)) : S.length ≤ 65536 ∧ T.length ≤ 65536 :=
  ⟨tableC_len (fun x hx => hby x (List.mem_of_mem_take (List.mem_of_mem_drop hx))) hc, tableN_len (fun x hx => hby x (List.mem_of_mem_take (List.mem_of_mem_drop ((tableC_suffix hc).subset hx)))) hn⟩
theorem RR.start {w W W' : World} {g : Nat} {ad : Addr} {c : Nat} {b : List Int} {e : Nat} (hr : Kd.C (Kd.int .u8) w (some ad) b.length b) (hl : b.length ≤ 140737488351232) (hb0 : Below w.heap.size w W) (hb : Below w.heap.size w W') (hg : g = W.heap.size) (hbox : W'.heap[g]? = some (.cells #[.slice (some ad) b.length c, .int .i64 5, .int .i64 e, .int .i64 0, .int .i64 0] 110 (0, 0))) (he : 5 ≤ e ∧ e ≤ b.length) : RR w W' g b 5 e 0 0 :=
  ⟨⟨some ad, c, hbox, by have := hb0.size; omega, hr⟩, hb, by omega, he.2, he.1⟩
theorem rleft_len {w W : World} {g : Nat} {b : List Int} {i e : Nat} {fa fc : Int} {l : List Int} (h : RR w W g b i e fa fc) (hl : l = (b.take e).drop i) : l.length = e - i := by
  have h1 := h.e_
  rw [hl, List.length_drop, List.length_take]
  omega
theorem leN_iff (s x0 x1 x2 x3 : Int) (hs : 0 ≤ s ∧ s < 4294967296) (h0 : 0 ≤ x0 ∧ x0 < 256) (h1 : 0 ≤ x1 ∧ x1 < 256) (h2 : 0 ≤ x2 ∧ x2 < 256) (h3 : 0 ≤ x3 ∧ x3 < 256) : leN 4 s = [x0, x1, x2, x3] ↔ s = x0 + x1 * 256 + x2 * 65536 + x3 * 16777216 := by
  simp only [leN, List.cons.injEq, and_true]
  omega
theorem bits_le (x0 x1 x2 x3 : Int) (h0 : 0 ≤ x0 ∧ x0 < 256) (h1 : 0 ≤ x1 ∧ x1 < 256) (h2 : 0 ≤ x2 ∧ x2 < 256) (h3 : 0 ≤ x3 ∧ x3 < 256) : Go.bits .or .u32 (Go.bits .or .u32 (Go.bits .or .u32 x0 (x1 * 256)) (x2 * 65536)) (x3 * 16777216) = x0 + x1 * 256 + x2 * 65536 + x3 * 16777216 := by
  obtain ⟨y0, rfl⟩ := Int.eq_ofNat_of_zero_le h0.1
  obtain ⟨y1, rfl⟩ := Int.eq_ofNat_of_zero_le h1.1
  obtain ⟨y2, rfl⟩ := Int.eq_ofNat_of_zero_le h2.1
  obtain ⟨y3, rfl⟩ := Int.eq_ofNat_of_zero_le h3.1
  have e1 : ((y1 : Int) * 256) = ((y1 * 2 ^ 8 : Nat) : Int) := by omega
  have e2 : ((y2 : Int) * 65536) = ((y2 * 2 ^ 16 : Nat) : Int) := by omega
  have e3 : ((y3 : Int) * 16777216) = ((y3 * 2 ^ 24 : Nat) : Int) := by omega
  rw [e1, e2, e3]
  rw [Bits.bits_or .u32 rfl y0 (y1 * 2 ^ 8) (by show _ < 2 ^ 32; omega) (by show _ < 2 ^ 32; omega), Bits.or_add y0 y1 8 (by omega)]
  rw [Bits.bits_or .u32 rfl _ (y2 * 2 ^ 16) (by show _ < 2 ^ 32; omega) (by show _ < 2 ^ 32; omega), Bits.or_add _ y2 16 (by omega)]
  rw [Bits.bits_or .u32 rfl _ (y3 * 2 ^ 24) (by show _ < 2 ^ 32; omega) (by show _ < 2 ^ 32; omega), Bits.or_add _ y3 24 (by omega)]
  omega
theorem rd_byte {b : List Int} (h : ∀ x ∈ b, 0 ≤ x ∧ x < 256) (i : Int) : 0 ≤ rd b i ∧ rd b i < 256 := by
  unfold rd
  rw [List.getD_eq_getElem?_getD]
  cases hb : b[i.toNat]? with
  | none => exact ⟨by decide, by decide⟩
  | some x => exact h x (List.mem_of_getElem? hb)
theorem idx_magic (W : World) (q : Nat) (h : q < magicL.length) : (Instr.index 9 (.string ⟨#[100, 111, 119, 108, 1]⟩) (.int .i64 (q : Int))).run Try.prog W = .ok (.int .u8 magicL[q]) W := by
  have h' : q < 5 := h
  have h0 : (0 : Int) ≤ (q : Int) ∧ (q : Int) < 5 := by omega
  have hq : q = 0 ∨ q = 1 ∨ q = 2 ∨ q = 3 ∨ q = 4 := by omega
  rcases hq with rfl | rfl | rfl | rfl | rfl <;> (simp [Instr.index, go_sem, magicL]; try rfl)
/-- How far the rounds of Decode came: the reader goes on, or a fault was told. -/
def RI (w wr : World) (g : Nat) (b : List Int) (e n : Nat) (S : List Four) (T : List ByteArray) (q kc kn : Nat) (acc : List Ins) (pr : Except (Int × Int) (List Ins × Nat × Nat × List Int)) : Prop :=
  (∃ at_, RR w wr g b at_ e 0 0 ∧ kc ≤ S.length ∧ kn ≤ T.length ∧ insL e n S T (n - q) q kc kn acc ((b.take e).drop at_) = pr) ∨ (∃ f j, RR w wr g b j e f.1 f.2 ∧ f.2 ≠ 0 ∧ pr = .error f)
section
variable (w : World) (A : Option Addr) (c : Nat) (b : List Int)
set_option maxHeartbeats 400000000 in
set_option maxRecDepth 100000 in
theorem refdecode_early (hr : Kd.C (Kd.int .u8) w A b.length b) (hc : b.length ≤ c) (hl : b.length ≤ 140737488351232) (hby : ∀ x ∈ b, 0 ≤ x ∧ x < 256) (res : Except (Int × Int) (List Ins)) (hbad : (framedL b).2 ≠ 0) (hres : decodeL b = res) : Calls Try.prog 24 #[.slice A b.length c] w fun x w' => Decoded w w' x res ∧ Below w.heap.size w w' := by
  have HR := Aside0.mk hr
  have HC := Aside0.mk hc
  have HL := Aside0.mk hl
  have HY := Aside0.mk hby
  clear hr hc hby
  rw [decodeL] at hres
  generalize hf : framedL b = f at *
  rw [framedL] at hf
  by_cases big : 4194304 < b.length
  · rw [if_pos big] at hf
    subst hf
    rw [if_pos (by decide)] at hres
    have HRES := Aside0.mk hres
    have b1 : decide ((b.length : Int) > 4194304) = true := decide_eq_true (by omega)
    clear hres
    go_enter Try.func24, Try.ntmps24
    go_wp2_with (first
      | ((with_reducible refine gate_dst (N := 3) rfl ?_); refine box_event (N := 3) rfl rfl (cs := #[.int .i64 0, .int .i64 0]) (t := 46) ?hr2 ?_; (case hr2 => first | (go_simp; done) | (go_simp; rfl)); intro g3 hg3 w1 hbox hb1; have HB := Aside0.mk hb1; have H3 := Aside0.mk (show RowAt w1 g3 46 [.int .i64 0, .int .i64 0] from ⟨_, hbox, rfl⟩); have HG3 := Aside0.mk (show w.heap.size ≤ g3 by omega); clear hbox hb1 hg3)
      | ((with_reducible refine gate_store (t := 46) (p := 3) rfl ?_); (refine put_event rfl rfl 46 (.tmp 3) (.tmp 17) rfl (off := 0) (u := .agg #[.int .i64 (0), .int .i64 (1)]) (seg := [.int .i64 (0), .int .i64 (1)]) rfl rfl H3.out rfl (by kernel_rfl) (by simp) (by simp [Value.oneCell']) ?_; intro w5 hrow hgr; have n1_ := Aside0.mk (pw_below_grown HB.out (some g3) HB.out.size hgr (fun k hk => by injection hk with hk; have := HG3.out; omega)); have HX := Aside0.mk (show RowAt w5 g3 46 [.int .i64 (0), .int .i64 (1)] from hrow); clear H3 HB hrow; have HB := n1_; clear n1_); clear hgr))
    refine bodyPost_ret (results_tc rfl _ _ g3 46 #[.int .i64 (0), .int .i64 (1)] (0, 0) _ rfl (by obtain ⟨cur, h1, h2⟩ := HX.out; rw [h1, ← h2]) Try.underlying46 rfl (by kernel_rfl)) rfl ?_
    rw [← HRES.out]
    exact ⟨rfl, HB.out⟩
  · rw [if_neg big] at hf
    have b1 : decide ((b.length : Int) > 4194304) = false := decide_eq_false (by omega)
    have HF := Aside0.mk hf
    have HRES0 := Aside0.mk hres
    clear hf hres
    go_enter Try.func24, Try.ntmps24
    go_wp2_with (first
      | ((with_reducible refine gate_dst (N := 3) rfl ?_); refine box_event (N := 3) rfl rfl (cs := #[.int .i64 0, .int .i64 0]) (t := 46) ?hr2 ?_; (case hr2 => first | (go_simp; done) | (go_simp; rfl)); intro g3 hg3 w1 hbox hb1; have HB := Aside0.mk hb1; have H3 := Aside0.mk (show RowAt w1 g3 46 [.int .i64 0, .int .i64 0] from ⟨_, hbox, rfl⟩); have HG3 := Aside0.mk (show w.heap.size ≤ g3 by omega); clear hbox hb1 hg3))
    go_loopw [4] (fun v4 wr => ∃ (q : Nat), v4 = .int .i64 q ∧ q ≤ 5 ∧ q ≤ b.length ∧ Aside0 (missL 0 magicL b = missL q (magicL.drop q) (b.drop q)) ∧ Aside0 (Below w.heap.size w wr) ∧ Aside0 (RowAt wr g3 46 [.int .i64 0, .int .i64 0])) (fun v4 _ => 5 - (intOf v4).toNat)
    case atStart => exact ⟨0, rfl, by omega, by omega, ⟨rfl⟩, HB, H3⟩
    case round =>
      clear HB H3
      obtain ⟨q, rfl, hq5, hqb, HM, HB, H3⟩ := hrel
      by_cases c5 : q < 5
      · have b5 : decide ((q : Int) < 5) = true := decide_eq_true (by omega)
        by_cases cb : q < b.length
        · have b6 : decide ((q : Int) < (b.length : Int)) = true := decide_eq_true (by omega)
          have hq5' : q < magicL.length := c5
          obtain ⟨ad, rfl, hcb⟩ := Kd.at_int (Kd.C_below HR.out HB.out) (q : Int) (by omega) (by omega)
          rw [Int.toNat_natCast, rd_nat b q cb] at hcb
          have hmd := HM.out
          rw [missL_drop magicL b q q hq5' cb] at hmd
          have hidx := fun W => idx_magic W q hq5'
          generalize b[q] = x at *
          generalize magicL[q] = y at *
          clear HM
          by_cases e : x = y
          · rw [if_pos e] at hmd
            have b7 : (x != y) = false := by simp [e]
            have HM := Aside0.mk hmd
            clear hmd e
            go_wp2
            go_quiet (fail)
            have n1_ := Aside0.mk (pw_below_drewN HB.out nq)
            have n3_ := Aside0.mk (H3.out.below (pw_below_drewN (Below.refl wr.heap.size wr) nq))
            clear HB H3 hcb
            have HB := n1_
            have H3 := n3_
            clear n1_ n3_
            generalize wr.drewN nq = w8 at *
            try simp only [b7]
            go_wp2
            go_roundw
            case measure => simp [intOf]; omega
            case rel => first | exact ⟨q + 1, by go_num, by omega, by omega, HM, HB, H3⟩ | exact ⟨q + 1, by go_num, by omega, by omega, HM⟩
          · rw [if_neg e] at hmd
            have b7 : (x != y) = true := by simp [e]
            have hf := HF.out
            rw [hmd] at hf
            have hres := HRES0.out
            rw [← hf, if_pos (by simp)] at hres
            have HRES := Aside0.mk hres
            clear hmd e HF hf hres
            go_wp2
            go_quiet (fail)
            have n1_ := Aside0.mk (pw_below_drewN HB.out nq)
            have n3_ := Aside0.mk (H3.out.below (pw_below_drewN (Below.refl wr.heap.size wr) nq))
            clear HB H3 hcb
            have HB := n1_
            have H3 := n3_
            clear n1_ n3_
            generalize wr.drewN nq = w8 at *
            try simp only [b7]
            go_wp2_with (first
              | ((with_reducible refine gate_store (t := 46) (p := 3) rfl ?_); (refine put_event rfl rfl 46 (.tmp 3) (.tmp 36) rfl (off := 0) (u := .agg #[.int .i64 ((q : Int)), .int .i64 (202)]) (seg := [.int .i64 ((q : Int)), .int .i64 (202)]) rfl rfl H3.out rfl (by kernel_rfl) (by simp) (by simp [Value.oneCell']) ?_; intro w5 hrow hgr; have n1_ := Aside0.mk (pw_below_grown HB.out (some g3) HB.out.size hgr (fun k hk => by injection hk with hk; have := HG3.out; omega)); have HX := Aside0.mk (show RowAt w5 g3 46 [.int .i64 ((q : Int)), .int .i64 (202)] from hrow); clear H3 HB hrow; have HB := n1_; clear n1_); clear hgr))
            refine bodyPost_ret (results_tc rfl _ _ g3 46 #[.int .i64 ((q : Int)), .int .i64 (202)] (0, 0) _ rfl (by obtain ⟨cur, h1, h2⟩ := HX.out; rw [h1, ← h2]) Try.underlying46 rfl (by kernel_rfl)) rfl ?_
            rw [← HRES.out]
            exact ⟨rfl, HB.out⟩
        · have b6 : decide ((q : Int) < (b.length : Int)) = false := decide_eq_false (by omega)
          have b9 : decide ((b.length : Int) < 9) = true := decide_eq_true (by omega)
          have hf := HF.out
          rw [HM.out, missL_nil magicL b q q (.inr (by omega))] at hf
          dsimp only at hf
          rw [if_pos (by omega)] at hf
          have hres := HRES0.out
          rw [← hf, if_pos (by simp)] at hres
          have HRES := Aside0.mk hres
          clear hf hres
          go_wp2_with (first
            | ((with_reducible refine gate_store (t := 46) (p := 3) rfl ?_); (refine put_event rfl rfl 46 (.tmp 3) (.tmp 42) rfl (off := 0) (u := .agg #[.int .i64 ((b.length : Int)), .int .i64 (200)]) (seg := [.int .i64 ((b.length : Int)), .int .i64 (200)]) rfl rfl H3.out rfl (by kernel_rfl) (by simp) (by simp [Value.oneCell']) ?_; intro w5 hrow hgr; have n1_ := Aside0.mk (pw_below_grown HB.out (some g3) HB.out.size hgr (fun k hk => by injection hk with hk; have := HG3.out; omega)); have HX := Aside0.mk (show RowAt w5 g3 46 [.int .i64 ((b.length : Int)), .int .i64 (200)] from hrow); clear H3 HB hrow; have HB := n1_; clear n1_); clear hgr))
          refine bodyPost_ret (results_tc rfl _ _ g3 46 #[.int .i64 ((b.length : Int)), .int .i64 (200)] (0, 0) _ rfl (by obtain ⟨cur, h1, h2⟩ := HX.out; rw [h1, ← h2]) Try.underlying46 rfl (by kernel_rfl)) rfl ?_
          rw [← HRES.out]
          exact ⟨rfl, HB.out⟩
      · have b5 : decide ((q : Int) < 5) = false := decide_eq_false (by omega)
        have hf := HF.out
        rw [HM.out, missL_nil magicL b q q (.inl (by show 5 ≤ q; omega))] at hf
        dsimp only at hf
        by_cases c9 : b.length < 9
        · have b9 : decide ((b.length : Int) < 9) = true := decide_eq_true (by omega)
          rw [if_pos c9] at hf
          have hres := HRES0.out
          rw [← hf, if_pos (by simp)] at hres
          have HRES := Aside0.mk hres
          clear hf hres
          go_wp2_with (first
            | ((with_reducible refine gate_store (t := 46) (p := 3) rfl ?_); (refine put_event rfl rfl 46 (.tmp 3) (.tmp 42) rfl (off := 0) (u := .agg #[.int .i64 ((b.length : Int)), .int .i64 (200)]) (seg := [.int .i64 ((b.length : Int)), .int .i64 (200)]) rfl rfl H3.out rfl (by kernel_rfl) (by simp) (by simp [Value.oneCell']) ?_; intro w5 hrow hgr; have n1_ := Aside0.mk (pw_below_grown HB.out (some g3) HB.out.size hgr (fun k hk => by injection hk with hk; have := HG3.out; omega)); have HX := Aside0.mk (show RowAt w5 g3 46 [.int .i64 ((b.length : Int)), .int .i64 (200)] from hrow); clear H3 HB hrow; have HB := n1_; clear n1_); clear hgr))
          refine bodyPost_ret (results_tc rfl _ _ g3 46 #[.int .i64 ((b.length : Int)), .int .i64 (200)] (0, 0) _ rfl (by obtain ⟨cur, h1, h2⟩ := HX.out; rw [h1, ← h2]) Try.underlying46 rfl (by kernel_rfl)) rfl ?_
          rw [← HRES.out]
          exact ⟨rfl, HB.out⟩
        · have b9 : decide ((b.length : Int) < 9) = false := decide_eq_false (by omega)
          rw [if_neg c9] at hf
          have hw4 : IntKind.i64.wrap ((b.length : Int) - 4) = ((b.length - 4 : Nat) : Int) := by rw [IntWalk.i64_in _ (by omega)]; omega
          have HF2 := Aside0.mk hf
          clear hf HF HM
          have hle : (b.take (b.length - 4)).length = b.length - 4 := by rw [List.length_take]; omega
          have hsz : (Try.prog.info? 5).map (fun i => i.size) = some 1 := by kernel_rfl
          obtain ⟨i5, hi5, hs5⟩ := Option.map_eq_some_iff.1 hsz
          have hto := cut_to (P := Try.prog) 37 5 .i64 Try.underlying37 hi5 A b.length c ((b.length - 4 : Nat) : Int) (by omega) (by omega) HC.out
          rw [Int.toNat_natCast] at hto
          have htake := fun W (h : Kd.C (Kd.int .u8) W A b.length b) => Kd.C_take (m := b.length - 4) h (by omega)
          have hsum := fun W h => refsum_lit A c (b.take (b.length - 4)) W h (by have := HC.out; omega) (by omega)
          rw [hle] at htake hsum
          have hd4 : b.drop (b.length - 4) = [rd b ((b.length - 4 : Nat) : Int), rd b (((b.length - 4 : Nat) : Int) + 1), rd b (((b.length - 4 : Nat) : Int) + 2), rd b (((b.length - 4 : Nat) : Int) + 3)] := drop4 b (by omega)
          have hcr := crc_range (b.take (b.length - 4))
          have he4 : b.length - 4 + 4 = b.length := by omega
          generalize crcL (b.take (b.length - 4)) = s at *
          rw [hd4] at HF2
          have hx0 := rd_byte HY.out ((b.length - 4 : Nat) : Int)
          have hx1 := rd_byte HY.out (((b.length - 4 : Nat) : Int) + 1)
          have hx2 := rd_byte HY.out (((b.length - 4 : Nat) : Int) + 2)
          have hx3 := rd_byte HY.out (((b.length - 4 : Nat) : Int) + 3)
          clear hd4
          generalize hE : b.length - 4 = e at *
          obtain ⟨ad, had, y0⟩ := Kd.at_int (Kd.C_below HR.out HB.out) (e : Int) (by omega) (by omega)
          obtain ⟨ad1, had1, y1⟩ := Kd.at_int (Kd.C_below HR.out HB.out) ((e : Int) + 1) (by omega) (by omega)
          obtain ⟨ad2, had2, y2⟩ := Kd.at_int (Kd.C_below HR.out HB.out) ((e : Int) + 2) (by omega) (by omega)
          obtain ⟨ad3, had3, y3⟩ := Kd.at_int (Kd.C_below HR.out HB.out) ((e : Int) + 3) (by omega) (by omega)
          rw [had] at had1 had2 had3
          cases had1
          cases had2
          cases had3
          subst had
          generalize rd b (e : Int) = x0 at *
          generalize rd b ((e : Int) + 1) = x1 at *
          generalize rd b ((e : Int) + 2) = x2 at *
          generalize rd b ((e : Int) + 3) = x3 at *
          have y0' : wr.cell? (ad.add e) = some (.int .u8 x0) := by rw [Int.toNat_natCast] at y0; exact y0
          have y1' : wr.cell? ⟨ad.block, ad.off + (e + 1), none⟩ = some (.int .u8 x1) := by rw [show ((e : Int) + 1).toNat = e + 1 by omega, Addr.add, if_neg (by omega)] at y1; exact y1
          have y2' : wr.cell? ⟨ad.block, ad.off + (e + 2), none⟩ = some (.int .u8 x2) := by rw [show ((e : Int) + 2).toNat = e + 2 by omega, Addr.add, if_neg (by omega)] at y2; exact y2
          have y3' : wr.cell? ⟨ad.block, ad.off + (e + 3), none⟩ = some (.int .u8 x3) := by rw [show ((e : Int) + 3).toNat = e + 3 by omega, Addr.add, if_neg (by omega)] at y3; exact y3
          have hb0 : (e : Int) < (b.length : Int) := by omega
          have hb1 : (e : Int) + 1 < (b.length : Int) := by omega
          have hb2 : (e : Int) + 2 < (b.length : Int) := by omega
          have hb3 : (e : Int) + 3 < (b.length : Int) := by omega
          have hc0 : (0 : Int) ≤ (e : Int) := by omega
          have hc1 : (0 : Int) ≤ (e : Int) + 1 := by omega
          have hc2 : (0 : Int) ≤ (e : Int) + 2 := by omega
          have hc3 : (0 : Int) ≤ (e : Int) + 3 := by omega
          have hw1 : IntKind.i64.wrap ((e : Int) + 1) = (e : Int) + 1 := IntWalk.i64_in _ (by omega)
          have hw2 : IntKind.i64.wrap ((e : Int) + 2) = (e : Int) + 2 := IntWalk.i64_in _ (by omega)
          have hw3 : IntKind.i64.wrap ((e : Int) + 3) = (e : Int) + 3 := IntWalk.i64_in _ (by omega)
          have HTO := Aside0.mk hto
          have HTAKE := Aside0.mk htake
          have HSUM := Aside0.mk hsum
          clear htake hsum hE
          go_wp2
          go_quiet ((go_at_call 29; exact Calls.quiet_of ((HSUM.out _ (HTAKE.out _ (Kd.C_below HR.out (pw_below_drewN HB.out _)))).mono (fun _ _ h => ⟨h.1, h.2.out⟩))))
          have HB8 := Aside0.mk (pw_below_drewN HB.out nq)
          have H38 := Aside0.mk (H3.out.below (pw_below_drewN (Below.refl wr.heap.size wr) nq))
          clear HB H3 y0 y1 y2 y3 y0' y1' y2' y3' hb0 hb1 hb2 hb3 hc0 hc1 hc2 hc3 hw1 hw2 hw3
          have HB := HB8
          have H3 := H38
          clear HB8 H38
          generalize wr.drewN nq = w8 at *
          have hbits := bits_le x0 x1 x2 x3 hx0 hx1 hx2 hx3
          by_cases he : leN 4 s = [x0, x1, x2, x3]
          · have hf := HF2.out
            rw [if_pos he] at hf
            exact absurd (congrArg Prod.snd hf).symm hbad
          · have b10 : (s != Go.bits .or .u32 (Go.bits .or .u32 (Go.bits .or .u32 x0 (x1 * 256)) (x2 * 65536)) (x3 * 16777216)) = true := by
              rw [hbits]
              have := fun h => he ((leN_iff s x0 x1 x2 x3 hcr hx0 hx1 hx2 hx3).2 h)
              simpa using this
            have hf := HF2.out
            rw [if_neg he] at hf
            have hres := HRES0.out
            rw [← hf, if_pos (by simp)] at hres
            have HRES := Aside0.mk hres
            simp only [b10]
            clear hbits b10 hx0 hx1 hx2 hx3 hcr he hf hres HF2 HSUM HTAKE HTO HRES0 hto hle
            go_wp2_with (first
              | ((with_reducible refine gate_store (t := 46) (p := 3) rfl ?_); (refine put_event rfl rfl 46 (.tmp 3) (.tmp 81) rfl (off := 0) (u := .agg #[.int .i64 ((e : Int)), .int .i64 (203)]) (seg := [.int .i64 ((e : Int)), .int .i64 (203)]) rfl rfl H3.out rfl (by kernel_rfl) (by simp) (by simp [Value.oneCell']) ?_; intro w5 hrow hgr; have n1_ := Aside0.mk (pw_below_grown HB.out (some g3) HB.out.size hgr (fun k hk => by injection hk with hk; have := HG3.out; omega)); have HX := Aside0.mk (show RowAt w5 g3 46 [.int .i64 ((e : Int)), .int .i64 (203)] from hrow); clear H3 HB hrow; have HB := n1_; clear n1_); clear hgr))
            refine bodyPost_ret (results_tc rfl _ _ g3 46 #[.int .i64 ((e : Int)), .int .i64 (203)] (0, 0) _ rfl (by obtain ⟨cur, h1, h2⟩ := HX.out; rw [h1, ← h2]) Try.underlying46 rfl (by kernel_rfl)) rfl ?_
            rw [← HRES.out]
            exact ⟨rfl, HB.out⟩
end
end Go.Proofs.Ytebiogaacikphaa.Pack
end
