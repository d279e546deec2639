/- Parts of the proof of packForged and packDecodes and Pack and Pack and Pack: PackRefDecoded, PackDecoded, PackLend, PackInss, Open, PackOpen. -/
import Derived.ChangeSlices
import Derived.IntWalk
import Derived.KernelRfl
import Derived.Outline
import Derived.SizedLaws
import Derived.WalkKit
import Derived.Test.YtebiogaacikphaaTP0
import Derived.Test.YtebiogaacikphaaTP1
import Derived.Test.YtebiogaacikphaaTP2
import Derived.Test.YtebiogaacikphaaTP8
import Derived.Test.YtebiogaacikphaaTP11
import Derived.Test.YtebiogaacikphaaTP12
import Derived.Test.YtebiogaacikphaaTP17
import Derived.Test.YtebiogaacikphaaTP20
import Derived.Test.YtebiogaacikphaaTP21
import Derived.Test.YtebiogaacikphaaTP22
section
namespace Go.Proofs.Ytebiogaacikphaa.Pack
open Go.RowKit Go.Proofs.YtebiogaacikphaaW.PrintWords Go.Proofs.Ytebiogaacikphaa.PAll
set_option linter.unusedVariables false
set_option linter.unusedSimpArgs false
set_option linter.unnecessarySimpa false
theorem framedL_ok {b : List Int} (h : (framedL b).2 = 0) : framedL b = (0, 0) := by
  revert h
  rw [framedL]
  split
  · intro h; simp at h
  · split
    · intro h; simp at h
    · split
      · intro h; simp at h
      · split
        · intro _; rfl
        · intro h; simp at h
section
variable (w : World) (A : Option Addr) (c : Nat) (b : List Int)
theorem refdecode_calls (hr : Kd.C (Kd.int .u8) w A b.length b) (hc : b.length ≤ c) (hl : b.length ≤ 140737488351232) (hby : ∀ x ∈ b, 0 ≤ x ∧ x < 256) (res : Except (Int × Int) (List Ins)) (hres : decodeL b = res) :
    Calls Try.prog 24 #[.slice A b.length c] w fun x w' => Decoded w w' x res ∧ Below w.heap.size w w' := by
  by_cases hbad : (framedL b).2 ≠ 0
  · exact refdecode_early w A c b hr hc hl hby res hbad hres
  · have hf : framedL b = (0, 0) := framedL_ok (by omega)
    rw [decodeL, if_neg hbad] at hres
    by_cases hok : ∃ S l1 T l2, tableC (b.length - 4) ((b.take (b.length - 4)).drop 5) = .ok (S, l1) ∧ tableN (b.length - 4) l1 = .ok (T, l2)
    · by_cases hg : ∃ S l1 T l2 n r3, tableC (b.length - 4) ((b.take (b.length - 4)).drop 5) = .ok (S, l1) ∧ tableN (b.length - 4) l1 = .ok (T, l2) ∧ cntL (b.length - 4) (b.length - 4 - l2.length) 0 0 l2 = .ok (((n : Nat) : Int), r3) ∧ ¬ 65536 < (n : Int) ∧ (n : Int) ≠ 0
      · exact refdecode_rounds w A c b hr hc hl hby res hf hres hg
      · exact refdecode_counts w A c b hr hc hl hby res hf hres hok (fun S l1 T l2 n r3 h1 h2 h3 h4 h5 => hg ⟨S, l1, T, l2, n, r3, h1, h2, h3, h4, h5⟩)
    · exact refdecode_tables w A c b hr hc hl hby res hf hres (fun S l1 T l2 h1 h2 => hok ⟨S, l1, T, l2, h1, h2⟩)
end
end Go.Proofs.Ytebiogaacikphaa.Pack
end
section
namespace Go.Proofs.Ytebiogaacikphaa.Pack
open Go.RowKit Go.Proofs.YtebiogaacikphaaW.PrintWords Go.Proofs.Ytebiogaacikphaa.PAll
set_option linter.unusedVariables false
set_option linter.unusedSimpArgs false
theorem namesL_suffix (e : Nat) : ∀ (n : Nat) (acc : List ByteArray) (l : List Int) (S : List ByteArray) (r : List Int), namesL e n acc l = .ok (S, r) → r <:+ l
  | 0, acc, l, S, r, h => by rw [namesL] at h; injection h with h; injection h with h1 h2; exact h2 ▸ List.suffix_refl _
  | n + 1, acc, l, S, r, h => by
    rw [namesL] at h
    split at h
    · cases h
    · rename_i size q hc
      by_cases h1 : size = 0 ∨ 64 < size
      · rw [if_pos h1] at h; cases h
      · rw [if_neg h1] at h
        by_cases h2 : q.length < size.toNat
        · rw [if_pos h2] at h; cases h
        · rw [if_neg h2] at h
          by_cases h3 : okName (strOfNums (q.take size.toNat)) = false ∨ among (strOfNums (q.take size.toNat)) acc = true
          · rw [if_pos h3] at h; cases h
          · rw [if_neg h3] at h
            exact ((namesL_suffix e n _ _ S r h).trans (List.drop_suffix _ _)).trans (cntL_suffix e _ _ _ _ _ _ hc)
theorem tableN_suffix {e : Nat} {l : List Int} {S : List ByteArray} {r : List Int} (h : tableN e l = .ok (S, r)) : r <:+ l := by
  unfold tableN at h
  cases hm : manyL e (e - l.length) l with
  | error f => rw [hm] at h; cases h
  | ok p =>
    obtain ⟨n, q⟩ := p
    rw [hm] at h
    exact (namesL_suffix e _ _ _ _ _ h).trans (manyL_suffix hm)
theorem insL_len (e size : Nat) (S : List Four) (T : List ByteArray) : ∀ (d i kc kn : Nat) (acc : List Ins) (l : List Int) (p : List Ins) (kc' kn' : Nat) (r : List Int), insL e size S T d i kc kn acc l = .ok (p, kc', kn', r) → p.length = acc.length + d
  | 0, i, kc, kn, acc, l, p, kc', kn', r, h => by rw [insL] at h; injection h with h; injection h with h1 h2; rw [← h1]; rfl
  | d + 1, i, kc, kn, acc, [], p, kc', kn', r, h => by rw [insL] at h; cases h
  | d + 1, i, kc, kn, acc, x :: l, p, kc', kn', r, h => by
    rw [insL] at h
    split at h
    · cases h
    · split at h
      · cases h
      · rw [insL_len e size S T d _ _ _ _ _ p kc' kn' r h, List.length_append, List.length_singleton]
        omega
theorem insideL_len {e : Nat} {l : List Int} (hb : ∀ x ∈ l, 0 ≤ x ∧ x < 256) {p : List Ins} (h : insideL e l = .ok p) : p.length ≤ 65536 := by
  rw [insideL] at h
  cases hc : tableC e l with
  | error f => rw [hc] at h; cases h
  | ok z =>
    obtain ⟨S, l1⟩ := z
    rw [hc] at h
    dsimp only at h
    cases hn : tableN e l1 with
    | error f => rw [hn] at h; cases h
    | ok z =>
      obtain ⟨T, l2⟩ := z
      rw [hn] at h
      dsimp only at h
      cases hp : programL e S T l2 with
      | error f => rw [hp] at h; cases h
      | ok z =>
        obtain ⟨q, kc, kn, l3⟩ := z
        rw [hp] at h
        dsimp only at h
        have hq : q = p := by
          by_cases h1 : kc < S.length
          · rw [if_pos h1] at h; cases h
          · rw [if_neg h1] at h
            by_cases h2 : kn < T.length
            · rw [if_pos h2] at h; cases h
            · rw [if_neg h2] at h
              by_cases h3 : l3.length ≠ 0
              · rw [if_pos h3] at h; cases h
              · rw [if_neg h3] at h; injection h
        subst hq
        rw [programL] at hp
        cases hm : manyL e (e - l2.length) l2 with
        | error f => rw [hm] at hp; cases hp
        | ok z =>
          obtain ⟨n, r⟩ := z
          rw [hm] at hp
          dsimp only at hp
          have hr := manyL_range (fun x hx => hb x ((tableC_suffix hc).subset ((tableN_suffix hn).subset hx))) hm
          by_cases h1 : n = 0
          · rw [if_pos h1] at hp; cases hp
          · rw [if_neg h1] at hp
            have := insL_len e _ S T _ _ _ _ _ _ _ _ _ _ hp
            simp at this
            omega
theorem decodeL_len {b : List Int} (hb : ∀ x ∈ b, 0 ≤ x ∧ x < 256) {p : List Ins} (h : decodeL b = .ok p) : p.length ≤ 65536 := by
  rw [decodeL] at h
  by_cases h1 : (framedL b).2 ≠ 0
  · rw [if_pos h1] at h; cases h
  · rw [if_neg h1] at h
    exact insideL_len (fun x hx => hb x (List.mem_of_mem_take (List.mem_of_mem_drop hx))) h
/-- The fault and the program of an answer. -/
def faultOf : Except (Int × Int) (List Ins) → Int × Int
  | .error f => f
  | .ok _ => (0, 0)
def insOf : Except (Int × Int) (List Ins) → List Ins
  | .error _ => []
  | .ok p => p
theorem insOf_len {b : List Int} (hb : ∀ x ∈ b, 0 ≤ x ∧ x < 256) : (insOf (decodeL b)).length ≤ 65536 := by
  cases h : decodeL b with
  | error f => exact Nat.zero_le _
  | ok p => exact decodeL_len hb h
theorem Decoded.one {w0 w : World} {x : Ending} {res : Except (Int × Int) (List Ins)} (h : Decoded w0 w x res) : ∃ v, x = .returned (.tuple #[v, .agg #[.int .i64 (faultOf res).1, .int .i64 (faultOf res).2]]) ∧ w.ownsRow w0.heap.size 78 7 v (insOf res).length ((insOf res).flatMap insCells) := by
  cases res with
  | error f => exact ⟨_, h, World.ownsRow_nil _ _ _ _⟩
  | ok p =>
    obtain ⟨v, h1, h2⟩ := h
    exact ⟨v, h1, h2⟩
end Go.Proofs.Ytebiogaacikphaa.Pack
end
section
namespace Go.Proofs.Ytebiogaacikphaa.Pack
open Go.RowKit Go.Proofs.YtebiogaacikphaaW.PrintWords Go.Proofs.Ytebiogaacikphaa.PAll
set_option linter.unusedVariables false
set_option linter.unusedSimpArgs false
/-- Bytes that were lent: in a block of their own, with two marks behind them. -/
def LentB (w w' : World) (b : List Int) (x : Ending) : Prop :=
  ∃ g, x = .returned (.slice (some ⟨g, 0, none⟩) b.length (b.length + 2)) ∧ RowAt w' g 5 (b.map (Value.int .u8) ++ [.int .u8 171, .int .u8 172]) ∧ Below w.heap.size w w' ∧ w.heap.size ≤ g
theorem C_src {w : World} {A : Option Addr} {b : List Int} (h : Kd.C (Kd.int .u8) w A b.length b) : b.length = 0 ∨ ∃ ad, A = some ad ∧ ∀ j u, (b.map (Value.int .u8))[j]? = some u → w.cell? (ad.add j) = some u := by
  rcases Nat.eq_zero_or_pos b.length with h0 | h0
  · exact .inl h0
  · obtain ⟨_, _, hc⟩ := Kd.reads_of_C (enc := Value.int .u8) (d := (0 : Int)) (h1 := fun _ => rfl) h
    obtain ⟨ad, e, hc⟩ := hc h0
    refine .inr ⟨ad, e, fun j u hj => ?_⟩
    rw [List.getElem?_map] at hj
    obtain ⟨x, hx, rfl⟩ := Option.map_eq_some_iff.1 hj
    have hj' := (List.getElem?_eq_some_iff.1 hx).1
    rw [hc j hj', List.getD_eq_getElem?_getD, hx]
    rfl
theorem idx_own (g n j : Nat) (h : j < n) (W : World) : (Instr.indexAt 37 (.slice (some ⟨g, 0, none⟩) n n) (.int .i64 (j : Int))).run Try.prog W = .ok (.pointer (some ⟨g, j, none⟩)) W := by
  have := run_indexAt_own (P := Try.prog) (t := 37) (size := 1) Try.underlying37 (fun W => by kernel_rfl) g n n j h W
  rwa [Nat.mul_one] at this
theorem cut_len (g n : Nat) (W : World) : (Instr.slice 37 (.slice (some ⟨g, 0, none⟩) (n + 2) (n + 2)) none (some (.int .i64 (n : Int))) none).run Try.prog W = .ok (.slice (some ⟨g, 0, none⟩) n (n + 2)) W := by
  have hsz : (Try.prog.info? 5).map (fun i => i.size) = some 1 := by kernel_rfl
  obtain ⟨i5, hi5, hs5⟩ := Option.map_eq_some_iff.1 hsz
  have := cut_to (P := Try.prog) 37 5 .i64 Try.underlying37 hi5 (some ⟨g, 0, none⟩) (n + 2) (n + 2) (n : Int) (by omega) (by omega) (Nat.le_refl _) W
  rwa [Int.toNat_natCast] at this
theorem row_first (l : List Value) (n : Nat) (hn : l.length = n) (x y : Value) {v : Value} : (l ++ [x, y]).take n ++ [v] ++ (l ++ [x, y]).drop (n + [v].length) = l ++ [v, y] := by
  subst hn
  rw [List.take_left', List.drop_append]
  · simp
  · rfl
theorem row_second (l : List Value) (n : Nat) (hn : l.length = n) (x y : Value) {v : Value} : (l ++ [x, y]).take (n + 1) ++ [v] ++ (l ++ [x, y]).drop (n + 1 + [v].length) = l ++ [x, v] := by
  subst hn
  rw [List.take_append, List.drop_append]
  have e1 : l.length + 1 - l.length = 1 := by omega
  have e2 : l.length + 1 + [v].length - l.length = 2 := by simp; omega
  rw [e1, e2, List.take_of_length_le (by omega), List.drop_of_length_le (by simp; omega)]
  simp
theorem flat_one (u : Value) : ∀ n : Nat, (List.replicate n [u]).flatten = List.replicate n u
  | 0 => rfl
  | n + 1 => by rw [List.replicate_succ, List.flatten_cons, flat_one u n, List.replicate_succ]; rfl
theorem lend_row {W : World} {g : Nat} {t : TypeId} (b : List Int) (h : RowAt W g t (b.map (Value.int .u8) ++ (List.replicate (b.length + 2) (Value.int .u8 0)).drop (b.map (Value.int .u8)).length)) : RowAt W g t (b.map (Value.int .u8) ++ [.int .u8 0, .int .u8 0]) := by
  rw [List.length_map, List.drop_replicate, show b.length + 2 - b.length = 2 by omega] at h
  exact h
section
variable (w : World) (A : Option Addr) (c : Nat) (b : List Int)
set_option maxHeartbeats 2000000 in
theorem lend_calls (hr : Kd.C (Kd.int .u8) w A b.length b) (hc : b.length ≤ c) (hl : b.length ≤ 16777216) :
    Calls Try.prog 22 #[.slice A b.length c] w fun x w' => LentB w w' b x := by
  have HR := Aside0.mk hr
  have hl' := hl
  have hw1 : IntKind.i64.wrap ((b.length : Int) + 2) = ((b.length + 2 : Nat) : Int) := by rw [IntWalk.i64_in _ (by omega)]; omega
  have hw2 : IntKind.i64.wrap ((b.length : Int) + 1) = ((b.length + 1 : Nat) : Int) := by rw [IntWalk.i64_in _ (by omega)]; omega
  have HL := Aside0.mk hl
  clear hr hc
  go_enter Try.func22, Try.ntmps22
  go_wp2_with (first
    | ((with_reducible refine gate_dst (N := 7) rfl ?_); refine make_event rfl 37 (.tmp 6) (.tmp 6) rfl (b.length + 2) rfl rfl 5 (.int .u8 0) 1 1 Try.underlying37 (by kernel_rfl) rfl (by omega) (by omega) ?_; intro g hg w3 hrow hb3; have HB := Aside0.mk hb3; have HG := Aside0.mk (show w.heap.size ≤ g by omega); have HROW := Aside0.mk (show RowAt w3 g 5 (List.replicate (b.length + 2) (Value.int .u8 0)) by rw [← flat_one]; exact hrow); have hix0 := idx_own g (b.length + 2) b.length (by omega); have hix1 := idx_own g (b.length + 2) (b.length + 1) (by omega); clear hrow hb3 hg)
    | ((with_reducible refine gate_dst (N := 10) rfl ?_); refine copy_event rfl (.tmp 8) (.tmp 9) 37 37 rfl 5 1 Try.underlying37 (by kernel_rfl) (news := b.map (Value.int .u8)) rfl rfl (by omega) HROW.out (by simp) (by simp) (C_src (Kd.C_below HR.out HB.out)) (by intro q hq; obtain ⟨x, _, rfl⟩ := List.mem_map.1 hq; rfl) ?_; intro w5 hrow hgr; have n1_ := Aside0.mk (pw_below_grown HB.out (some g) HB.out.size hgr (fun k hk => by injection hk with hk; have := HG.out; omega)); have n2_ := Aside0.mk (lend_row b hrow); clear HB HROW hrow hgr; have HB := n1_; have HROW := n2_; clear n1_ n2_)
    | ((with_reducible refine gate_store (t := 5) (p := 14) rfl ?_); refine put_event rfl rfl 5 (.tmp 14) (.const (.int .u8 171)) rfl (off := b.length) (u := .int .u8 171) (seg := [.int .u8 171]) rfl rfl HROW.out rfl (by kernel_rfl) (by simp) (by simp [Value.oneCell']) ?_; intro w6 hrow hgr; have n1_ := Aside0.mk (pw_below_grown HB.out (some g) HB.out.size hgr (fun k hk => by injection hk with hk; have := HG.out; omega)); have n2_ := Aside0.mk (show RowAt w6 g 5 (b.map (Value.int .u8) ++ [.int .u8 171, .int .u8 0]) by rw [← row_first (b.map (Value.int .u8)) b.length (by simp) (.int .u8 0) (.int .u8 0)]; exact hrow); clear HB HROW hrow hgr; have HB := n1_; have HROW := n2_; clear n1_ n2_)
    | ((with_reducible refine gate_store (t := 5) (p := 19) rfl ?_); refine put_event rfl rfl 5 (.tmp 19) (.const (.int .u8 172)) rfl (off := b.length + 1) (u := .int .u8 172) (seg := [.int .u8 172]) rfl rfl HROW.out rfl (by kernel_rfl) (by simp) (by simp [Value.oneCell']) ?_; intro w6 hrow hgr; have n1_ := Aside0.mk (pw_below_grown HB.out (some g) HB.out.size hgr (fun k hk => by injection hk with hk; have := HG.out; omega)); have n2_ := Aside0.mk (show RowAt w6 g 5 (b.map (Value.int .u8) ++ [.int .u8 171, .int .u8 172]) by rw [← row_second (b.map (Value.int .u8)) b.length (by simp) (.int .u8 171) (.int .u8 0)]; exact hrow); clear HB HROW hrow hgr; have HB := n1_; have HROW := n2_; clear n1_ n2_; have hcut := cut_len g b.length))
  go_ret
  exact ⟨g, rfl, HROW.out, HB.out, HG.out⟩
end
end Go.Proofs.Ytebiogaacikphaa.Pack
end
section
namespace Go.Proofs.Ytebiogaacikphaa.Pack
open Go.RowKit Go.Proofs.YtebiogaacikphaaW.PrintWords Go.Proofs.Ytebiogaacikphaa.PAll
set_option linter.unusedVariables false
set_option linter.unusedSimpArgs false
theorem insCells_len (x : Ins) : (insCells x).length = 7 := rfl
theorem flat_get : ∀ (l : List Ins) (j : Nat) (x : Ins), l[j]? = some x → ∀ i u, (insCells x)[i]? = some u → (l.flatMap insCells)[j * 7 + i]? = some u
  | [], _, _, h, _, _, _ => by simp at h
  | y :: l, 0, x, h, i, u, hi => by
    simp only [List.getElem?_cons_zero, Option.some.injEq] at h
    subst h
    have hl := (List.getElem?_eq_some_iff.1 hi).1
    rw [List.flatMap_cons, Nat.zero_mul, Nat.zero_add, List.getElem?_append_left hl]
    exact hi
  | y :: l, j + 1, x, h, i, u, hi => by
    have ih := flat_get l j x (by simpa using h) i u hi
    rw [List.flatMap_cons, List.getElem?_append_right (by rw [insCells_len]; omega), insCells_len, show (j + 1) * 7 + i - 7 = j * 7 + i by omega]
    exact ih
theorem ins_reads {W : World} {base : Nat} {v : Value} {l : List Ins} (h : W.ownsRow base 78 7 v l.length (l.flatMap insCells)) (hl : l.length ≤ 9223372036854775807) : ∃ A c, v = .slice A l.length c ∧ l.length ≤ c ∧ Kd.C k78 W A l.length l := by
  rcases h.2 with ⟨hv, h0⟩ | ⟨g, cap, cur, hv, h1, h2, h3, h4, h5, h6⟩
  · exact ⟨none, 0, by rw [hv, h0], by omega, ⟨rfl, hl, fun hp => absurd hp (by omega)⟩⟩
  · refine ⟨some ⟨g, 0, none⟩, cap, hv, h3, ⟨rfl, hl, fun _ => ⟨_, rfl, fun j p hj => ⟨insCells p, rfl, k78_mk W p, fun i u hi => ?_⟩⟩⟩⟩
    have := h.cells (g := g) (by rw [hv]; rfl) (j * 7 + i) u (flat_get l j p hj i u hi)
    exact this
theorem inss_loop (l : List Ins) (hl : l.length ≤ 140737488351232) : ∀ d i : Nat, i + d = l.length → Ev (fun k => dowelbook_Inss.l0 k l l (i : Int)) true
  | 0, i, h => by
    refine Ev.step (fun _ => by rw [dowelbook_Inss.l0]) ?_
    exact Ev.neg (by omega) (Ev.some_ rfl)
  | d + 1, i, h => by
    have ih := inss_loop l hl d (i + 1) (by omega)
    refine Ev.step (fun _ => by rw [dowelbook_Inss.l0]) ?_
    refine Ev.pos (by omega) (Ev.pos (by omega) (Ev.pos (by omega) (Ev.neg (by simp) ?_)))
    rw [show wrap64 ((i : Int) + 1) = ((i + 1 : Nat) : Int) by rw [w64] <;> omega]
    exact ih
theorem inss_ev (l : List Ins) (hl : l.length ≤ 140737488351232) : Ev (fun k => dowelbook_Inss.f k l l) true := by
  unfold dowelbook_Inss.f
  exact Ev.pos rfl (inss_loop l hl l.length 0 (by omega))
theorem inss_lit (A : Option Addr) (c : Nat) (A2 : Option Addr) (c2 : Nat) (l : List Ins) (w : World) (h : Kd.C k78 w A l.length l) (hc : l.length ≤ c) (h2 : Kd.C k78 w A2 l.length l) (hc2 : l.length ≤ c2) (hl : l.length ≤ 140737488351232) :
    Calls Try.prog 26 #[.slice A l.length c, .slice A2 l.length c2] w fun e w' => e = .returned (.bool true) ∧ Drawn0 w w' := by
  obtain ⟨k, hk⟩ := inss_ev l hl
  exact dowelbook_Inss.calls k A c l A2 c2 l true w h hc h2 hc2 (hk k (Nat.le_refl _))
theorem same_lit (f : Int × Int) (w : World) : Calls Try.prog 25 #[.agg #[.int .i64 f.1, .int .i64 f.2], .agg #[.int .i64 f.1, .int .i64 f.2]] w fun e w' => e = .returned (.bool true) ∧ Below w.heap.size w w' :=
  dowellaw20_same.calls f.1 f.2 f.1 f.2 true w (by rw [dowellaw20_same.f, if_pos rfl]; simp)
end Go.Proofs.Ytebiogaacikphaa.Pack
end
section
namespace Go.Proofs.YtebiogaacikphaaW.PrintWords
open Go.RowKit Go.ChangeShapes Go.WideShapes
/-- What is read at type t is told by the kind d, and meets ok. -/
structure Opens (P : Program) (t : TypeId) {α : Type} (d : Kd α) (ok : α → Prop) : Prop where
  out : ∀ {H : Type} {enc : TypeId × Value → H} {w : World} {base : Nat} {sp : Nat → Bool} {held : Bool} {fuel : Nat} {cs : List Value} {x : DataW H × List MemPlace},
    DataW.trod enc P w base sp held fuel t cs = some x → (∀ n ∈ x.1.weights P t, n ≤ reachBytes) → ∃ a, d.K w a cs ∧ ok a
theorem Opens.int {P : Program} {t : TypeId} {k : IntKind} (hu : P.underlying t = some (.int k)) : Opens P t (Kd.int k) (fun n => (Lit.int k n).wf = true) :=
  ⟨fun hx _ => by
    obtain ⟨n, rfl, _, hw⟩ := DataW.trod_int hu hx
    exact ⟨n, rfl, hw⟩⟩
theorem weights_all_mem {H : Type} {P : Program} {e : TypeId} : ∀ {l : List (DataW H)} {d : DataW H}, d ∈ l → ∀ n ∈ d.weights P e, n ∈ DataW.weightsAll P e l
  | [], _, h, _, _ => by cases h
  | a :: l, d, h, n, hn => by
    simp only [DataW.weightsAll, List.mem_append]
    rcases List.mem_cons.1 h with rfl | h
    · exact .inl hn
    · exact .inr (weights_all_mem h n hn)
theorem cells?_get {w : World} {base : Nat} {a : Addr} {n : Nat} {cs : List Value} (h : w.cells? base a n = some cs) : cs.length = n ∧ ∀ i u, cs[i]? = some u → w.cell? (a.add i) = some u := by
  obtain ⟨_, hl, hc⟩ := World.cells?_some h
  refine ⟨hl, fun i u hu => ?_⟩
  have hi : i < cs.length := (List.getElem?_eq_some_iff.1 hu).1
  rw [hc i (by omega), hu]
/-- A slice of what is told by d. -/
theorem Opens.slice {P : Program} {t e : TypeId} {α : Type} {d : Kd α} {ok : α → Prop} (hu : P.underlying t = some (.slice e)) (h : Opens P e d ok) (hsz : P.cellsOf e = d.sz) {B : Nat} (hB : P.bytesOf e = B) :
    Opens P t (Kd.slice e d) (fun xs => xs.length * B ≤ 140737488351232 ∧ xs.length ≤ 9223372036854775807 ∧ ∀ x ∈ xs, ok x) :=
  ⟨fun {H enc w base sp held fuel cs x} hx hw => by
    rcases DataW.trod_slice hu hx with ⟨rfl, rfl⟩ | ⟨a, len, cap, elems, rest, n, rfl, rfl, rfl, hb, hlc, hcm, hel, hels, hsp, hns⟩
    · exact ⟨[], ⟨none, 0, rfl, Nat.le_refl _, rfl, by simp, fun h => absurd h (Nat.lt_irrefl 0)⟩, by simp⟩
    · have hwt : (elems.length + rest.length) * B ≤ reachBytes := by
        have := hw ((elems.length + rest.length) * B) (by simp [DataW.weights, hu, hB])
        exact this
      have hwe : ∀ y ∈ elems, ∀ n ∈ y.1.weights P e, n ≤ reachBytes := fun y hy n hn => hw n (by
        simp only [DataW.weights, hu, List.mem_cons, List.mem_append]
        exact .inr (.inl (weights_all_mem (List.mem_map_of_mem hy) n hn)))
      have each : ∀ i (hi : i < len), ∃ c z, w.cells? base (a.add (i * P.cellsOf e)) (P.cellsOf e) = some c ∧ d.K w z c ∧ ok z := by
        intro i hi
        have h1 := hels i hi
        rw [List.getElem?_eq_getElem (show i < elems.length by omega)] at h1
        obtain ⟨c, hc, ht⟩ := Option.bind_eq_some_iff.1 h1
        obtain ⟨z, hz, ho⟩ := h.out ht (hwe _ (List.getElem_mem _))
        exact ⟨c, z, hc, hz, ho⟩
      have pick : ∀ m, m ≤ len → ∃ zs : List α, zs.length = m ∧ ∀ i z, zs[i]? = some z → ok z ∧ ∃ c, w.cells? base (a.add (i * P.cellsOf e)) (P.cellsOf e) = some c ∧ d.K w z c := by
        intro m
        induction m with
        | zero => exact fun _ => ⟨[], rfl, fun i z hz => by simp at hz⟩
        | succ m ih =>
          intro hm
          obtain ⟨zs, hl, hz⟩ := ih (by omega)
          obtain ⟨c, z, hc, hk, ho⟩ := each m (by omega)
          refine ⟨zs ++ [z], by simp [hl], fun i y hy => ?_⟩
          rcases Nat.lt_or_ge i zs.length with hi | hi
          · rw [List.getElem?_append_left hi] at hy
            exact hz i y hy
          · have : i = zs.length := by
              have := (List.getElem?_eq_some_iff.1 hy).1
              simp at this
              omega
            subst this
            have hy' : z = y := by simpa using hy
            subst hy'
            rw [hl]
            exact ⟨ho, c, hc, hk⟩
      obtain ⟨zs, hl, hz⟩ := pick len (Nat.le_refl _)
      subst hl
      have hmax : zs.length ≤ 9223372036854775807 := by
        unfold maxLen at hcm
        omega
      refine ⟨zs, ⟨some a, cap, rfl, hlc, rfl, hmax, fun hn => ⟨a, rfl, fun j z hj => ?_⟩⟩, ?_, hmax, fun z hzm => ?_⟩
      · obtain ⟨_, c, hc, hk⟩ := hz j z hj
        obtain ⟨hcl, hcc⟩ := cells?_get hc
        refine ⟨c, by rw [hcl, hsz], hk, fun i u hu => ?_⟩
        have hadd : (a.add (j * P.cellsOf e)).add i = a.add (j * d.sz + i) := by rw [add_add, hsz]
        rw [← hadd]
        exact hcc i u hu
      · rw [← hel]
        exact Nat.le_trans (Nat.mul_le_mul_right _ (Nat.le_add_right _ _)) hwt
      · obtain ⟨i, hi, rfl⟩ := List.mem_iff_getElem.1 hzm
        exact (hz i _ (List.getElem?_eq_getElem hi)).1⟩
end Go.Proofs.YtebiogaacikphaaW.PrintWords
end
section
namespace Go.Proofs.Ytebiogaacikphaa.Pack
open Go.RowKit Go.ChangeShapes Go.WideShapes Go.Proofs.YtebiogaacikphaaW.PrintWords Go.Proofs.Ytebiogaacikphaa.PAll
set_option linter.unusedVariables false
set_option maxRecDepth 100000
def BytesOk (l : List Int) : Prop := l.length ≤ 140737488351232 ∧ ∀ x ∈ l, 0 ≤ x ∧ x < 256
theorem oBytes : Opens Try.prog 37 (Kd.slice 5 (Kd.int .u8)) (fun xs => xs.length * 1 ≤ 140737488351232 ∧ xs.length ≤ 9223372036854775807 ∧ ∀ x ∈ xs, (Lit.int .u8 x).wf = true) :=
  Opens.slice Try.underlying37 (Opens.int Try.underlying5) (by kernel_rfl) (by kernel_rfl)
theorem byte_of_wf {x : Int} (h : (Lit.int .u8 x).wf = true) : 0 ≤ x ∧ x < 256 := by
  have h' : IntKind.u8.min ≤ x ∧ x ≤ IntKind.u8.max := by simpa [Lit.wf] using h
  have h1 : IntKind.u8.min = 0 := by decide
  have h2 : IntKind.u8.max = 255 := by decide
  omega
/-- An argument that is a list of bytes. -/
theorem open_bytes {H : Type} {enc : TypeId × Value → H} {W : World} {base : Nat} {r : Reach} {b0 : Nat} {sp : Nat → Bool} {held : Bool} {v : Value} {d : DataW H} {p : List MemPlace}
    (hval : Value.okWide Try.prog W r b0 37 v) (h : DataW.Trod enc Try.prog W base sp held 37 v d p) (hw : ∀ n ∈ d.weights Try.prog 37, n ≤ reachBytes) :
    ∃ (A : Option Addr) (c : Nat) (l : List Int), v = .slice A l.length c ∧ Kd.C (Kd.int .u8) W A l.length l ∧ l.length ≤ c ∧ BytesOk l := by
  obtain ⟨a, len, cap, rfl⟩ := okWide_slice Try.underlying37 hval
  obtain ⟨fuel, hf⟩ := h
  obtain ⟨l, ⟨A, c, he, hl, hC⟩, ho⟩ := oBytes.out hf hw
  simp [Value.cells] at he
  obtain ⟨rfl, rfl, rfl⟩ := he
  exact ⟨_, _, l, rfl, hC, hl, by have := ho.1; omega, fun x hx => byte_of_wf (ho.2.2 x hx)⟩
end Go.Proofs.Ytebiogaacikphaa.Pack
end
