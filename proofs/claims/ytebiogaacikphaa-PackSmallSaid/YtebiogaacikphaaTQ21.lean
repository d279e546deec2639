/- Parts of the proof of packBack and packOne and packCuts and packSpoilt and packSmall: InssOpen, PackDecoded, Works, Burst. No condition beyond each lemma's own. -/
import Derived.Test.YtebiogaacikphaaTQ3
import Derived.Test.YtebiogaacikphaaTQ10
import Derived.Test.YtebiogaacikphaaTQ14
import Derived.Test.YtebiogaacikphaaTQ17
import Derived.Test.YtebiogaacikphaaTQ19
import Derived.Test.YtebiogaacikphaaTQ20
section
namespace Go.Proofs.Ytebiogaacikphaa.Pack
open Go.RowKit Go.ChangeShapes Go.WideShapes Go.Proofs.YtebiogaacikphaaW.PrintWords Go.Proofs.Ytebiogaacikphaa.PAll
set_option linter.unusedVariables false
set_option maxRecDepth 100000
theorem oClassP : Opens Try.prog 76 k76 (fun b => (Lit.int .u64 b.f0).wf = true ∧ (Lit.int .u64 b.f1).wf = true ∧ (Lit.int .u64 b.f2).wf = true ∧ (Lit.int .u64 b.f3).wf = true) :=
  Opens.four Try.underlying76 Try.underlying74 (by kernel_rfl) (by kernel_rfl) (fun x : S76 => (x.f0, x.f1, x.f2, x.f3)) (fun a => ⟨a.1, a.2.1, a.2.2.1, a.2.2.2⟩) (fun a => rfl)
theorem oIns : Opens Try.prog 78 k78 (fun b => (Lit.int .i64 b.f0).wf = true ∧ (Lit.int .i64 b.f1).wf = true ∧ ((Lit.int .u64 b.f2.f0).wf = true ∧ (Lit.int .u64 b.f2.f1).wf = true ∧ (Lit.int .u64 b.f2.f2).wf = true ∧ (Lit.int .u64 b.f2.f3).wf = true) ∧ b.f3.size ≤ 140737488351232) :=
  Opens.struct Try.underlying78 (by kernel_rfl) (fun x : Ins => (x.f0, x.f1, x.f2, x.f3)) (fun a => ⟨a.1, a.2.1, a.2.2.1, a.2.2.2⟩) (fun a => rfl)
    (OpensF.cons rfl (by kernel_rfl) (Opens.int Try.underlying3) (OpensF.cons rfl (by kernel_rfl) (Opens.int Try.underlying3) (OpensF.cons rfl (by kernel_rfl) oClassP (OpensF.one rfl (by kernel_rfl) (Opens.string Try.underlying9)))))
theorem u64_of_wf {x : Int} (h : (Lit.int .u64 x).wf = true) : 0 ≤ x ∧ x < 18446744073709551616 := by
  have h' : IntKind.u64.min ≤ x ∧ x ≤ IntKind.u64.max := by simpa [Lit.wf] using h
  have h1 : IntKind.u64.min = 0 := by decide
  have h2 : IntKind.u64.max = 18446744073709551615 := by decide
  omega
def InssOk (l : List Ins) : Prop := l.length * 64 ≤ 140737488351232 ∧ ∀ x ∈ l, FourOk (clsI x) ∧ x.f3.size ≤ 140737488351232
theorem oProgram : Opens Try.prog 40 (Kd.slice 78 k78) (fun xs => xs.length * 64 ≤ 140737488351232 ∧ xs.length ≤ 9223372036854775807 ∧ ∀ x ∈ xs, ((Lit.int .i64 x.f0).wf = true ∧ (Lit.int .i64 x.f1).wf = true ∧ ((Lit.int .u64 x.f2.f0).wf = true ∧ (Lit.int .u64 x.f2.f1).wf = true ∧ (Lit.int .u64 x.f2.f2).wf = true ∧ (Lit.int .u64 x.f2.f3).wf = true) ∧ x.f3.size ≤ 140737488351232)) :=
  Opens.slice Try.underlying40 oIns (by kernel_rfl) (by kernel_rfl)
/-- An argument that is a program. -/
theorem open_inss {H : Type} {enc : TypeId × Value → H} {W : World} {base : Nat} {r : Reach} {b0 : Nat} {sp : Nat → Bool} {held : Bool} {v : Value} {d : DataW H} {p : List MemPlace}
    (hval : Value.okWide Try.prog W r b0 40 v) (h : DataW.Trod enc Try.prog W base sp held 40 v d p) (hw : ∀ n ∈ d.weights Try.prog 40, n ≤ reachBytes) :
    ∃ (A : Option Addr) (c : Nat) (l : List Ins), v = .slice A l.length c ∧ Kd.C k78 W A l.length l ∧ l.length ≤ c ∧ InssOk l := by
  obtain ⟨a, len, cap, rfl⟩ := okWide_slice Try.underlying40 hval
  obtain ⟨fuel, hf⟩ := h
  obtain ⟨l, ⟨A, c, he, hl, hC⟩, ho⟩ := oProgram.out hf hw
  simp [Value.cells] at he
  obtain ⟨rfl, rfl, rfl⟩ := he
  exact ⟨_, _, l, rfl, hC, hl, ho.1, fun x hx => ⟨⟨u64_of_wf (ho.2.2 x hx).2.2.1.1, u64_of_wf (ho.2.2 x hx).2.2.1.2.1, u64_of_wf (ho.2.2 x hx).2.2.1.2.2.1, u64_of_wf (ho.2.2 x hx).2.2.1.2.2.2⟩, (ho.2.2 x hx).2.2.2⟩⟩
/-- Instructions at the front of a block. -/
theorem ins_row {W : World} {g : Nat} {t : TypeId} {l r : List Ins} (h : RowAt W g t ((l ++ r).flatMap insCells)) (hl : l.length ≤ 9223372036854775807) : Kd.C k78 W (some ⟨g, 0, none⟩) l.length l := by
  refine ⟨rfl, hl, fun _ => ⟨_, rfl, fun j p hj => ⟨insCells p, rfl, k78_mk W p, fun i u hi => ?_⟩⟩⟩
  have hl2 : (l ++ r)[j]? = some p := by rw [List.getElem?_append_left (List.getElem?_eq_some_iff.1 hj).1]; exact hj
  have e : (⟨g, 0, none⟩ : Addr).add (j * (k78).sz + i) = ⟨g, j * 7 + i, none⟩ := by rw [Go.Proofs.YtebiogaacikphaaW.PrintWords.add_plain]; rfl
  rw [e, h.cell]
  exact flat_get _ j p hl2 i u hi
theorem bytes_get {W : World} {base : Nat} {v : Value} {b : List Int} (h : W.ownsRow base 5 1 v b.length (nums .u8 b)) : ∃ A c, v = .slice A b.length c ∧ b.length ≤ c ∧ Kd.C (Kd.int .u8) W A b.length b :=
  Kd.R_reads (Kd.R_of_own (h1 := fun _ => rfl) (ok := fun _ => True) h (fun k hk => trivial))
end Go.Proofs.Ytebiogaacikphaa.Pack
end
section
namespace Go.Proofs.Ytebiogaacikphaa.Pack
open Go.RowKit Go.Proofs.YtebiogaacikphaaW.PrintWords Go.Proofs.Ytebiogaacikphaa.PAll
set_option linter.unusedVariables false
set_option linter.unusedSimpArgs false
/-- The fault and the program of an answer. -/
def faultOf : Except (Int × Int) (List Ins) → Int × Int
  | .error f => f
  | .ok _ => (0, 0)
def insOf : Except (Int × Int) (List Ins) → List Ins
  | .error _ => []
  | .ok p => p
theorem Decoded.one {w0 w : World} {x : Ending} {res : Except (Int × Int) (List Ins)} (h : Decoded w0 w x res) : ∃ v, x = .returned (.tuple #[v, .agg #[.int .i64 (faultOf res).1, .int .i64 (faultOf res).2]]) ∧ w.ownsRow w0.heap.size 78 7 v (insOf res).length ((insOf res).flatMap insCells) := by
  cases res with
  | error f => exact ⟨_, h, World.ownsRow_nil _ _ _ _⟩
  | ok p =>
    obtain ⟨v, h1, h2⟩ := h
    exact ⟨v, h1, h2⟩
end Go.Proofs.Ytebiogaacikphaa.Pack
end
section
namespace Go.Proofs.Ytebiogaacikphaa.Pack
open Go.RowKit Go.Proofs.YtebiogaacikphaaW.PrintWords Go.Proofs.Ytebiogaacikphaa.PAll
set_option linter.unusedVariables false
set_option linter.unusedSimpArgs false
def l4 : List Ins := [{ zIns with f0 := 10, f1 := 2 }, { zIns with f0 := 0 }, { zIns with f0 := 1, f2 := ⟨0, 8589934592, 0, 0⟩ }, { zIns with f0 := 11 }]
theorem ok_four : ∀ x ∈ l4, InsOk 4 x ∧ kindOf x.f0 ≠ 3 ∧ (kindOf x.f0 = 2 → FourOk (clsI x)) := by
  intro x hx
  simp only [l4, List.mem_cons, List.not_mem_nil, or_false] at hx
  rcases hx with rfl | rfl | rfl | rfl
  all_goals exact ⟨⟨by decide, fun h => by first | rfl | exact absurd h (by decide), fun h => by first | exact ⟨rfl, by decide⟩ | exact absurd h (by decide), fun h => by first | rfl | exact absurd h (by decide), fun h => by first | rfl | exact absurd h (by decide)⟩, by decide, fun _ => by unfold FourOk; decide⟩
theorem check_four : checkL l4 = (0, 0) := (checkL_ok l4).2 ⟨by decide, by decide, fun x hx => right_of_ok (ok_four x hx).1 (fun k => absurd k (ok_four x hx).2.1)⟩
theorem cnt_low {n : Nat} (h : n < 128) : cntE n = [(n : Int)] := by rw [cntE, dif_pos h]
theorem inside_four : insideE l4 = [1] ++ (leN 8 0 ++ (leN 8 8589934592 ++ (leN 8 0 ++ leN 8 0))) ++ [0, 4, 74, 0, 1, 11] := by
  have hC : l4.foldl addC [] = [(0, 8589934592, 0, 0)] := by decide
  have hN : l4.foldl addN [] = [] := by decide
  have hp : progE [(0, 8589934592, 0, 0)] [] 0 l4 = [74, 0, 1, 11] := by decide
  rw [insideE, hC, hN, hp, cnt_low (by decide), cnt_low (by decide), cnt_low (by decide)]
  decide
theorem len_four : (encodeE l4).length = 48 := by rw [encodeE_length, inside_four]; decide
theorem get_four {i : Nat} (h : i < 44) : (encodeE l4)[i]? = (magicL ++ insideE l4)[i]? := by
  rw [encodeE, List.getElem?_append_left]
  rw [inside_four]
  exact h
theorem rd_of {l : List Int} {i : Nat} {x : Int} (h : l[i]? = some x) : rd l (i : Int) = x := by
  unfold rd
  rw [Int.toNat_natCast, List.getD_eq_getElem?_getD, h, Option.getD_some]
theorem rd39 : rd (encodeE l4) 39 = 4 := rd_of (i := 39) ((get_four (by decide)).trans (by rw [inside_four]; decide))
theorem rd40 : rd (encodeE l4) 40 = 74 := rd_of (i := 40) ((get_four (by decide)).trans (by rw [inside_four]; decide))
theorem rd43 : rd (encodeE l4) 43 = 11 := rd_of (i := 43) ((get_four (by decide)).trans (by rw [inside_four]; decide))
theorem decode_four : decodeL (encodeE l4) = .ok l4 :=
  decode_back l4 (by decide) (by decide) (fun x hx => (ok_four x hx).1) (fun x hx => (ok_four x hx).2.2) (fun x hx k => absurd k (ok_four x hx).2.1) (by rw [len_four]; decide)
theorem bytes_four : ByteL (encodeE l4) := byteL_encode (by decide)
theorem enc_four {w w' : World} {x : Ending} (h : EncOut w w' l4 x) : ∃ v, x = .returned (.tuple #[v, .int .i64 0]) ∧ w'.ownsRow w.heap.size 5 1 v (encodeE l4).length (nums .u8 (encodeE l4)) := by
  rcases h with ⟨h, _⟩ | ⟨_, h, _⟩ | ⟨_, _, h⟩
  · rw [check_four] at h; exact absurd rfl h
  · rw [len_four] at h; omega
  · exact h
theorem encode_four (w : World) : Calls Try.prog 35 #[.slice (some ⟨w.heap.size, 0, none⟩) 4 4] (w.alloc (.cells #[.int .i64 10, .int .i64 2, .int .u64 0, .int .u64 0, .int .u64 0, .int .u64 0, .string (⟨#[]⟩ : ByteArray), .int .i64 0, .int .i64 0, .int .u64 0, .int .u64 0, .int .u64 0, .int .u64 0, .string (⟨#[]⟩ : ByteArray), .int .i64 1, .int .i64 0, .int .u64 0, .int .u64 8589934592, .int .u64 0, .int .u64 0, .string (⟨#[]⟩ : ByteArray), .int .i64 11, .int .i64 0, .int .u64 0, .int .u64 0, .int .u64 0, .int .u64 0, .string (⟨#[]⟩ : ByteArray)] 78 (0, 0)))
    fun e w' => ∃ Ab cb, e = .returned (.tuple #[.slice Ab 48 cb, .int .i64 0]) ∧ 48 ≤ cb ∧ Kd.C (Kd.int .u8) w' Ab 48 (encodeE l4) ∧ Kd.C k78 w' (some ⟨w.heap.size, 0, none⟩) 4 l4 ∧ Below w.heap.size w w' := by
  generalize hW : w.alloc _ = W
  have hrow : RowAt W w.heap.size 78 ((l4 ++ []).flatMap insCells) := by subst hW; exact ⟨_, blk_new w _, rfl⟩
  have hb0 : Below w.heap.size w W := by subst hW; exact below_alloc (Below.refl _ _) _
  have hC := ins_row hrow (by decide)
  refine (encode_calls (some ⟨w.heap.size, 0, none⟩) 4 l4 W hC (by decide) (by decide) (fun x hx => by have := ok_four x hx; simp only [l4, List.mem_cons, List.not_mem_nil, or_false] at hx; rcases hx with rfl | rfl | rfl | rfl <;> decide)).mono ?_
  rintro e w' ⟨he, hb⟩
  obtain ⟨v, rfl, hown⟩ := enc_four he
  obtain ⟨Ab, cb, rfl, hcb, hrb⟩ := bytes_get hown
  rw [len_four] at hcb hrb ⊢
  exact ⟨Ab, cb, rfl, hcb, hrb, Kd.C_below hC hb, below_step hb0 hb⟩
theorem inss_four (A A2 : Option Addr) (c2 : Nat) (w : World) (h : Kd.C k78 w A 4 l4) (h2 : Kd.C k78 w A2 4 l4) (hc2 : 4 ≤ c2) : Calls Try.prog 26 #[.slice A 4 4, .slice A2 4 c2] w fun e w' => e = .returned (.bool true) ∧ Drawn0 w w' :=
  inss_lit A 4 A2 c2 l4 w h (by decide) h2 hc2 (by decide)
theorem decode_four_calls (w : World) (A : Option Addr) (c : Nat) (hr : Kd.C (Kd.int .u8) w A 48 (encodeE l4)) (hc : 48 ≤ c) : Calls Try.prog 23 #[.slice A 48 c] w fun e w' => ∃ Aq cq, e = .returned (.tuple #[.slice Aq 4 cq, .agg #[.int .i64 0, .int .i64 0]]) ∧ 4 ≤ cq ∧ Kd.C k78 w' Aq 4 l4 ∧ Below w.heap.size w w' := by
  have h := decode_calls w A c (encodeE l4) (by rw [len_four]; exact hr) (by rw [len_four]; exact hc) (by rw [len_four]; decide) bytes_four _ decode_four
  rw [len_four] at h
  refine h.mono ?_
  rintro e w' ⟨⟨v, rfl, hown⟩, hb⟩
  obtain ⟨Aq, cq, rfl, hcq, hrq⟩ := ins_reads hown (by decide)
  exact ⟨Aq, cq, rfl, hcq, hrq, hb⟩
set_option maxHeartbeats 4000000 in
set_option maxRecDepth 100000 in
theorem works_calls (w : World) : Calls Try.prog 40 #[] w fun e w' => e = .returned (.bool true) ∧ Below w.heap.size w w' := by
  go_enter Try.func40, Try.ntmps40
  go_wp2_with (first
    | (go_at_call 35; have hcall := encode_four w; (with_reducible refine hcall.mono ?_); clear hcall; rintro xx w3 ⟨Ab, cb, rfl, hcb, hrb, hrl, hb⟩; have HCB := Aside0.mk hcb; have HRB := Aside0.mk hrb; have HRL := Aside0.mk hrl; have HB := Aside0.mk hb; clear hcb hrb hrl hb)
    | (go_at_call 23; have hcall := decode_four_calls w3 Ab cb HRB.out HCB.out; (with_reducible refine hcall.mono ?_); clear hcall; rintro xx w4 ⟨Aq, cq, rfl, hcq, hrq, hb⟩; have HCQ := Aside0.mk hcq; have HRQ := Aside0.mk hrq; have n1_ := Aside0.mk (below_step HB.out hb); have n2_ := Aside0.mk (Kd.C_below HRB.out hb); have n3_ := Aside0.mk (Kd.C_below HRL.out hb); clear HB HRB HRL hcq hrq hb; have HB := n1_; have HRB := n2_; have HRL := n3_; clear n1_ n2_ n3_)
    | ((with_reducible refine gate_dst (N := 5) rfl ?_); refine box_event (N := 5) rfl rfl (cs := #[.int .i64 0, .int .i64 0]) (t := 42) ?hr2 ?_; (case hr2 => first | (go_simp; done) | (go_simp; rfl)); intro g5 hg5 w5 hbox hb; have H5 := Aside0.mk (show RowAt w5 g5 42 [.int .i64 0, .int .i64 0] from ⟨_, hbox, rfl⟩); have HG5 := Aside0.mk (show w4.heap.size ≤ g5 by omega); have HX := Aside0.mk hb; clear hbox hb hg5)
    | ((with_reducible refine gate_store (t := 42) (p := 5) rfl ?_); refine put_event rfl rfl 42 (.tmp 5) (.tmp 21) rfl (off := 0) (u := .agg #[.int .i64 0, .int .i64 0]) (seg := [.int .i64 0, .int .i64 0]) rfl rfl H5.out rfl (by kernel_rfl) (by simp) (by simp [Value.oneCell']) ?_; intro w6 hrow hgr; have n1_ := Aside0.mk (pw_below_grown HX.out (some g5) HX.out.size hgr (fun k hk => by injection hk with hk; have := HG5.out; omega)); have n2_ := Aside0.mk (show RowAt w6 g5 42 [.int .i64 0, .int .i64 0] from hrow); clear HX H5 hrow hgr; have HX := n1_; have H5 := n2_; clear n1_ n2_; have z0 := H5.out.cell 0; have z1 := H5.out.cell 1; simp only [List.getElem?_cons_succ, List.getElem?_cons_zero] at z0 z1; obtain ⟨ad, he, c39⟩ := Kd.at_int (Kd.C_below HRB.out HX.out) 39 (by omega) (by omega); cases he; obtain ⟨ad', he, c40⟩ := Kd.at_int (Kd.C_below HRB.out HX.out) 40 (by omega) (by omega); cases he; obtain ⟨ad', he, c43⟩ := Kd.at_int (Kd.C_below HRB.out HX.out) 43 (by omega) (by omega); cases he; rw [rd39] at c39; rw [rd40] at c40; rw [rd43] at c43; rw [show (39 : Int).toNat = 39 from rfl] at c39; rw [show (40 : Int).toNat = 40 from rfl] at c40; rw [show (43 : Int).toNat = 43 from rfl] at c43; rw [Addr.add, if_neg (by decide)] at c39 c40 c43)
    | (go_at_call 26; have hcall := inss_four (some ⟨w.heap.size, 0, none⟩) Aq cq w6 (Kd.C_below HRL.out HX.out) (Kd.C_below HRQ.out HX.out) HCQ.out; (with_reducible refine hcall.mono ?_); clear hcall; rintro xx w7 ⟨rfl, hd⟩; have HD := Aside0.mk hd.below; clear hd))
  go_ret
  exact ⟨rfl, below_step (below_step HB.out HX.out) HD.out⟩
end Go.Proofs.Ytebiogaacikphaa.Pack
end
section
namespace Go.Proofs.Ytebiogaacikphaa.Pack
open Go.RowKit Go.Proofs.YtebiogaacikphaaW.PrintWords Go.Proofs.Ytebiogaacikphaa.PAll Go.Proofs.Ytebiogaacikphaa.Names
set_option linter.unusedVariables false
/-- One step of the register. -/
def stepN (s : Nat) : Nat := if s % 2 = 1 then (s / 2) ^^^ 3988292384 else s / 2
def stepsN : Nat → Nat → Nat
  | 0, s => s
  | n + 1, s => stepsN n (stepN s)
theorem step_lt {s : Nat} (h : s < 2 ^ 32) : stepN s < 2 ^ 32 := by
  unfold stepN
  split
  · exact Nat.xor_lt_two_pow (by omega) (by decide)
  · omega
theorem steps_lt : ∀ (n : Nat) {s : Nat}, s < 2 ^ 32 → stepsN n s < 2 ^ 32
  | 0, s, h => h
  | n + 1, s, h => steps_lt n (step_lt h)
theorem xor_back (a b c : Nat) (h : a ^^^ c = b ^^^ c) : a = b := by
  have := congrArg (· ^^^ c) h
  simpa [Nat.xor_assoc] using this
theorem step_top {s : Nat} (h : s < 2 ^ 32) : (stepN s).testBit 31 = decide (s % 2 = 1) := by
  have h0 : (s / 2).testBit 31 = false := Nat.testBit_lt_two_pow (by omega)
  unfold stepN
  split
  · rename_i c
    rw [Nat.testBit_xor, h0, decide_eq_true c]
    decide
  · rename_i c
    rw [h0, decide_eq_false c]
theorem step_inj {s t : Nat} (hs : s < 2 ^ 32) (ht : t < 2 ^ 32) (h : stepN s = stepN t) : s = t := by
  have e : decide (s % 2 = 1) = decide (t % 2 = 1) := by rw [← step_top hs, ← step_top ht, h]
  unfold stepN at h
  by_cases c : s % 2 = 1
  · have c' : t % 2 = 1 := by rw [decide_eq_true c] at e; exact of_decide_eq_true e.symm
    rw [if_pos c, if_pos c'] at h
    have := xor_back _ _ _ h
    omega
  · have c' : ¬ t % 2 = 1 := by rw [decide_eq_false c] at e; exact of_decide_eq_false e.symm
    rw [if_neg c, if_neg c'] at h
    omega
theorem steps_inj : ∀ (n : Nat) {s t : Nat}, s < 2 ^ 32 → t < 2 ^ 32 → stepsN n s = stepsN n t → s = t
  | 0, s, t, _, _, h => h
  | n + 1, s, t, hs, ht, h => step_inj hs ht (steps_inj n (step_lt hs) (step_lt ht) h)
theorem xor_mod2 (a b : Nat) : (a ^^^ 2 * b) % 2 = a % 2 := by
  have h := Nat.testBit_xor a (2 * b) 0
  simp only [Nat.testBit_zero] at h
  have h2 : decide (2 * b % 2 = 1) = false := decide_eq_false (by omega)
  rw [h2, Bool.xor_false] at h
  have := Nat.mod_two_eq_zero_or_one (a ^^^ 2 * b)
  have := Nat.mod_two_eq_zero_or_one a
  by_cases c : a % 2 = 1
  · rw [decide_eq_true c] at h
    rw [of_decide_eq_true h, c]
  · rw [decide_eq_false c] at h
    have := of_decide_eq_false h
    omega
theorem xor_div2 (a b : Nat) : (a ^^^ 2 * b) / 2 = (a / 2) ^^^ b := by
  apply Nat.eq_of_testBit_eq
  intro i
  rw [Nat.testBit_div_two, Nat.testBit_xor, Nat.testBit_xor, Nat.testBit_div_two]
  congr 1
  rw [← Nat.testBit_div_two, show 2 * b / 2 = b by omega]
theorem step_xor (s u : Nat) : stepN (s ^^^ 2 * u) = stepN s ^^^ u := by
  unfold stepN
  rw [xor_mod2, xor_div2]
  split
  · rw [Nat.xor_assoc, Nat.xor_comm u, ← Nat.xor_assoc]
  · rfl
/-- The register behind some bits. -/
def runB : Nat → List Bool → Nat
  | s, [] => s
  | s, x :: l => runB (stepN (s ^^^ x.toNat)) l
def valB : List Bool → Nat
  | [] => 0
  | x :: l => x.toNat + 2 * valB l
theorem bit_lt (x : Bool) : x.toNat < 2 := by cases x <;> decide
theorem bit_xor (x : Bool) (v : Nat) : x.toNat + 2 * v = x.toNat ^^^ 2 * v := by
  have h := Nat.two_pow_add_eq_or_of_lt (i := 1) (bit_lt x) v
  have h2 : 2 * v ||| x.toNat = 2 * v ^^^ x.toNat := by
    apply Nat.eq_of_testBit_eq
    intro i
    rw [Nat.testBit_or, Nat.testBit_xor]
    cases i with
    | zero =>
      have : (2 * v).testBit 0 = false := by rw [Nat.testBit_zero]; exact decide_eq_false (by omega)
      rw [this]
      simp
    | succ i =>
      have : x.toNat.testBit (i + 1) = false := Nat.testBit_lt_two_pow (Nat.lt_of_lt_of_le (bit_lt x) (by rw [Nat.pow_succ]; have := Nat.pow_pos (n := i) (show 0 < 2 by decide); omega))
      rw [this]
      simp
  rw [Nat.add_comm, Nat.xor_comm, ← h2, ← h]
theorem run_val : ∀ (l : List Bool) (s : Nat), runB s l = stepsN l.length (s ^^^ valB l)
  | [], s => by simp [runB, stepsN, valB]
  | x :: l, s => by
    rw [runB, run_val l, List.length_cons, stepsN, valB, bit_xor, ← Nat.xor_assoc, step_xor]
theorem val_lt : ∀ l : List Bool, valB l < 2 ^ l.length
  | [] => by simp [valB]
  | x :: l => by
    have h1 := val_lt l
    have h2 := bit_lt x
    rw [valB, List.length_cons, Nat.pow_succ]
    omega
theorem val_inj : ∀ (l m : List Bool), l.length = m.length → valB l = valB m → l = m
  | [], [], _, _ => rfl
  | [], _ :: _, h, _ => by cases h
  | _ :: _, [], h, _ => by cases h
  | x :: l, y :: m, h, hv => by
    rw [valB, valB] at hv
    have h1 := bit_lt x
    have h2 := bit_lt y
    have e := val_inj l m (by simpa using h) (by omega)
    have e2 : x.toNat = y.toNat := by omega
    have e3 : x = y := by cases x <;> cases y <;> first | rfl | cases e2
    rw [e, e3]
theorem run_append : ∀ (l m : List Bool) (s : Nat), runB s (l ++ m) = runB (runB s l) m
  | [], m, s => rfl
  | x :: l, m, s => by rw [List.cons_append, runB, run_append l m, runB]
theorem xbit_lt {s : Nat} (h : s < 2 ^ 32) (x : Bool) : s ^^^ x.toNat < 2 ^ 32 := Nat.xor_lt_two_pow h (Nat.lt_of_lt_of_le (bit_lt x) (by decide))
theorem run_lt : ∀ (l : List Bool) {s : Nat}, s < 2 ^ 32 → runB s l < 2 ^ 32
  | [], s, h => h
  | x :: l, s, h => run_lt l (step_lt (xbit_lt h x))
theorem run_inj : ∀ (l : List Bool) {s t : Nat}, s < 2 ^ 32 → t < 2 ^ 32 → runB s l = runB t l → s = t
  | [], s, t, _, _, h => h
  | x :: l, s, t, hs, ht, h => xor_back _ _ _ (step_inj (xbit_lt hs x) (xbit_lt ht x) (run_inj l (step_lt (xbit_lt hs x)) (step_lt (xbit_lt ht x)) h))
/-- Two lists of bits that differ in 32 bits in a row only come to the same register just if they are the same. -/
theorem run_burst (A U V C : List Bool) (s : Nat) (hs : s < 2 ^ 32) (hl : U.length = V.length) (h32 : U.length ≤ 32) (h : runB s (A ++ (U ++ C)) = runB s (A ++ (V ++ C))) : U = V := by
  rw [run_append, run_append A, run_append U, run_append V] at h
  have h0 := run_lt A hs
  generalize runB s A = t at h h0
  have h1 := run_inj C (run_lt U h0) (run_lt V h0) h
  rw [run_val, run_val, ← hl] at h1
  have p : 2 ^ U.length ≤ 2 ^ 32 := Nat.pow_le_pow_right (by decide) h32
  have hu := val_lt U
  have hv := val_lt V
  rw [← hl] at hv
  have h2 := steps_inj _ (Nat.xor_lt_two_pow h0 (Nat.lt_of_lt_of_le hu p)) (Nat.xor_lt_two_pow h0 (Nat.lt_of_lt_of_le hv p)) h1
  rw [Nat.xor_comm t, Nat.xor_comm t] at h2
  exact val_inj U V hl (xor_back _ _ _ h2)
/-- So many bits of a number, the lowest first. -/
def bitsN : Nat → Nat → List Bool
  | 0, _ => []
  | m + 1, n => n.testBit 0 :: bitsN m (n / 2)
theorem bitsN_length : ∀ m n, (bitsN m n).length = m
  | 0, _ => rfl
  | m + 1, n => by rw [bitsN, List.length_cons, bitsN_length m]
theorem bitsN_get : ∀ (m n k : Nat), k < m → (bitsN m n)[k]? = some (n.testBit k)
  | 0, _, _, h => by omega
  | m + 1, n, 0, h => rfl
  | m + 1, n, k + 1, h => by rw [bitsN, List.getElem?_cons_succ, bitsN_get m _ k (by omega), Nat.testBit_div_two]
theorem bit0 (n : Nat) : (n.testBit 0).toNat = n % 2 := by
  rw [Nat.testBit_zero]
  have := Nat.mod_two_eq_zero_or_one n
  by_cases c : n % 2 = 1
  · rw [decide_eq_true c, c]; rfl
  · rw [decide_eq_false c, show n % 2 = 0 by omega]; rfl
theorem val_bits : ∀ (m n : Nat) (r : List Bool), n < 2 ^ m → valB (bitsN m n ++ r) = n + 2 ^ m * valB r
  | 0, n, r, h => by
    have : n = 0 := by simpa using h
    subst this
    simp [bitsN]
  | m + 1, n, r, h => by
    rw [Nat.pow_succ] at h
    rw [bitsN, List.cons_append, valB, bit0, val_bits m (n / 2) r (by omega), Nat.pow_succ, Nat.mul_add, ← Nat.mul_assoc, Nat.mul_comm 2 (2 ^ m)]
    omega
def bitsL (l : List Int) : List Bool := l.flatMap fun x => bitsN 8 x.toNat
theorem bitsL_length : ∀ l : List Int, (bitsL l).length = 8 * l.length
  | [] => rfl
  | x :: l => by
    have := bitsL_length l
    rw [bitsL] at this ⊢
    rw [List.flatMap_cons, List.length_append, bitsN_length, this, List.length_cons]
    omega
theorem bitsL_get : ∀ (l : List Int) (j r : Nat), r < 8 → (bitsL l)[8 * j + r]? = l[j]?.map fun x => x.toNat.testBit r
  | [], j, r, h => by simp [bitsL]
  | x :: l, 0, r, h => by
    rw [bitsL, List.flatMap_cons, List.getElem?_append_left (by rw [bitsN_length]; omega), Nat.mul_zero, Nat.zero_add, bitsN_get 8 _ r h]
    rfl
  | x :: l, j + 1, r, h => by
    have ih := bitsL_get l j r h
    rw [bitsL] at ih ⊢
    rw [List.flatMap_cons, List.getElem?_append_right (by rw [bitsN_length]; omega), bitsN_length, show 8 * (j + 1) + r - 8 = 8 * j + r by omega, ih, List.getElem?_cons_succ]
theorem bitsL_append (l m : List Int) : bitsL (l ++ m) = bitsL l ++ bitsL m := by rw [bitsL, List.flatMap_append]; rfl
theorem crcBit_nat (s : Nat) (h : s < 2 ^ 32) : crcBit (s : Int) = (stepN s : Nat) := by
  have ha : Go.bits .and .u32 (s : Int) 1 = ((s &&& 1 : Nat) : Int) := Bits.bits_and .u32 rfl s 1 h (by decide)
  have hx : Go.bits .xor .u32 ((s / 2 : Nat) : Int) 3988292384 = ((s / 2 ^^^ 3988292384 : Nat) : Int) := Bits.bits_xor .u32 rfl (s / 2) 3988292384 (by show _ < 2 ^ 32; omega) (by decide)
  have hd : (s : Int) / 2 = ((s / 2 : Nat) : Int) := by omega
  unfold crcBit stepN
  rw [ha, Nat.and_one_is_mod, hd, hx]
  by_cases c : s % 2 = 1
  · rw [if_pos c, if_pos (by omega)]
  · rw [if_neg c, if_neg (by omega)]
theorem crcN_nat : ∀ (n s : Nat), s < 2 ^ 32 → crcN n (s : Int) = (stepsN n s : Nat)
  | 0, s, h => rfl
  | n + 1, s, h => by rw [crcN, crcBit_nat s h, crcN_nat n _ (step_lt h), stepsN]
theorem crcRaw_nat : ∀ (l : List Int) (s : Nat), s < 2 ^ 32 → ByteL l → crcRaw (s : Int) l = (runB s (bitsL l) : Nat)
  | [], s, h, hb => rfl
  | x :: l, s, h, hb => by
    have hx := hb x List.mem_cons_self
    obtain ⟨n, rfl⟩ := Int.eq_ofNat_of_zero_le hx.1
    have hn : n < 2 ^ 8 := by omega
    have h1 : Go.bits .xor .u32 (s : Int) ((n : Int) % 4294967296) = ((s ^^^ n : Nat) : Int) := by
      rw [show (n : Int) % 4294967296 = (n : Int) by omega]
      exact Bits.bits_xor .u32 rfl s n h (by show _ < 2 ^ 32; omega)
    have h2 : s ^^^ n < 2 ^ 32 := Nat.xor_lt_two_pow h (by omega)
    have h3 : runB s (bitsN 8 n) = stepsN 8 (s ^^^ n) := by
      have hv := val_bits 8 n [] hn
      rw [List.append_nil] at hv
      rw [run_val, bitsN_length, hv]
      rfl
    have ih := crcRaw_nat l (stepsN 8 (s ^^^ n)) (steps_lt 8 h2) hb.tail
    rw [crcRaw] at ih ⊢
    have hb2 : bitsL ((n : Int) :: l) = bitsN 8 n ++ bitsL l := by
      rw [bitsL, List.flatMap_cons, Int.toNat_natCast]
      rfl
    rw [List.foldl_cons, h1, crcN_nat 8 _ h2, ih, hb2, run_append, h3]
theorem val_le4 (c : Nat) (h : c < 2 ^ 32) : valB (bitsL (leN 4 (c : Int))) = c := by
  have e : leN 4 (c : Int) = [((c % 256 : Nat) : Int), ((c / 256 % 256 : Nat) : Int), ((c / 256 / 256 % 256 : Nat) : Int), ((c / 256 / 256 / 256 % 256 : Nat) : Int)] := by
    simp only [leN]
    refine congr (congrArg _ ?_) (congr (congrArg _ ?_) (congr (congrArg _ ?_) (congr (congrArg _ ?_) rfl))) <;> omega
  rw [e, bitsL]
  simp only [List.flatMap_cons, List.flatMap_nil, Int.toNat_natCast]
  rw [val_bits 8 _ _ (by omega), val_bits 8 _ _ (by omega), val_bits 8 _ _ (by omega), val_bits 8 _ _ (by omega), valB]
  omega
/-- The sum is right: the register behind all is always the same. -/
theorem sum_right {b : List Int} (hb : ByteL b) (h4 : 4 ≤ b.length) (h : leN 4 (crcL (b.take (b.length - 4))) = b.drop (b.length - 4)) : runB 4294967295 (bitsL b) = stepsN 32 4294967295 := by
  have hf : (4294967295 : Nat) < 2 ^ 32 := by decide
  have hraw := crcRaw_nat (b.take (b.length - 4)) 4294967295 hf (hb.take _)
  have hR := run_lt (bitsL (b.take (b.length - 4))) hf
  have hsplit : bitsL b = bitsL (b.take (b.length - 4)) ++ bitsL (b.drop (b.length - 4)) := by rw [← bitsL_append, List.take_append_drop]
  rw [hsplit, run_append]
  have hc : crcL (b.take (b.length - 4)) = ((4294967295 ^^^ runB 4294967295 (bitsL (b.take (b.length - 4))) : Nat) : Int) := by
    unfold crcL
    have e : (4294967295 : Int) = ((4294967295 : Nat) : Int) := rfl
    rw [e, hraw]
    exact Bits.bits_xor .u32 rfl _ _ hf hR
  generalize runB 4294967295 (bitsL (b.take (b.length - 4))) = R at hc hR
  rw [← h, hc]
  have hx : 4294967295 ^^^ R < 2 ^ 32 := Nat.xor_lt_two_pow hf hR
  rw [run_val, bitsL_length, leN_length, val_le4 _ hx, Nat.xor_comm 4294967295 R, ← Nat.xor_assoc, Nat.xor_self, Nat.zero_xor]
/-- Two lists of bytes, both with their right sum, that differ within 32 bits in a row, are the same. -/
theorem burst_same {b d : List Int} (bit : Nat) (hb : ByteL b) (hd : ByteL d) (hl : d.length = b.length) (h4 : 4 ≤ b.length)
    (h1 : leN 4 (crcL (b.take (b.length - 4))) = b.drop (b.length - 4)) (h2 : leN 4 (crcL (d.take (d.length - 4))) = d.drop (d.length - 4))
    (ho : ∀ i, (i < bit ∨ bit + 32 ≤ i) → (bitsL d)[i]? = (bitsL b)[i]?) : bitsL d = bitsL b := by
  have e1 := sum_right hb h4 h1
  have e2 := sum_right hd (by omega) h2
  have hlen : (bitsL d).length = (bitsL b).length := by rw [bitsL_length, bitsL_length, hl]
  have split : ∀ X : List Bool, X = X.take bit ++ ((X.drop bit).take 32 ++ X.drop (bit + 32)) := fun X => by
    rw [← List.drop_drop, List.take_append_drop, List.take_append_drop]
  have ha : (bitsL d).take bit = (bitsL b).take bit := by
    apply List.ext_getElem?
    intro i
    rw [List.getElem?_take, List.getElem?_take]
    split
    · rename_i c
      exact ho i (.inl c)
    · rfl
  have hc : (bitsL d).drop (bit + 32) = (bitsL b).drop (bit + 32) := by
    apply List.ext_getElem?
    intro i
    rw [List.getElem?_drop, List.getElem?_drop]
    exact ho _ (.inr (by omega))
  have hu := run_burst ((bitsL b).take bit) (((bitsL d).drop bit).take 32) (((bitsL b).drop bit).take 32) ((bitsL b).drop (bit + 32)) 4294967295 (by decide) (by rw [List.length_take, List.length_take, List.length_drop, List.length_drop, hlen]) (by rw [List.length_take]; omega) (by
    rw [← split (bitsL b), ← hc, ← ha, ← split (bitsL d), e1, e2])
  rw [split (bitsL d), split (bitsL b), ha, hc, hu]
/-- What is spoilt is told. -/
theorem spoilt_told {b d : List Int} (bit : Nat) (p : List Ins) (hb : ByteL b) (hd : ByteL d) (hl : d.length = b.length) (hp : decodeL b = .ok p) (ho : ∀ i, (i < bit ∨ bit + 32 ≤ i) → (bitsL d)[i]? = (bitsL b)[i]?) (hne : bitsL d ≠ bitsL b) :
    ∃ f, decodeL d = .error f ∧ ((f.2 = 202 ∧ 0 ≤ f.1 ∧ f.1 < 5) ∨ (f.2 = 203 ∧ f.1 = ((d.length - 4 : Nat) : Int))) := by
  obtain ⟨u1, u2, u3⟩ := decode_uniq hb hp
  have h9 : 9 ≤ b.length := by rw [u1, encodeE_length]; omega
  have hs : leN 4 (crcL (b.take (b.length - 4))) = b.drop (b.length - 4) := by
    have hf : framedL b = (0, 0) ∨ (framedL b).2 ≠ 0 := by
      unfold framedL
      split
      · exact .inr (by decide)
      · split
        · exact .inr (by show (202 : Int) ≠ 0; decide)
        · split
          · exact .inr (by show (200 : Int) ≠ 0; decide)
          · split
            · exact .inl rfl
            · exact .inr (by show (203 : Int) ≠ 0; decide)
    rw [decodeL] at hp
    split at hp
    · cases hp
    · rename_i c
      have hz : (framedL b).2 = 0 := by omega
      unfold framedL at hz
      split at hz
      · cases hz
      · split at hz
        · cases hz
        · split at hz
          · cases hz
          · split at hz
            · assumption
            · cases hz
  have hns : leN 4 (crcL (d.take (d.length - 4))) ≠ d.drop (d.length - 4) := fun h => hne (burst_same bit hb hd hl (by omega) hs h ho)
  have hmi : ∀ (m x : List Int) (i j : Nat), missL i m x = some j → j < i + m.length := by
    intro m
    induction m with
    | nil => intro x i j h; unfold missL at h; cases h
    | cons a m ih =>
      intro x i j h
      cases x with
      | nil => unfold missL at h; cases h
      | cons y x =>
        rw [missL] at h
        rw [List.length_cons]
        split at h
        · have := ih x (i + 1) j h; omega
        · injection h with h; omega
  have hf : (framedL d).2 ≠ 0 ∧ (((framedL d).2 = 202 ∧ 0 ≤ (framedL d).1 ∧ (framedL d).1 < 5) ∨ ((framedL d).2 = 203 ∧ (framedL d).1 = ((d.length - 4 : Nat) : Int))) := by
    unfold framedL
    rw [if_neg (by omega)]
    cases hm : missL 0 magicL d with
    | some i =>
      dsimp only
      have := hmi _ _ _ _ hm
      exact ⟨by show (202 : Int) ≠ 0; decide, .inl ⟨rfl, by omega, by rw [show magicL.length = 5 from rfl] at this; omega⟩⟩
    | none =>
      dsimp only
      rw [if_neg (by omega), if_neg hns]
      exact ⟨by show (203 : Int) ≠ 0; decide, .inr ⟨rfl, rfl⟩⟩
  exact ⟨framedL d, by rw [decodeL, if_pos hf.1], hf.2⟩
/-- One bit is changed. -/
theorem flip_bit {l : List Int} (hb : ByteL l) (j r : Nat) (hr : r < 8) (x : Int) (hx : l[j]? = some x) : ByteL (l.set j ((x.toNat ^^^ 2 ^ r : Nat) : Int)) ∧ ∀ i, (bitsL (l.set j ((x.toNat ^^^ 2 ^ r : Nat) : Int)))[i]? = (bitsL l)[i]?.map fun y => y != decide (i = 8 * j + r) := by
  have hxb := hb x (List.mem_of_getElem? hx)
  have hjl := (List.getElem?_eq_some_iff.1 hx).1
  have hp : 2 ^ r < 2 ^ 8 := Nat.pow_lt_pow_right (by decide) hr
  refine ⟨fun y hy => ?_, fun i => ?_⟩
  · rcases List.mem_or_eq_of_mem_set hy with h | h
    · exact hb y h
    · have : x.toNat ^^^ 2 ^ r < 2 ^ 8 := Nat.xor_lt_two_pow (by omega) hp
      omega
  · have hi : i = 8 * (i / 8) + i % 8 := by omega
    have h8 : i % 8 < 8 := Nat.mod_lt _ (by decide)
    rw [hi, bitsL_get _ _ _ h8, bitsL_get _ _ _ h8]
    by_cases c : i / 8 = j
    · rw [c, List.getElem?_set_self hjl, hx]
      simp only [Option.map_some, Int.toNat_natCast, Nat.testBit_xor, Nat.testBit_two_pow]
      have e : decide (r = i % 8) = decide (8 * j + i % 8 = 8 * j + r) := by
        by_cases c2 : r = i % 8
        · rw [decide_eq_true c2, decide_eq_true (by omega)]
        · rw [decide_eq_false c2, decide_eq_false (by omega)]
      rw [e]
    · rw [List.getElem?_set_ne (fun h => c h.symm), Option.map_map]
      congr 1
      funext y
      have e : decide (8 * (i / 8) + i % 8 = 8 * j + r) = false := decide_eq_false (by omega)
      show _ = (_ != _)
      rw [e]
      simp
end Go.Proofs.Ytebiogaacikphaa.Pack
end
