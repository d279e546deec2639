/- Parts of the proof of packBack and packOne and packCuts and packSpoilt and packSmall: SmallWalk. No condition beyond each lemma's own. -/
import Derived.Test.YtebiogaacikphaaTQ17
import Derived.Test.YtebiogaacikphaaTQ26
section
namespace Go.Proofs.Ytebiogaacikphaa.Pack
open Go.RowKit Go.Proofs.YtebiogaacikphaaW.PrintWords Go.Proofs.Ytebiogaacikphaa.PAll Go.Proofs.Ytebiogaacikphaa.Names
set_option linter.unusedVariables false
set_option linter.unusedSimpArgs false
set_option linter.unnecessarySimpa false
/-- The law's own lists of classes and names. -/
structure GS (w W : World) (vs vt : Value) (S : List Four) (T : List ByteArray) : Prop where
  bel : Below w.heap.size w W
  s : W.ownsRow w.heap.size 76 4 vs S.length (S.flatMap clsCells)
  t : W.ownsRow w.heap.size 9 1 vt T.length (T.map Value.string)
section
variable {w W W' : World} {vs vt v' : Value} {S : List Four} {T : List ByteArray}
theorem GS.below (h : GS w W vs vt S T) (hb : Below W.heap.size W W') : GS w W' vs vt S T :=
  ⟨below_step h.bel hb, own_kept h.s (fun q hq => hb.block q (own_lt h.s q hq)), own_kept h.t (fun q hq => hb.block q (own_lt h.t q hq))⟩
theorem GS.apart (h : GS w W vs vt S T) {q : Nat} (h1 : vs.ownBlock = some q) (h2 : vt.ownBlock = some q) : False := by
  obtain ⟨c0, e0⟩ := own_typed h.s q h1
  obtain ⟨c1, e1⟩ := own_typed h.t q h2
  rw [e0] at e1
  injection e1 with e1
  injection e1 with _ e1
  exact absurd e1 (by decide)
theorem GS.addS (h : GS w W vs vt S T) {x : Four} (ho : W'.ownsRow w.heap.size 76 4 v' (S.length + 1) (S.flatMap clsCells ++ clsCells x)) (hg : W.grownBy W' vs.ownBlock) : GS w W' v' vt (S ++ [x]) T := by
  refine ⟨pw_below_grown h.bel vs.ownBlock h.bel.size hg (fun k hk => own_base h.s k hk), ?_, own_kept h.t (fun q hq => hg.block q (own_lt h.t q hq) (fun e => h.apart e.symm hq))⟩
  rw [List.length_append, List.flatMap_append]
  simpa using ho
theorem GS.addT (h : GS w W vs vt S T) {x : ByteArray} (ho : W'.ownsRow w.heap.size 9 1 v' (T.length + 1) (T.map Value.string ++ [.string x])) (hg : W.grownBy W' vt.ownBlock) : GS w W' vs v' S (T ++ [x]) := by
  refine ⟨pw_below_grown h.bel vt.ownBlock h.bel.size hg (fun k hk => own_base h.t k hk), own_kept h.s (fun q hq => hg.block q (own_lt h.s q hq) (fun e => h.apart hq e.symm)), ?_⟩
  rw [List.length_append, List.map_append]
  exact ho
end
theorem kind_two {a : Int} (h : kindOf a = 2) : ∃ q : Bool, (a == 1) = q ∧ (q = false → (a == 2) = true) := by
  refine ⟨a == 1, rfl, fun h1 => ?_⟩
  unfold kindOf at h
  split at h
  · cases h
  · split at h
    · rename_i h2
      rcases h2 with h2 | h2
      · rw [h2] at h1; cases h1
      · rw [h2]; rfl
    · split at h <;> cases h
theorem kind_three {a : Int} (h : kindOf a = 3) : (a == 1) = false ∧ (a == 2) = false ∧ ∃ q : Bool, (a == 12) = q ∧ (q = false → (a == 14) = true) := by
  unfold kindOf at h
  split at h
  · cases h
  · split at h
    · cases h
    · rename_i h2
      split at h
      · rename_i h3
        refine ⟨by simpa using fun e => h2 (.inl e), by simpa using fun e => h2 (.inr e), a == 12, rfl, fun h1 => ?_⟩
        rcases h3 with h3 | h3
        · rw [h3] at h1; cases h1
        · rw [h3]; rfl
      · cases h
theorem kind_else {a : Int} (h2 : kindOf a ≠ 2) (h3 : kindOf a ≠ 3) : (a == 1) = false ∧ (a == 2) = false ∧ (a == 12) = false ∧ (a == 14) = false := by
  have e : ∀ b : Int, kindOf b = 2 ∨ kindOf b = 3 → (a == b) = false := fun b hb => by
    rw [beq_eq_false_iff_ne]
    rintro rfl
    rcases hb with hb | hb
    · exact h2 hb
    · exact h3 hb
  exact ⟨e 1 (.inl (by decide)), e 2 (.inl (by decide)), e 12 (.inr (by decide)), e 14 (.inr (by decide))⟩
theorem take_mem {α : Type} {S : List α} {k : Nat} {y x : α} (hy : S[k]? = some y) : x ∈ S.take (k + 1) ↔ (x ∈ S.take k ∨ y = x) := by
  rw [take_snoc hy, List.mem_append, List.mem_singleton]
  exact or_congr Iff.rfl ⟨fun h => h.symm, fun h => h.symm⟩
theorem str_eq (a b : ByteArray) : (a.toList == b.toList) = true ↔ a = b := by
  constructor
  · intro h
    have h' : a.toList = b.toList := by simpa using h
    have e1 := congrArg List.toArray h'
    cases a; cases b; simpa [ByteArray.toList_eq] using e1
  · intro h; rw [h]; simp
theorem four_eq (y z : Four) : (y.1 == z.1 && (y.2.1 == z.2.1 && (y.2.2.1 == z.2.2.1 && y.2.2.2 == z.2.2.2))) = decide (y = z) := by
  obtain ⟨y0, y1, y2, y3⟩ := y
  obtain ⟨z0, z1, z2, z3⟩ := z
  by_cases h0 : y0 = z0 <;> by_cases h1 : y1 = z1 <;> by_cases h2 : y2 = z2 <;> by_cases h3 : y3 = z3 <;> simp [h0, h1, h2, h3]
section
variable (A : Option Addr) (c : Nat) (l : List Ins) (w : World)
set_option maxHeartbeats 8000000 in
set_option maxRecDepth 100000 in
theorem small_row (hr : Kd.C k78 w A l.length l) (hc : l.length ≤ c) (hok : InssOk l) :
    Calls Try.prog 12 #[.slice A l.length c] w fun e w' => e = .returned (.bool true) ∧ Below w.heap.size w w' := by
  have HR := Aside0.mk hr
  have HC := Aside0.mk hc
  have HOK := Aside0.mk hok
  have HSS := Aside0.mk (fun x hx => (hok.2 x hx).2)
  have HL47 := Aside0.mk (show l.length ≤ 140737488351232 by have := hok.1; omega)
  have HMAX := Aside0.mk (show l.length ≤ 9223372036854775807 by have := hok.1; omega)
  clear hr hc hok
  by_cases c0 : 4096 < l.length
  · have k0 : decide ((l.length : Int) > 4096) = true := decide_eq_true (by omega)
    clear c0
    go_enter Try.func12, Try.ntmps12
    go_wp2_with (first
      | (go_at_call 40; have hcall := works_calls w; (with_reducible refine hcall.mono ?_); clear hcall; rintro xx w2 ⟨rfl, hb⟩; have HB := Aside0.mk hb; clear hb))
    go_ret
    exact ⟨rfl, HB.out⟩
  · have k0 : decide ((l.length : Int) > 4096) = false := decide_eq_false (by omega)
    have HL := Aside0.mk (show l.length ≤ 16777216 by omega)
    have HL4 := Aside0.mk (show l.length ≤ 4096 by omega)
    clear c0
    obtain ⟨f0, f1, hf⟩ : ∃ f0 f1, checkL l = (f0, f1) := ⟨_, _, rfl⟩
    by_cases hbad : f1 = 0
    · obtain ⟨rfl, rfl⟩ : f0 = 0 ∧ f1 = 0 := by
        have := check_zero (l := l) (by rw [hf]; exact hbad)
        rw [hf] at this
        injection this with h1 h2
        exact ⟨h1, h2⟩
      have HF := Aside0.mk hf
      clear hf hbad
      by_cases c5 : 4194304 < (encodeE l).length
      · have HLEN := Aside0.mk c5
        clear c5
        go_enter Try.func12, Try.ntmps12
        go_wp2_with (first
          | (go_at_call 40; have hcall := works_calls w; (with_reducible refine hcall.mono ?_); clear hcall; rintro xx w2 ⟨rfl, hb⟩; have HB := Aside0.mk hb; clear hb)
          | (go_at_call 34; have hcall := lendInss_calls _ A c l (Kd.C_below HR.out HB.out) HC.out HL.out; (with_reducible refine hcall.mono ?_); clear hcall; rintro xx w3 ⟨g1, rfl, hrow, hb, hge⟩; have HROW := Aside0.mk (ins_row hrow HMAX.out); have n1_ := Aside0.mk (below_step HB.out hb); clear HB hb hrow hge; have HB := n1_; clear n1_)
          | (go_at_call 35; have hcall := encode_calls (some ⟨g1, 0, none⟩) (l.length + 2) l _ HROW.out (by omega) HL47.out HSS.out; (with_reducible refine hcall.mono ?_); clear hcall; rintro xx w4 ⟨he, hb⟩; obtain rfl := enc_large he HF.out HLEN.out; have n1_ := Aside0.mk (below_step HB.out hb); clear HB he hb; have HB := n1_; clear n1_; have HX := Aside0.mk (Below.refl w4.heap.size w4)))
        go_ret
        exact ⟨rfl, HB.out⟩
      · have HLEN := Aside0.mk (show (encodeE l).length ≤ 4194304 by omega)
        obtain ⟨v0, v1, v2⟩ := (checkL_ok l).1 HF.out
        have HSM := Aside0.mk (encodeE_small l v1 (fun x hx => (rightB_ok (v2 x hx)).1) (fun x hx => (rightB_ok (v2 x hx)).2))
        obtain ⟨b, hb⟩ : ∃ b, encodeE l = b := ⟨_, rfl⟩
        have HBB := Aside0.mk hb
        rw [hb] at HSM HLEN
        rw [hb] at c5
        have HLEN' := HLEN
        clear HLEN
        have HLEN : Aside0 ((encodeE l).length ≤ 4194304) := ⟨by rw [hb]; exact HLEN'.out⟩
        clear c5 hb v0 v1 v2
        go_enter Try.func12, Try.ntmps12
        go_wp2_with (first
          | (go_at_call 40; have hcall := works_calls w; (with_reducible refine hcall.mono ?_); clear hcall; rintro xx w2 ⟨rfl, hb⟩; have HB := Aside0.mk hb; clear hb)
          | (go_at_call 34; have hcall := lendInss_calls _ A c l (Kd.C_below HR.out HB.out) HC.out HL.out; (with_reducible refine hcall.mono ?_); clear hcall; rintro xx w3 ⟨g1, rfl, hrow, hb, hge⟩; have HROW := Aside0.mk (ins_row hrow HMAX.out); have n1_ := Aside0.mk (below_step HB.out hb); clear HB hb hrow hge; have HB := n1_; clear n1_)
          | (go_at_call 35; have hcall := encode_calls (some ⟨g1, 0, none⟩) (l.length + 2) l _ HROW.out (by omega) HL47.out HSS.out; (with_reducible refine hcall.mono ?_); clear hcall; rintro xx w4 ⟨he, hb⟩; obtain ⟨vb, rfl, hown⟩ := enc_ok he HF.out HLEN.out; rw [HBB.out] at hown; obtain ⟨Ab, cb, rfl⟩ := own_len hown; have n1_ := Aside0.mk (below_step HB.out hb); clear HB he hb hown; have HB := n1_; clear n1_))
        go_loopw [5, 6, 7] (fun v5 v6 v7 wr => ∃ (i : Nat), v7 = .int .i64 (i : Int) ∧ Aside0 (i ≤ l.length) ∧ Aside0 (GS w wr v5 v6 ((l.take i).foldl addC []) ((l.take i).foldl addN []))) (fun v5 v6 v7 _ => l.length - (intOf v7).toNat)
        case atStart => exact ⟨0, rfl, ⟨Nat.zero_le _⟩, ⟨⟨HB.out, World.ownsRow_nil _ _ _ _, World.ownsRow_nil _ _ _ _⟩⟩⟩
        case round =>
          clear HB HROW
          obtain ⟨i, rfl, HI, HG⟩ := hrel
          by_cases c2 : i < l.length
          · have k2 : decide ((i : Int) < (l.length : Int)) = true := decide_eq_true (by omega)
            have k2n : decide (i < l.length) = true := decide_eq_true c2
            have q0n : (i < l.length) = True := eq_true c2
            have HIL := Aside0.mk c2
            obtain ⟨x, hx⟩ : ∃ x, rd_T78 l (i : Int) = x := ⟨_, rfl⟩
            have hget : l[i]? = some x := by
              rw [List.getElem?_eq_getElem c2, ← hx, rd_T78, List.getD_eq_getElem?_getD, Int.toNat_natCast, List.getElem?_eq_getElem c2]
              rfl
            have HX := Aside0.mk hx
            have hw1 : IntKind.i64.wrap ((i : Int) + 1) = ((i + 1 : Nat) : Int) := by rw [IntWalk.i64_in _ (by have := HL4.out; omega)]; omega
            have HSC : Aside0 ((l.take (i + 1)).foldl addC [] = addC ((l.take i).foldl addC []) x) := ⟨by rw [take_snoc hget, List.foldl_append]; rfl⟩
            have HSN : Aside0 ((l.take (i + 1)).foldl addN [] = addN ((l.take i).foldl addN []) x) := ⟨by rw [take_snoc hget, List.foldl_append]; rfl⟩
            have HSL : Aside0 (((l.take i).foldl addC []).length ≤ 4096 ∧ ((l.take i).foldl addN []).length ≤ 4096) := by
              have h1 := foldC_length (l.take i) []
              have h2 := foldN_length (l.take i) []
              have h3 := HL4.out
              rw [List.length_take, List.length_nil] at h1 h2
              exact ⟨by omega, by omega⟩
            generalize (l.take i).foldl addC [] = S at *
            generalize (l.take i).foldl addN [] = T at *
            obtain ⟨ad, he, x0, x1, x2, x3, x4, x5, x6⟩ := at_T78 (Kd.C_below HR.out HG.out.bel) (i : Int) (by omega) (by omega)
            rw [HX.out] at x0 x1 x2 x3 x4 x5 x6
            simp only [Int.toNat_natCast] at x0 x1 x2 x3 x4 x5 x6
            cases he
            clear hx hget c2
            by_cases kk2 : kindOf x.f0 = 2
            · obtain ⟨q, b1, b2⟩ := kind_two kk2
              have HK := Aside0.mk kk2
              obtain ⟨As, cs, rfl⟩ := own_len HG.out.s
              obtain ⟨At, ct, rfl⟩ := own_len HG.out.t
              clear kk2
              cases q
              case' false => have b3 := b2 rfl
              all_goals
                clear b2
                go_wp2
                go_loopw [8, 9] (fun v8 v9 wr => ∃ (k : Nat) (kn : Bool), v9 = .int .i64 (k : Int) ∧ v8 = .bool kn ∧ Aside0 (k ≤ S.length ∧ (kn = true ↔ clsI x ∈ S.take k)) ∧ Aside0 (GS w wr (.slice As S.length cs) (.slice At T.length ct) S T)) (fun v8 v9 _ => S.length - (intOf v9).toNat)
                case atStart => exact ⟨0, false, rfl, rfl, ⟨Nat.zero_le _, ⟨fun h => (by cases h), fun h => (by simp at h)⟩⟩, HG⟩
                case round =>
                  clear HG x0 x1 x2 x3 x4 x5 x6
                  obtain ⟨k, kn, rfl, rfl, HKK, HG⟩ := hrel
                  obtain ⟨ad', he, x0, x1, x2, x3, x4, x5, x6⟩ := at_T78 (Kd.C_below HR.out HG.out.bel) (i : Int) (by omega) (by have := HIL.out; omega); rw [HX.out] at x0 x1 x2 x3 x4 x5 x6; simp only [Int.toNat_natCast] at x0 x1 x2 x3 x4 x5 x6; cases he
                  by_cases c3 : k < S.length
                  · have k3 : decide ((k : Int) < (S.length : Int)) = true := decide_eq_true (by omega)
                    have k3n : decide (k < S.length) = true := decide_eq_true c3
                    have q3n : (k < S.length) = True := eq_true c3
                    obtain ⟨y, hy⟩ : ∃ y, S[k]? = some y := ⟨S[k], List.getElem?_eq_getElem c3⟩
                    have HY := Aside0.mk hy
                    have HC3 := Aside0.mk c3
                    have hw2 : IntKind.i64.wrap ((k : Int) + 1) = ((k + 1 : Nat) : Int) := by rw [IntWalk.i64_in _ (by have := HSL.out; omega)]; omega
                    obtain ⟨g, cp, he, hcl⟩ := cls_at HG.out.s hy
                    cases he
                    have hixS : ∀ W : World, (Instr.indexAt 85 (.slice (some ⟨g, 0, none⟩) S.length cs) (.int .i64 (k : Int))).run Try.prog W = .ok (.pointer (some ⟨g, k * 4, none⟩)) W :=
                      fun W => run_indexAt_own (P := Try.prog) (t := 85) (size := 4) Try.underlying85 (fun W => by kernel_rfl) g S.length cs k c3 W
                    have y0 := hcl 0 _ rfl
                    rw [Nat.add_zero] at y0
                    have y1 := hcl 1 _ rfl
                    have y2 := hcl 2 _ rfl
                    have y3 := hcl 3 _ rfl
                    obtain ⟨E, hE⟩ : ∃ E, decide (y = clsI x) = E := ⟨_, rfl⟩
                    have heq : ∀ (d : Nat) (W : World), (Op.equalIn (d + 2) 76 (.agg #[.int .u64 y.1, .int .u64 y.2.1, .int .u64 y.2.2.1, .int .u64 y.2.2.2]) (.agg #[.int .u64 x.f2.f0, .int .u64 x.f2.f1, .int .u64 x.f2.f2, .int .u64 x.f2.f3])).run Try.prog W = .ok E W := fun d W => by
                      rw [eqArr4 (P := Try.prog) Try.underlying76 Try.underlying74 (by kernel_rfl), ← hE, ← four_eq]
                      rfl
                    have HE := Aside0.mk hE
                    clear hcl hy c3 hE
                    cases kn with
                    | true =>
                      go_wp2
                      go_quiet (fail)
                      go_wp2
                      go_roundw
                      case measure => have := HC3.out; simp [intOf]; omega
                      case rel => exact ⟨k + 1, true, by go_num, rfl, ⟨HC3.out, ⟨fun _ => (take_mem HY.out).2 (.inl (HKK.out.2.1 (by first | exact trivial | exact rfl))), fun _ => rfl⟩⟩, ⟨HG.out.below (pw_below_drewN (Below.refl _ _) nq)⟩⟩
                    | false =>
                      go_wp2
                      go_quiet (fail)
                      go_wp2
                      go_roundw
                      case measure => have := HC3.out; simp [intOf]; omega
                      case rel => exact ⟨k + 1, E, by go_num, rfl, ⟨HC3.out, ⟨fun h => (take_mem HY.out).2 (.inr (of_decide_eq_true (HE.out.trans h))), fun h => by rcases (take_mem HY.out).1 h with h | h; exact absurd (HKK.out.2.2 h) (by decide); rw [← HE.out]; exact decide_eq_true h⟩⟩, ⟨HG.out.below (pw_below_drewN (Below.refl _ _) nq)⟩⟩
                  · have k3 : decide ((k : Int) < (S.length : Int)) = false := decide_eq_false (by omega)
                    obtain rfl : k = S.length := by have := HKK.out; omega
                    have HIN := Aside0.mk HKK.out.2
                    rw [List.take_length] at HIN
                    clear HKK c3
                    cases kn with
                    | true =>
                      go_wp2
                      go_roundw
                      case measure => have := HIL.out; simp [intOf]; omega
                      case rel => exact ⟨i + 1, by go_num, ⟨HIL.out⟩, by rw [HSC.out, HSN.out, addC, if_pos HK.out, addN, HK.out, once, if_pos (HIN.out.1 rfl)]; exact HG⟩
                    | false =>
                      go_wp2_with (first
                        | ((with_reducible refine gate_builtin (b := .append) (xs := #[.tmp 63, .tmp 69]) rfl ?_); at_builtin; refine print_append_cells w.heap.size rfl (.tmp 63) (.tmp 69) 85 76 (.agg #[.int .u64 0, .int .u64 0, .int .u64 0, .int .u64 0]) 4 32 rfl Try.underlying85 (by kernel_rfl) rfl (by decide) (by decide) (.slice As S.length cs) S.length (S.flatMap clsCells) (clsCells (clsI x)) rfl rfl rfl (by simp [clsCells, Value.oneCell']) HG.out.s (Below.refl _ _) HG.out.bel.size (by have := HSL.out; omega) ?_; intro v5 w5 hown hbel hgr hat; have n1_ := Aside0.mk (HG.out.addS hown hgr); clear HG hown hbel hgr hat x0 x1 x2 x3 x4 x5 x6; have HG := n1_; clear n1_))
                      go_roundw
                      case measure => have := HIL.out; simp [intOf]; omega
                      case rel => exact ⟨i + 1, by go_num, ⟨HIL.out⟩, by rw [HSC.out, HSN.out, addC, if_pos HK.out, addN, HK.out, once, if_neg (fun h => absurd (HIN.out.2 h) (by decide))]; exact HG⟩
            · by_cases kk3 : kindOf x.f0 = 3
              · obtain ⟨b1, b2, q, b12, b14⟩ := kind_three kk3
                have HK := Aside0.mk kk3
                obtain ⟨As, cs, rfl⟩ := own_len HG.out.s
                obtain ⟨At, ct, rfl⟩ := own_len HG.out.t
                clear kk2 kk3
                cases q
                case' false => have b3 := b14 rfl
                all_goals
                  clear b14
                  go_wp2
                  go_loopw [10, 11] (fun v10 v11 wr => ∃ (k : Nat) (kn : Bool), v11 = .int .i64 (k : Int) ∧ v10 = .bool kn ∧ Aside0 (k ≤ T.length ∧ (kn = true ↔ x.f3 ∈ T.take k)) ∧ Aside0 (GS w wr (.slice As S.length cs) (.slice At T.length ct) S T)) (fun v10 v11 _ => T.length - (intOf v11).toNat)
                  case atStart => exact ⟨0, false, rfl, rfl, ⟨Nat.zero_le _, ⟨fun h => (by cases h), fun h => (by simp at h)⟩⟩, HG⟩
                  case round =>
                    clear HG x0 x1 x2 x3 x4 x5 x6
                    obtain ⟨k, kn, rfl, rfl, HKK, HG⟩ := hrel
                    obtain ⟨ad', he, x0, x1, x2, x3, x4, x5, x6⟩ := at_T78 (Kd.C_below HR.out HG.out.bel) (i : Int) (by omega) (by have := HIL.out; omega); rw [HX.out] at x0 x1 x2 x3 x4 x5 x6; simp only [Int.toNat_natCast] at x0 x1 x2 x3 x4 x5 x6; cases he
                    by_cases c3 : k < T.length
                    · have k3 : decide ((k : Int) < (T.length : Int)) = true := decide_eq_true (by omega)
                      have k3n : decide (k < T.length) = true := decide_eq_true c3
                      have q3n : (k < T.length) = True := eq_true c3
                      obtain ⟨y, hy⟩ : ∃ y, T[k]? = some y := ⟨T[k], List.getElem?_eq_getElem c3⟩
                      have HY := Aside0.mk hy
                      have HC3 := Aside0.mk c3
                      have hw2 : IntKind.i64.wrap ((k : Int) + 1) = ((k + 1 : Nat) : Int) := by rw [IntWalk.i64_in _ (by have := HSL.out; omega)]; omega
                      obtain ⟨g, cp, he, y0⟩ := str_at HG.out.t hy
                      cases he
                      have hixT : ∀ W : World, (Instr.indexAt 86 (.slice (some ⟨g, 0, none⟩) T.length ct) (.int .i64 (k : Int))).run Try.prog W = .ok (.pointer (some ⟨g, k, none⟩)) W := fun W => by
                        have := run_indexAt_own (P := Try.prog) (t := 86) (size := 1) Try.underlying86 (fun W => by kernel_rfl) g T.length ct k c3 W
                        rwa [Nat.mul_one] at this
                      obtain ⟨E, hE⟩ : ∃ E, (y.toList == x.f3.toList) = E := ⟨_, rfl⟩
                      have HE := Aside0.mk (show E = true ↔ y = x.f3 by rw [← hE]; exact str_eq y x.f3)
                      clear hy c3
                      cases kn with
                      | true =>
                        go_wp2
                        go_quiet (fail)
                        go_wp2
                        go_roundw
                        case measure => have := HC3.out; simp [intOf]; omega
                        case rel => exact ⟨k + 1, true, by go_num, rfl, ⟨HC3.out, ⟨fun _ => (take_mem HY.out).2 (.inl (HKK.out.2.1 (by first | exact trivial | exact rfl))), fun _ => rfl⟩⟩, ⟨HG.out.below (pw_below_drewN (Below.refl _ _) nq)⟩⟩
                      | false =>
                        go_wp2
                        go_quiet (fail)
                        go_wp2
                        go_roundw
                        case measure => have := HC3.out; simp [intOf]; omega
                        case rel => exact ⟨k + 1, E, by go_num, rfl, ⟨HC3.out, ⟨fun h => (take_mem HY.out).2 (.inr (HE.out.1 h)), fun h => by rcases (take_mem HY.out).1 h with h | h; exact absurd (HKK.out.2.2 h) (by decide); exact HE.out.2 h⟩⟩, ⟨HG.out.below (pw_below_drewN (Below.refl _ _) nq)⟩⟩
                    · have k3 : decide ((k : Int) < (T.length : Int)) = false := decide_eq_false (by omega)
                      obtain rfl : k = T.length := by have := HKK.out; omega
                      have HIN := Aside0.mk HKK.out.2
                      rw [List.take_length] at HIN
                      clear HKK c3
                      cases kn with
                      | true =>
                        go_wp2
                        go_roundw
                        case measure => have := HIL.out; simp [intOf]; omega
                        case rel => exact ⟨i + 1, by go_num, ⟨HIL.out⟩, by rw [HSC.out, HSN.out, addC, HK.out, addN, if_pos HK.out, if_neg (by decide), once, if_pos (HIN.out.1 rfl)]; exact HG⟩
                      | false =>
                        go_wp2_with (first
                          | ((with_reducible refine gate_builtin (b := .append) (xs := #[.tmp 95, .tmp 101]) rfl ?_); at_builtin; refine print_append_cells w.heap.size rfl (.tmp 95) (.tmp 101) 86 9 (.string (⟨#[]⟩ : ByteArray)) 1 16 rfl Try.underlying86 (by kernel_rfl) rfl (by decide) (by decide) (.slice At T.length ct) T.length (T.map Value.string) [.string x.f3] rfl rfl rfl (by simp [Value.oneCell']) HG.out.t (Below.refl _ _) HG.out.bel.size (by have := HSL.out; omega) ?_; intro v5 w5 hown hbel hgr hat; have n1_ := Aside0.mk (HG.out.addT hown hgr); clear HG hown hbel hgr hat x0 x1 x2 x3 x4 x5 x6; have HG := n1_; clear n1_))
                        go_roundw
                        case measure => have := HIL.out; simp [intOf]; omega
                        case rel => exact ⟨i + 1, by go_num, ⟨HIL.out⟩, by rw [HSC.out, HSN.out, addC, HK.out, addN, if_pos HK.out, if_neg (by decide), once, if_neg (fun h => absurd (HIN.out.2 h) (by decide))]; exact HG⟩
              · obtain ⟨b1, b2, b3, b4⟩ := kind_else kk2 kk3
                have HK2 := Aside0.mk kk2
                have HK3 := Aside0.mk kk3
                clear kk2 kk3
                go_wp2
                go_roundw
                case measure => have := HIL.out; simp [intOf]; omega
                case rel => exact ⟨i + 1, by go_num, ⟨HIL.out⟩, by rw [HSC.out, HSN.out, addC, if_neg HK2.out, addN, if_neg HK3.out]; exact HG⟩
          · have k2 : decide ((i : Int) < (l.length : Int)) = false := decide_eq_false (by omega)
            obtain rfl : i = l.length := by have := HI.out; omega
            rw [List.take_length] at HG
            have hsm := HSM.out
            have hl4 := HL4.out
            have hlen := HLEN'.out
            have h1 := foldC_length l []
            have h2 := foldN_length l []
            rw [List.length_nil] at h1 h2
            generalize l.foldl addC [] = S at *
            generalize l.foldl addN [] = T at *
            have a1 : IntKind.i64.wrap (32 * (S.length : Int)) = 32 * (S.length : Int) := IntWalk.i64_in _ (by omega)
            have a2 : IntKind.i64.wrap (5 + 32 * (S.length : Int)) = 5 + 32 * (S.length : Int) := IntWalk.i64_in _ (by omega)
            have a3 : IntKind.i64.wrap (65 * (T.length : Int)) = 65 * (T.length : Int) := IntWalk.i64_in _ (by omega)
            have a4 : IntKind.i64.wrap (5 + 32 * (S.length : Int) + 65 * (T.length : Int)) = 5 + 32 * (S.length : Int) + 65 * (T.length : Int) := IntWalk.i64_in _ (by omega)
            have a5 : IntKind.i64.wrap (5 * (l.length : Int)) = 5 * (l.length : Int) := IntWalk.i64_in _ (by omega)
            have a6 : IntKind.i64.wrap (5 + 32 * (S.length : Int) + 65 * (T.length : Int) + 5 * (l.length : Int)) = 5 + 32 * (S.length : Int) + 65 * (T.length : Int) + 5 * (l.length : Int) := IntWalk.i64_in _ (by omega)
            have a7 : IntKind.i64.wrap (5 + 32 * (S.length : Int) + 65 * (T.length : Int) + 5 * (l.length : Int) + 19) = 5 + 32 * (S.length : Int) + 65 * (T.length : Int) + 5 * (l.length : Int) + 19 := IntWalk.i64_in _ (by omega)
            have a8 : IntKind.i64.wrap (12 + 32 * (S.length : Int)) = 12 + 32 * (S.length : Int) := IntWalk.i64_in _ (by omega)
            have a9 : IntKind.i64.wrap (12 + 32 * (S.length : Int) + (l.length : Int)) = 12 + 32 * (S.length : Int) + (l.length : Int) := IntWalk.i64_in _ (by omega)
            have t1 : decide ((b.length : Int) ≤ 5 + 32 * (S.length : Int) + 65 * (T.length : Int) + 5 * (l.length : Int) + 19) = true := decide_eq_true (by omega)
            have t2 : decide ((b.length : Int) ≥ 12 + 32 * (S.length : Int) + (l.length : Int)) = true := decide_eq_true (by omega)
            obtain ⟨As, cs, rfl⟩ := own_len HG.out.s
            obtain ⟨At, ct, rfl⟩ := own_len HG.out.t
            clear hsm hl4 hlen h1 h2
            go_wp2
            go_ret
            exact ⟨rfl, HG.out.bel⟩
    · have HF := Aside0.mk hf
      have HBAD := Aside0.mk hbad
      have b0 : (f1 != 0) = true := by simpa using hbad
      clear hf hbad
      go_enter Try.func12, Try.ntmps12
      go_wp2_with (first
        | (go_at_call 40; have hcall := works_calls w; (with_reducible refine hcall.mono ?_); clear hcall; rintro xx w2 ⟨rfl, hb⟩; have HB := Aside0.mk hb; clear hb)
        | (go_at_call 34; have hcall := lendInss_calls _ A c l (Kd.C_below HR.out HB.out) HC.out HL.out; (with_reducible refine hcall.mono ?_); clear hcall; rintro xx w3 ⟨g1, rfl, hrow, hb, hge⟩; have HROW := Aside0.mk (ins_row hrow HMAX.out); have n1_ := Aside0.mk (below_step HB.out hb); clear HB hb hrow hge; have HB := n1_; clear n1_)
        | (go_at_call 35; have hcall := encode_calls (some ⟨g1, 0, none⟩) (l.length + 2) l _ HROW.out (by omega) HL47.out HSS.out; (with_reducible refine hcall.mono ?_); clear hcall; rintro xx w4 ⟨he, hb⟩; obtain rfl := enc_bad he HF.out HBAD.out; have n1_ := Aside0.mk (below_step HB.out hb); clear HB he hb; have HB := n1_; clear n1_; have HX := Aside0.mk (Below.refl w4.heap.size w4)))
      go_ret
      exact ⟨rfl, HB.out⟩
end
end Go.Proofs.Ytebiogaacikphaa.Pack
end
