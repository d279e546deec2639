/- Proves that the Go function dowellaw09.CoreGrammars returns true for every input whose bulk is within the row's bound, and leaves its arguments as they read. No condition beyond the row's own. -/
import Derived.Below
import Derived.Carry
import Derived.ChangeOld
import Derived.Deep.CondSized
import Derived.JoinedCond
import Derived.OpenShut
import Derived.ProofKit
import Derived.ShutString
import Derived.SizedLaws
import Derived.Test.YtebiogaacikphaaRows
import Derived.WalkKit
import Derived.Test.YtebiogaacikphaaTG36
section
namespace Go.Proofs.Ytebiogaacikphaa.coreGrammars
open Go.ChangeShapes Go.WideShapes Go.ChangeAt Go.RowKit Go.Proofs.YtebiogaacikphaaW.PrintWords Go.Proofs.Ytebiogaacikphaa.Core Go.Proofs.Ytebiogaacikphaa.PAll
set_option linter.unusedVariables false
theorem sizeL_mem : ∀ (l : List Rule) (r : Rule), r ∈ l → (r.f1.length : Int) ≤ sizeL l
  | x :: l, r, h => by
    have h0 := sizeL_nonneg l
    rw [sizeL]
    rcases List.mem_cons.1 h with rfl | h
    · omega
    · have := sizeL_mem l r h
      omega
theorem law_calls (A : Option Addr) (c : Nat) (l : List Rule) (st : Int) (w : World) (hr : Kd.C k30 w A l.length l) (hc : l.length ≤ c) (hf : Fit l) :
    Calls Try.prog 7 #[.agg #[.slice A l.length c, .int .i64 st]] w fun e w' => e = .returned (.bool true) ∧ Below w.heap.size w w' := by
  by_cases c1 : (l.length : Int) > 65536
  · exact CoreGrammars_big A c l st w c1
  obtain ⟨k1, h1⟩ := size_ev l st hf (by omega)
  by_cases c2 : sizeL l > 1048576
  · exact CoreGrammars_wide k1 _ A c l st w hr hc (by omega) (h1 k1 (Nat.le_refl _)) c2
  have hm : ∀ r ∈ l, r.f1.length ≤ 1048576 := fun r hr => by
    have := sizeL_mem l r hr
    omega
  have hcr := cnt_right l st
  have hcl := cnt_le l st
  obtain ⟨k2, h2⟩ := refgrammar_ev l st hf
  obtain ⟨k3, h3⟩ := grammars_ev (rulesOut l (cntG l st)) (by rw [rulesOut_len]; omega) (rulesOut_parts l _ hcr.2)
  obtain ⟨k5, h5⟩ := cores_ev l st hf
  exact CoreGrammars_calls (k1 + k2 + k3 + k5) (cntG l st) (sizeL l) _ A c l st w hr hc (by omega) (h1 _ (by omega)) (by omega) hm hf rfl rfl hcr.1 hcr.2 ((h2 _ (by omega)).trans (congrArg some (refOut_eq l st))) (h3 _ (by omega)) (h5 _ (by omega))
theorem own : ownKnob Try.prog.godebug = none := by kernel_rfl
theorem laidOut : laidOutB Try.prog = true := by kernel_rfl
set_option maxRecDepth 100000 in
/-- What the walk gives, whatever the input's bulk. -/
theorem contract (H : Type) (enc : TypeId × Value → H) (W : World) (base : Nat) (args : Array Value) (ds gs : List (DataW H)) (before : List MemPlace)
    (hval0 : ∀ (j : Nat) t v, Try.f7.params[j]? = some t → args[j]? = some v → Value.okWide Try.prog W .any base t v)
    (hW : DataW.Whole enc Try.prog Try.f7.params.toList Rows.coreGrammarsSpec.vars false W args.toList ds gs before)
    (hsz0 : (DataW.weightsEach Try.prog (Try.f7.params.toList ++ Rows.coreGrammarsSpec.plain.varTypes Try.prog) (ds ++ gs)).all (· ≤ reachBytes) = true) :
    Calls Try.prog 7 args W fun e W' => ∃ v, e = .returned v ∧ Rows.coreGrammarsSpec.post enc Try.prog Try.f7 false true false false W args v W' := by
  have hsz : (DataW.weightsEach Try.prog (Try.f7.params.toList ++ Rows.coreGrammarsSpec.plain.varTypes Try.prog) (ds ++ gs)).all (· ≤ reachBytes) = true := hsz0
  have hval : ∀ (j : Nat) t v, Try.f7.params[j]? = some t → args[j]? = some v → Value.okWide Try.prog W .any base t v := hval0
  have hW' := hW
  obtain ⟨p, q, hA0, hV, rfl, hfz, hnd⟩ := hW
  have hA : DataW.TrodAll enc Try.prog W 0 (fun _ => true) true Try.f7.params.toList args.toList ds p := hA0
  rw [Try.params7] at hA hval hsz
  obtain ⟨v0, vs0, d0, ds0, p0, q0, hargs, rfl, rfl, h0, r0⟩ := trodAll_cons hA
  obtain ⟨rfl, rfl, rfl⟩ := trodAll_nil r0
  obtain rfl : args = #[v0] := by cases args; simp_all
  obtain ⟨rfl, rfl⟩ := trodVars_none hV
  obtain ⟨A0, c0, l0, st, rfl, hC0, hl0, ws, ho0⟩ := open_core (hval 0 24 v0 rfl rfl) h0 (fun n hn => of_decide_eq_true (List.all_eq_true.1 hsz n (DataW.weights_mem_each (j := 0) rfl rfl n hn)))
  have lt0 : ∀ x ∈ p0, x.block < W.heap.size := by obtain ⟨m, hm⟩ := h0; exact DataW.trod_lt m _ _ _ hm
  clear hA0 hval0 hsz0 hsz
  refine (law_calls A0 c0 l0 st W hC0 hl0 (fit_of ho0)).mono fun e W' ⟨he, bel⟩ => ?_
  subst he
  exact ⟨_, rfl, _, _, _, [], _, [], hW', trodAll_mk1 (shut_bool Try.underlying4 _), (trodAll_cons_mk (Below.trod laidOut (by kernel_rfl) (of_decide_eq_true (by kernel_rfl)) h0 bel lt0) trodAll_mk0), rfl, bel.frame _, fun h => by cases h⟩
set_option maxRecDepth 100000 in
theorem lifted (os : Os) (started : os.Started) (H : Type) (enc : TypeId × Value → H) (F : Stop.Interp) :
    ReturnsInHanded {} Try.checked os 7 .any ((Rows.OpenSpec.upto Rows.coreGrammarsSpec).pre6 enc Try.prog Try.f7 Rows.coreGrammarsUptoRow.domain false) (((Rows.OpenSpec.upto Rows.coreGrammarsSpec).at F).post enc Try.prog Try.f7 false true false false) := by
  refine returnsInHanded_of_cond_sized (C := Try.checked) (s := Rows.OpenSpec.upto Rows.coreGrammarsSpec) (k := Rows.uptoSmall) rfl own started (by kernel_rfl) Try.func7
    (OpenSpec.witness (enc := enc) (C := Try.checked) (s := Rows.OpenSpec.upto Rows.coreGrammarsSpec) (k := Rows.uptoSmall) rfl false ⟨#[], #[.agg #[.slice none 0 0, .int .i64 0]], []⟩ 8 (by kernel_rfl) (by kernel_rfl) (by kernel_rfl)
      (x := ([.agg [.nil, .lit (.int .i64 0)]], [], [])) (by kernel_rfl) rfl (by kernel_rfl)) ?_
  intro W base args ds gs before hval hW _ _ hsz _
  exact contract H enc W base args ds gs before hval hW hsz
theorem over : Rows.coreGrammarsUptoRow.holds Try.pinned (Rows.OpenSpec.upto Rows.coreGrammarsSpec) :=
  OpenClaim.holds_of_cond 7 Try.f7 rfl rfl rfl rfl rfl rfl rfl ⟨rfl, rfl, rfl, rfl, rfl⟩ rfl rfl rfl rfl rfl (by kernel_rfl) Try.func7 (by kernel_rfl)
    (of_decide_eq_true (by kernel_rfl)) (by unfold Func.isWrapper; first | (rw [if_pos (by decide +kernel)]; kernel_rfl) | (rw [if_neg (by decide +kernel)]; exact ⟨rfl, rfl⟩))
    (fun os started H enc _ F => lifted os started H enc F)
theorem proved : Rows.CoreGrammarsUptoSaid := over
end Go.Proofs.Ytebiogaacikphaa.coreGrammars
end
