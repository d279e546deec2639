/- Parts of the proof of coreOrder: BuildRule. No condition beyond each lemma's own. -/
import Derived.Recover
import Derived.Tactics2
import Derived.Test.YtihiicjnjhideaaDoorTO27
section
namespace Go.Proofs.YtihiicjnjhideaaDoor.Build
open Go.RowKit Go.Proofs.YtihiicjnjhideaaDoorW.PrintWords Go.Proofs.YtihiicjnjhideaaDoor.PAll Go.Proofs.YtihiicjnjhideaaDoor.Core
set_option linter.unusedVariables false
set_option linter.unusedSimpArgs false
def gaveUp : List PanicEntry := [{ v := .iface 84 (.agg #[]), recovered := true }]
section
variable (g4 g5 : Nat) (w : World)
set_option maxHeartbeats 8000000 in
set_option maxRecDepth 100000 in
theorem rule1_idle : CallsD Tryd.prog 30 #[.pointer (some ⟨g4, 0, none⟩), .pointer (some ⟨g5, 0, none⟩)] .returning w fun e u' w' => e = .returned (.tuple #[]) ∧ u' = .returning ∧ w' = w := by
 refine callsD_of_wpS Tryd.func30 rfl fun c₀ cs hu => ?_
 apply wpS_seq
 apply wpS_region
 simp [wpOpsS, go_sem, recoverD, hu, Tryd.ntmps30, Exit.thenS]
 refine wpS_of_wp ?_
 go_wp2
 cases c₀
 simp_all [bodyPostS, results, Tryd.results30]
set_option maxHeartbeats 8000000 in
set_option maxRecDepth 100000 in
theorem rule1_caught {v4 v5 : Value} (h4 : RowAt w g4 42 [v4]) (h5 : RowAt w g5 4 [v5]) (hne : g4 ≠ g5) (w0 : World) (h0 : Below w0.heap.size w0 w) (hge : w0.heap.size ≤ g4 ∧ w0.heap.size ≤ g5) : CallsD Tryd.prog 30 #[.pointer (some ⟨g4, 0, none⟩), .pointer (some ⟨g5, 0, none⟩)] (.panicking tooMuch) w fun e u' w' => e = .returned (.tuple #[]) ∧ u' = .panicking gaveUp ∧ RowAt w' g4 42 [.slice none 0 0] ∧ RowAt w' g5 4 [.bool false] ∧ Below w0.heap.size w0 w' := by
 refine callsD_of_wpS Tryd.func30 rfl fun c₀ cs hu => ?_
 apply wpS_seq
 apply wpS_region
 simp [wpOpsS, go_sem, recoverD, hu, tooMuch, Tryd.ntmps30, Exit.thenS]
 refine wpS_of_wp ?_
 have hta : ∀ W : World, (Instr.typeAssert (.iface 84 (.agg #[])) 20 84 true).run Tryd.prog W = .ok (.tuple #[.agg #[], .bool true]) W := fun W => by kernel_rfl
 have H4 := aK h4
 have H5 := aK h5
 have HNE := aK hne
 have HU := aK hu
 have H0 := aK h0
 have HGE := aK hge
 clear h4 h5 hne hu h0 hge
 go_wp2_with (first
  | ((with_reducible refine gate_dst (N := 3) rfl ?_); refine box_event (N := 3) rfl rfl (cs := #[]) (t := 84) ?hr3 ?_; (case hr3 => first | (go_simp; done) | (go_simp; rfl)); intro g3 hg3 w3 hbox hb3; have n1_ := aK (H4.out.below hb3); have n2_ := aK (H5.out.below hb3); have HB3 := aK hb3; have HBX := aK hbox; clear H4 H5 hb3 hbox hg3; have H4 := n1_; have H5 := n2_; clear n1_ n2_)
  | ((with_reducible refine gate_store (t := 42) (p := 0) rfl ?_); refine put_event rfl rfl 42 (.tmp 0) (.const (.slice none 0 0)) rfl (g := g4) (off := 0) (u := .slice none 0 0) (seg := [.slice none 0 0]) rfl rfl H4.out rfl (by kernel_rfl) (Nat.le_refl _) (by simp [Value.oneCell']) ?_; intro w6 hrow hg6; have n1_ := aK (show RowAt w6 g4 42 [.slice none 0 0] from hrow); have n2_ := aK (H5.out.grown hg6 (by have := HNE.out; simp; omega)); have HG6 := aK hg6; clear H4 H5 hrow hg6; have H4 := n1_; have H5 := n2_; clear n1_ n2_)
  | ((with_reducible refine gate_store (t := 4) (p := 1) rfl ?_); refine put_event rfl rfl 4 (.tmp 1) (.const (.bool false)) rfl (g := g5) (off := 0) (u := .bool false) (seg := [.bool false]) rfl rfl H5.out rfl (by kernel_rfl) (Nat.le_refl _) (by simp [Value.oneCell']) ?_; intro w7 hrow hg7; have n1_ := aK (show RowAt w7 g5 4 [.bool false] from hrow); have n2_ := aK (H4.out.grown hg7 (by have := HNE.out; simp; omega)); have HG7 := aK hg7; clear H4 H5 hrow hg7; have H5 := n1_; have H4 := n2_; clear n1_ n2_))
 refine ⟨rfl, .panicking gaveUp, rfl, .tuple #[], by simp [results, Tryd.results30], rfl, rfl, H4.out, H5.out, ?_⟩
 have h1 := below_step H0.out HB3.out
 have h2 := pw_below_grown h1 _ h1.size HG6.out (fun k hk => by cases hk; exact HGE.out.1)
 exact pw_below_grown h2 _ h2.size HG7.out (fun k hk => by cases hk; exact HGE.out.2)
end
/-- A rule's body, laid, if it fits. -/
def ruleL (left : Int) (NM : ByteArray → Int) (t : T) : Option (List CN) := (layT left NM t).bind fun l => if (l.length : Int) ≤ left then some l else none
def RuleE (base gb gm : Nat) (left : Int) (w' : World) (o : Option (List CN)) (e : Ending) : Prop := match o with
 | some l => ∃ v, e = .returned (.tuple #[v, .bool true]) ∧ Own w' base v l ∧ RowAt w' gb 66 [.map (some gm), .int .i64 (left - l.length)]
 | none => ∃ v, e = .returned (.tuple #[v, .bool false])
theorem own_put {w w' : World} {b g : Nat} {e : TypeId} {v : Value} {l : List CN} {cs : List Value} (h : Own w b v l) (hr : RowAt w g e cs) (he : e ≠ 55) (hg : w.grownBy w' (some g)) : Own w' b v l := by
 obtain ⟨inner, hi⟩ := Kd.R_own h
 refine Kd.R_step (ok := fun k => v.ownBlock = some k) ⟨fun k hk => hk, h.2⟩ (fun k hk hlt => hg.block k hlt (fun e2 => ?_)) |>.imp (fun _ _ _ => trivial) id
 obtain ⟨c0, e0⟩ := own_typed hi k hk
 obtain ⟨cur, e1, _⟩ := hr
 injection e2 with e2
 rw [e2, e1] at e0
 injection e0 with e0
 injection e0 with _ e0
 exact he e0
theorem own_go {w w' : World} {b : Nat} {v : Value} {l : List CN} (h : Own w b v l) (hb : Below w.heap.size w w') : Own w' b v l := Kd.R_below h hb
end Go.Proofs.YtihiicjnjhideaaDoor.Build
end
