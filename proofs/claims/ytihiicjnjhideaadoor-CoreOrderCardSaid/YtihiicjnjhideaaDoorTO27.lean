/- Parts of the proof of coreOrder: BuildNode. No condition beyond each lemma's own. -/
import Derived.Test.YtihiicjnjhideaaDoorTO23
import Derived.Test.YtihiicjnjhideaaDoorTO24
import Derived.Test.YtihiicjnjhideaaDoorTO25
import Derived.Test.YtihiicjnjhideaaDoorTO26
section
namespace Go.Proofs.YtihiicjnjhideaaDoor.Build
open Go.RowKit Go.Proofs.YtihiicjnjhideaaDoorW.PrintWords Go.Proofs.YtihiicjnjhideaaDoor.PAll Go.Proofs.YtihiicjnjhideaaDoor.Core
set_option linter.unusedVariables false
set_option linter.unusedSimpArgs false
/-- A node that may be, with a text that fits. -/
structure OkN (x : EN) : Prop where
 may : May x
 text : x.f2.size ≤ 140737488351232
theorem node_step {gb gm : Nat} {left : Int} {NM : ByteArray → Int} {nd : EN} {ps : List T} (hl : left ≤ 16384) (hp : ∀ t ∈ ps, NodeOk gb gm left NM t) (hw : wfT (.mk nd ps)) (ho : OkN nd) : NodeOk gb gm left NM (.mk nd ps) := fun ad n c w hb hr hc hn => by
 have hin : NodeIn gb gm left NM nd ps ad n c w := ⟨hp, hw, ho.may, ho.text, hl, hb, hr, hc, hn⟩
 have h1 := ho.may.lo
 have h2 := ho.may.hi
 by_cases h0 : nd.f0 = 0
 ·exact node_0 gb gm left NM nd ps ad n c w hin h0
 by_cases h0 : nd.f0 = 1
 ·exact node_1 gb gm left NM nd ps ad n c w hin h0
 by_cases h0 : nd.f0 = 2
 ·exact node_2 gb gm left NM nd ps ad n c w hin h0
 by_cases h0 : nd.f0 = 3
 ·exact node_3 gb gm left NM nd ps ad n c w hin h0
 by_cases h0 : nd.f0 = 4
 ·exact node_4 gb gm left NM nd ps ad n c w hin h0
 by_cases h0 : nd.f0 = 5
 ·exact node_5 gb gm left NM nd ps ad n c w hin h0
 by_cases h0 : nd.f0 = 6
 ·exact node_6 gb gm left NM nd ps ad n c w hin h0
 by_cases h0 : nd.f0 = 7
 ·exact node_7 gb gm left NM nd ps ad n c w hin h0
 by_cases h0 : nd.f0 = 8
 ·exact node_8 gb gm left NM nd ps ad n c w hin h0
 by_cases h0 : nd.f0 = 9
 ·exact node_9 gb gm left NM nd ps ad n c w hin h0
 by_cases h0 : nd.f0 = 10
 ·exact node_10 gb gm left NM nd ps ad n c w hin h0
 by_cases h0 : nd.f0 = 11
 ·by_cases h6 : nd.f6 = 0
  ·exact node_11z gb gm left NM nd ps ad n c w hin h0 h6
  ·exact node_11 gb gm left NM nd ps ad n c w hin h0 h6
 by_cases h0 : nd.f0 = 12
 ·exact node_12 gb gm left NM nd ps ad n c w hin h0
 by_cases h0 : nd.f0 = 13
 ·exact node_13 gb gm left NM nd ps ad n c w hin h0
 exact node_14 gb gm left NM nd ps ad n c w hin (by omega)
mutual
theorem node_t {gb gm : Nat} {left : Int} {NM : ByteArray → Int} (hl : left ≤ 16384) : ∀ t : T, wfT t → (∀ x ∈ flatT t, OkN x) → NodeOk gb gm left NM t
 | .mk nd ps, hw, ho => by
  have hw2 := hw
  rw [wfT] at hw2
  rw [flatT] at ho
  exact node_step hl (node_f hl ps hw2.2 (fun x hx => ho x (List.mem_append_left _ hx))) hw (ho nd (List.mem_append_right _ (List.mem_singleton.2 rfl)))
theorem node_f {gb gm : Nat} {left : Int} {NM : ByteArray → Int} (hl : left ≤ 16384) : ∀ ps : List T, wfF ps → (∀ x ∈ flatF ps, OkN x) → ∀ t ∈ ps, NodeOk gb gm left NM t
 | [], _, _ => fun t ht => by simp at ht
 | s :: ps, hw, ho => fun t ht => by
  rw [wfF] at hw
  rw [flatF] at ho
  rcases List.mem_cons.1 ht with e | ht
  ·rw [e]; exact node_t hl s hw.1 (fun x hx => ho x (List.mem_append_left _ hx))
  ·exact node_f hl ps hw.2 (fun x hx => ho x (List.mem_append_right _ hx)) t ht
end
end Go.Proofs.YtihiicjnjhideaaDoor.Build
end
