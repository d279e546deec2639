/- Parts of the proof of packEncodes: Held. No condition beyond each lemma's own. -/
import Derived.Test.YtebiogaacikphaaTE6
import Derived.Test.YtebiogaacikphaaTE8
import Derived.Test.YtebiogaacikphaaTE11
import Derived.Test.YtebiogaacikphaaTE13
import Derived.Test.YtebiogaacikphaaTE16
import Derived.Test.YtebiogaacikphaaTE17
import Derived.Test.YtebiogaacikphaaTE19
section
namespace Go.Proofs.Ytebiogaacikphaa.Pack
open Go.RowKit Go.Proofs.YtebiogaacikphaaW.PrintWords Go.Proofs.Ytebiogaacikphaa.PAll Go.Proofs.Ytebiogaacikphaa.Names
set_option linter.unusedVariables false
set_option linter.unusedSimpArgs false
/-- What holds, and stays while elder blocks stay. -/
structure Hold (p : World → Prop) (W : World) : Prop where
  at_ : p W
  st : ∀ W1 W2, p W1 → Below W1.heap.size W1 W2 → p W2
theorem Hold.below {p : World → Prop} {W W' : World} (h : Hold p W) (hb : Below W.heap.size W W') : Hold p W' := ⟨h.st _ _ h.at_ hb, h.st⟩
theorem Hold.and {p q : World → Prop} {W : World} (h : Hold p W) (k : Hold q W) : Hold (fun W => p W ∧ q W) W := ⟨⟨h.at_, k.at_⟩, fun W1 W2 h1 hb => ⟨h.st _ _ h1.1 hb, k.st _ _ h1.2 hb⟩⟩
theorem Hold.row {W : World} {g : Nat} {e : TypeId} {cs : List Value} (h : RowAt W g e cs) : Hold (fun W => RowAt W g e cs) W := ⟨h, fun _ _ h hb => h.below hb⟩
theorem Hold.own {W : World} {base : Nat} {e : TypeId} {size n : Nat} {v : Value} {xs : List Value} (h : W.ownsRow base e size v n xs) : Hold (fun W => W.ownsRow base e size v n xs) W := ⟨h, fun _ _ h hb => own_kept h (fun k e => hb.block k (own_lt h k e))⟩
theorem Hold.old {w W : World} (h : Below w.heap.size w W) : Hold (fun W => Below w.heap.size w W) W := ⟨h, fun _ _ h hb => below_step h hb⟩
theorem Hold.size {n : Nat} {W : World} (h : n ≤ W.heap.size) : Hold (fun W => n ≤ W.heap.size) W := ⟨h, fun _ _ h hb => Nat.le_trans h hb.size⟩
def pickB {α : Type} (a b c : α) : Nat → α
  | 0 => a
  | 1 => b
  | _ => c
theorem pickB_le {a b c n : Nat} (ha : a ≤ n) (hb : b ≤ n) (hc : c ≤ n) : ∀ j, j < 3 → pickB a b c j ≤ n := fun j hj => by
  obtain rfl | rfl | rfl : j = 0 ∨ j = 1 ∨ j = 2 := by omega
  · exact ha
  · exact hb
  · exact hc
theorem F1B.start {base gl s1 s2 : Nat} {W : World} {Aa Ab Ac : Option Addr} {na nb nc ca cb cc : Nat} {la lb lc : List Int} (hbs : base ≤ W.heap.size) (hrow : RowAt W gl 37 [.slice Aa na ca, .slice Ab nb cb, .slice Ac nc cc])
    (ha : W.ownsRow base 5 1 (.slice Aa na ca) na (nums .u8 la)) (hb : W.ownsRow base 5 1 (.slice Ab nb cb) nb (nums .u8 lb)) (hc : W.ownsRow base 5 1 (.slice Ac nc cc) nc (nums .u8 lc))
    (hla : la.length = na) (hlb : lb.length = nb) (hlc : lc.length = nc) (h12 : s1 ≤ s2) (h2g : s2 ≤ gl)
    (h1 : ∀ k, (Value.slice Aa na ca).ownBlock = some k → k < s1) (h2 : ∀ k, (Value.slice Ab nb cb).ownBlock = some k → s1 ≤ k ∧ k < s2) (h3 : ∀ k, (Value.slice Ac nc cc).ownBlock = some k → s2 ≤ k ∧ k < gl) :
    F1B base W W (fun k => if k < s1 then 0 else if k < s2 then 1 else if k < gl then 2 else 3) gl (pickB Aa Ab Ac) (pickB na nb nc) (pickB ca cb cc) (pickB la lb lc) := by
  refine ⟨Below.refl _ _, hbs, hrow, by rw [if_neg (by omega), if_neg (by omega), if_neg (by omega)], fun j hj => ?_, fun j hj k hk => ?_, fun j hj => ?_⟩
  · rw [bEnc_nums]
    obtain rfl | rfl | rfl : j = 0 ∨ j = 1 ∨ j = 2 := by omega
    · exact ha
    · exact hb
    · exact hc
  · obtain rfl | rfl | rfl : j = 0 ∨ j = 1 ∨ j = 2 := by omega
    · exact ⟨own_lt ha k hk, by have := h1 k hk; simp only [if_pos this]⟩
    · have := h2 k hk
      exact ⟨own_lt hb k hk, by rw [if_neg (by omega), if_pos this.2]⟩
    · have := h3 k hk
      exact ⟨own_lt hc k hk, by rw [if_neg (by omega), if_neg (by omega), if_pos this.2]⟩
  · obtain rfl | rfl | rfl : j = 0 ∨ j = 1 ∨ j = 2 := by omega
    · exact hla
    · exact hlb
    · exact hlc
/-- Encode's bytes and code. -/
def encBytes (l : List Ins) : List Int := if checkL l = (0, 0) ∧ (encodeE l).length ≤ 4194304 then encodeE l else []
def encCode (l : List Ins) : Int := if checkL l = (0, 0) then (if (encodeE l).length ≤ 4194304 then 0 else 2) else (checkL l).2
theorem encBytes_len (l : List Ins) : (encBytes l).length ≤ 4194304 := by
  unfold encBytes
  split
  · rename_i h; exact h.2
  · simp
theorem EncOut.one {w w' : World} {l : List Ins} {x : Ending} (h : EncOut w w' l x) : ∃ A c, x = .returned (.tuple #[.slice A (encBytes l).length c, .int .i64 (encCode l)]) ∧ (encBytes l).length ≤ c ∧ w'.ownsRow w.heap.size 5 1 (.slice A (encBytes l).length c) (encBytes l).length (nums .u8 (encBytes l)) := by
  rcases h with ⟨h, rfl⟩ | ⟨h0, h1, rfl⟩ | ⟨h0, h1, v, rfl, ho⟩
  · have h0 : ¬ checkL l = (0, 0) := fun e => h (by rw [e])
    have e1 : encBytes l = [] := if_neg (fun e => h0 e.1)
    have e2 : encCode l = (checkL l).2 := if_neg h0
    rw [e1, e2]
    exact ⟨none, 0, rfl, Nat.le_refl _, World.ownsRow_nil _ _ _ _⟩
  · have e1 : encBytes l = [] := if_neg (fun e => by omega)
    have e2 : encCode l = 2 := (if_pos h0).trans (if_neg (by omega))
    rw [e1, e2]
    exact ⟨none, 0, rfl, Nat.le_refl _, World.ownsRow_nil _ _ _ _⟩
  · have e1 : encBytes l = encodeE l := if_pos ⟨h0, h1⟩
    have e2 : encCode l = 0 := (if_pos h0).trans (if_pos h1)
    rw [e1, e2]
    obtain ⟨A, c, rfl, hc, _⟩ := bytes_get ho
    exact ⟨A, c, rfl, hc, ho⟩
end Go.Proofs.Ytebiogaacikphaa.Pack
end
