/- Parts of the proof of packBack and packOne and packCuts and packSpoilt and packSmall: PackLaws. No condition beyond each lemma's own. -/
import Derived.Test.YtebiogaacikphaaTQ21
section
namespace Go.Proofs.Ytebiogaacikphaa.Pack
open Go.RowKit Go.Proofs.YtebiogaacikphaaW.PrintWords Go.Proofs.Ytebiogaacikphaa.PAll Go.Proofs.Ytebiogaacikphaa.Names
set_option linter.unusedVariables false
theorem enc_bad {w w' : World} {l : List Ins} {x : Ending} {f0 f1 : Int} (h : EncOut w w' l x) (hf : checkL l = (f0, f1)) (hb : f1 ≠ 0) : x = .returned (.tuple #[.slice none 0 0, .int .i64 f1]) := by
  rcases h with ⟨_, h⟩ | ⟨h, _⟩ | ⟨h, _⟩
  · rw [hf] at h; exact h
  · rw [hf] at h; injection h with _ h; exact absurd h hb
  · rw [hf] at h; injection h with _ h; exact absurd h hb
theorem enc_large {w w' : World} {l : List Ins} {x : Ending} (h : EncOut w w' l x) (hf : checkL l = (0, 0)) (hb : 4194304 < (encodeE l).length) : x = .returned (.tuple #[.slice none 0 0, .int .i64 2]) := by
  rcases h with ⟨h, _⟩ | ⟨_, _, h⟩ | ⟨_, h, _⟩
  · rw [hf] at h; exact absurd rfl h
  · exact h
  · omega
theorem enc_ok {w w' : World} {l : List Ins} {x : Ending} (h : EncOut w w' l x) (hf : checkL l = (0, 0)) (hb : (encodeE l).length ≤ 4194304) : ∃ v, x = .returned (.tuple #[v, .int .i64 0]) ∧ w'.ownsRow w.heap.size 5 1 v (encodeE l).length (nums .u8 (encodeE l)) := by
  rcases h with ⟨h, _⟩ | ⟨_, h, _⟩ | ⟨_, _, h⟩
  · rw [hf] at h; exact absurd rfl h
  · omega
  · exact h
/-- A right program's bytes, read. -/
theorem decode_right {l : List Ins} (hf : checkL l = (0, 0)) (hok : InssOk l) (hb : (encodeE l).length ≤ 4194304) : decodeL (encodeE l) = .ok l ∧ ByteL (encodeE l) ∧ 9 ≤ (encodeE l).length := by
  obtain ⟨h0, h1, h2⟩ := (checkL_ok l).1 hf
  exact ⟨decode_back l h0 h1 (fun x hx => (rightB_ok (h2 x hx)).1) (fun x hx _ => (hok.2 x hx).1) (fun x hx k => (rightB_ok (h2 x hx)).2 k) hb, byteL_encode (fun x hx => (rightB_ok (h2 x hx)).1.op), by rw [encodeE_length]; omega⟩
end Go.Proofs.Ytebiogaacikphaa.Pack
end
