/- Parts of the proof of packBack and packOne and packCuts and packSpoilt and packSmall: Cuts. No condition beyond each lemma's own. -/
import Derived.Test.YtebiogaacikphaaTQ26
section
namespace Go.Proofs.Ytebiogaacikphaa.Pack
open Go.RowKit Go.Proofs.YtebiogaacikphaaW.PrintWords Go.Proofs.Ytebiogaacikphaa.PAll Go.Proofs.Ytebiogaacikphaa.Names
set_option linter.unusedVariables false
theorem miss_cut : ∀ (m r : List Int) (i k : Nat), missL i m ((m ++ r).take k) = none
  | [], r, i, k => by unfold missL; rfl
  | x :: m, r, i, 0 => by rw [List.take_zero]; unfold missL; rfl
  | x :: m, r, i, k + 1 => by
    rw [List.cons_append, List.take_succ_cons, missL, if_pos rfl]
    exact miss_cut m r (i + 1) k
theorem miss_encode (l : List Ins) (k : Nat) : missL 0 magicL ((encodeE l).take k) = none := by
  rw [encodeE, List.append_assoc]
  exact miss_cut magicL _ 0 k
theorem cut_short {l : List Ins} {b : List Int} (hb : encodeE l = b) {k : Nat} (hk : k < 9) (hkb : k < b.length) : decodeL (b.take k) = .error ((k : Int), 200) := by
  have hlen : (b.take k).length = k := by rw [List.length_take]; omega
  have hf : framedL (b.take k) = ((k : Int), 200) := by
    unfold framedL
    rw [if_neg (by omega), ← hb, miss_encode, hb]
    dsimp only
    rw [if_pos (by omega), hlen]
  rw [decodeL, hf, if_pos (by show (200 : Int) ≠ 0; decide)]
theorem four_bytes {b : List Int} {k : Nat} (hk : 9 ≤ k) (hkb : k < b.length) : (b.take k).drop (k - 4) = [rd b ((k - 4 : Nat) : Int), rd b ((k - 3 : Nat) : Int), rd b ((k - 2 : Nat) : Int), rd b ((k - 1 : Nat) : Int)] := by
  have hlen : (b.take k).length = k := by rw [List.length_take]; omega
  rw [rd_nat b _ (by omega), rd_nat b _ (by omega), rd_nat b _ (by omega), rd_nat b _ (by omega)]
  have e : ∀ j (h : j < k), (b.take k)[j]? = some b[j] := fun j h => by rw [List.getElem?_take_of_lt h, List.getElem?_eq_getElem]
  apply List.ext_getElem?
  intro i
  rw [List.getElem?_drop]
  match i with
  | 0 => rw [e _ (by omega)]; simp only [Nat.add_zero, List.getElem?_cons_zero]
  | 1 => rw [e _ (by omega)]; simp only [List.getElem?_cons_zero, List.getElem?_cons_succ, show k - 4 + 1 = k - 3 by omega]
  | 2 => rw [e _ (by omega)]; simp only [List.getElem?_cons_zero, List.getElem?_cons_succ, show k - 4 + 2 = k - 2 by omega]
  | 3 => rw [e _ (by omega)]; simp only [List.getElem?_cons_zero, List.getElem?_cons_succ, show k - 4 + 3 = k - 1 by omega]
  | i + 4 => rw [List.getElem?_eq_none (by omega)]; simp
theorem cut_sum {l : List Ins} {b : List Int} (hb : encodeE l = b) {k : Nat} (hk : 9 ≤ k) (hkb : k < b.length) (hmax : b.length ≤ 4194304) (s : Int) (hs : crcL (b.take (k - 4)) = s)
    (hne : ¬ (rd b ((k - 4 : Nat) : Int) = s % 256 ∧ rd b ((k - 3 : Nat) : Int) = s / 256 % 256 ∧ rd b ((k - 2 : Nat) : Int) = s / 65536 % 256 ∧ rd b ((k - 1 : Nat) : Int) = s / 16777216 % 256)) : decodeL (b.take k) = .error (((k - 4 : Nat) : Int), 203) := by
  have hlen : (b.take k).length = k := by rw [List.length_take]; omega
  have ht : (b.take k).take (k - 4) = b.take (k - 4) := by rw [List.take_take, show min (k - 4) k = k - 4 by omega]
  have hr : 0 ≤ s ∧ s < 4294967296 := by rw [← hs]; exact crc_range _
  have hf : framedL (b.take k) = (((k - 4 : Nat) : Int), 203) := by
    unfold framedL
    rw [if_neg (by omega)]
    have hm : missL 0 magicL (b.take k) = none := by rw [← hb]; exact miss_encode l k
    rw [hm]
    dsimp only
    rw [if_neg (by omega), hlen, ht, hs, four_bytes hk hkb, ← nums_leN s hr, if_neg]
    intro h
    injection h with h0 h
    injection h with h1 h
    injection h with h2 h
    injection h with h3 _
    exact hne ⟨h0.symm, h1.symm, h2.symm, h3.symm⟩
  rw [decodeL, hf, if_pos (by show (203 : Int) ≠ 0; decide)]
theorem cut_both {P : Program} (t e : TypeId) {i : TypeInfo} (ht : P.underlying t = some (.slice e)) (hi : P.info? e = some i) (A : Option Addr) (n c k : Nat) (hc : k ≤ c) (W : World) : (Instr.slice t (.slice A n c) none (some (.int .i64 (k : Int))) (some (.int .i64 (k : Int)))).run P W = .ok (.slice A k k) W := by
  have hel : P.elem t = e := by simp [Program.elem, ht]
  have hu : P.underlying t = some (.slice (P.elem t)) := by rw [hel]; exact ht
  have ha : (A.map fun x => x.add 0) = A := by cases A <;> simp [Addr.add]
  rw [run_slice_hm W t A n c hu .i64 .i64 (k : Int) (k : Int) (by omega) (Int.le_refl _) (by omega)]
  simp [hel, sizeOf, typeInfo, hi, sliced, ha, Result.andThen]
theorem wrap_range (n : Int) : 0 ≤ IntKind.u64.wrap n ∧ IntKind.u64.wrap n < 18446744073709551616 := by
  have h : IntKind.u64.wrap n = n % 18446744073709551616 := by
    unfold IntKind.wrap
    simp [IntKind.signed, IntKind.bits]
  rw [h]
  omega
theorem first_at {W : World} {A : Option Addr} {b : List Int} (h : Kd.C (Kd.int .u8) W A b.length b) (h9 : 9 ≤ b.length) : ∃ ad, A = some ad := by
  obtain ⟨ad, e, _⟩ := Kd.at_int h 0 (by omega) (by omega)
  exact ⟨ad, e⟩
end Go.Proofs.Ytebiogaacikphaa.Pack
end
