/- Parts of the proof of coreGrammars: FreeOuterK. No condition beyond each lemma's own. -/
import Derived.Test.YtebiogaacikphaaTG14
import Derived.Test.YtebiogaacikphaaTG26
section
namespace Go.Proofs.Ytebiogaacikphaa.Pack
open Go.RowKit Go.Proofs.YtebiogaacikphaaW.PrintWords Go.Proofs.Ytebiogaacikphaa.PAll Go.Proofs.Ytebiogaacikphaa.Core
set_option linter.unusedVariables false
set_option linter.unusedSimpArgs false
set_option linter.unnecessarySimpa false
theorem idx_g (gl n m i : Nat) (hi : i < n) (W : World) : (Instr.indexAt 68 (.slice (some ⟨gl, 0, none⟩) n m) (.int .i64 (i : Int))).run Try.prog W = .ok (.pointer (some ⟨gl, i * 2, none⟩)) W :=
  run_indexAt_own (P := Try.prog) (t := 68) (size := 2) Try.underlying68 (fun W => by kernel_rfl) gl n m i hi W
theorem idx_r (gl n m i : Nat) (hi : i < n) (W : World) : (Instr.indexAt 59 (.slice (some ⟨gl, 0, none⟩) n m) (.int .i64 (i : Int))).run Try.prog W = .ok (.pointer (some ⟨gl, i * 3, none⟩)) W :=
  run_indexAt_own (P := Try.prog) (t := 59) (size := 3) Try.underlying59 (fun W => by kernel_rfl) gl n m i hi W
theorem idx_u (gl n m i : Nat) (hi : i < n) (W : World) : (Instr.indexAt 58 (.slice (some ⟨gl, 0, none⟩) n m) (.int .i64 (i : Int))).run Try.prog W = .ok (.pointer (some ⟨gl, i * 2, none⟩)) W :=
  run_indexAt_own (P := Try.prog) (t := 58) (size := 2) Try.underlying58 (fun W => by kernel_rfl) gl n m i hi W
theorem idx_rr (gl n m i : Nat) (hi : i < n) (W : World) : (Instr.indexAt 162 (.slice (some ⟨gl, 0, none⟩) n m) (.int .i64 (i : Int))).run Try.prog W = .ok (.pointer (some ⟨gl, i, none⟩)) W := by
  have := run_indexAt_own (P := Try.prog) (t := 162) (size := 1) Try.underlying162 (fun W => by kernel_rfl) gl n m i hi W
  rwa [Nat.mul_one] at this
theorem idx_uu (gl n m i : Nat) (hi : i < n) (W : World) : (Instr.indexAt 163 (.slice (some ⟨gl, 0, none⟩) n m) (.int .i64 (i : Int))).run Try.prog W = .ok (.pointer (some ⟨gl, i, none⟩)) W := by
  have := run_indexAt_own (P := Try.prog) (t := 163) (size := 1) Try.underlying163 (fun W => by kernel_rfl) gl n m i hi W
  rwa [Nat.mul_one] at this
theorem idx_n (gl n m i : Nat) (hi : i < n) (W : World) : (Instr.indexAt 120 (.slice (some ⟨gl, 0, none⟩) n m) (.int .i64 (i : Int))).run Try.prog W = .ok (.pointer (some ⟨gl, i * 10, none⟩)) W :=
  run_indexAt_own (P := Try.prog) (t := 120) (size := 10) Try.underlying120 (fun W => by kernel_rfl) gl n m i hi W
/-- A rule of a parsed grammar: its name, its parameters, its body. -/
structure Rul where
  a : ByteArray
  b : Value
  c : Value
def rulCells (r : Rul) : List Value := [.string r.a, r.b, r.c]
theorem rulCells_len (r : Rul) : (rulCells r).length = 3 := rfl
def zRul (i : Nat) : Rul := ⟨wordS i, nilS, nilS⟩
def plusS (i : Nat) : ByteArray := wordS i ++ ⟨#[43]⟩
def moreR (i : Nat) : List Value := [.string (plusS i), nilS, nilS]
def moreU (i : Nat) : List Value := [.string (plusS i), .string ⟨#[]⟩]
def fullR (n i : Nat) : List Value := (List.replicate n (zRul i)).flatMap rulCells
theorem fullR_len (n i : Nat) : (fullR n i).length = n * 3 := by
  unfold fullR
  rw [flat_len rulCells_len, List.length_replicate]
theorem fullR_get (n i j : Nat) (h : j < n) : (fullR n i)[j * 3]? = some (.string (wordS i)) := by
  have := flat_at (enc := rulCells) (size := 3) rulCells_len (List.replicate n (zRul i)) j (zRul i) (by rw [List.getElem?_replicate, if_pos h]) 0 _ rfl
  rwa [Nat.add_zero] at this
theorem grownR_get (n i j : Nat) (h : j < n + 20) : (fullR n i ++ reps 20 (moreR i))[j * 3]? = some (.string (if j < n then wordS i else plusS i)) := by
  by_cases hj : j < n
  · rw [if_pos hj, List.getElem?_append_left (by rw [fullR_len]; omega)]
    exact fullR_get n i j hj
  · rw [if_neg hj, List.getElem?_append_right (by rw [fullR_len]; omega), fullR_len]
    have := reps_get 20 (moreR i) 3 rfl (j - n) 0 _ (by omega) rfl
    rwa [show (j - n) * 3 + 0 = j * 3 - n * 3 by omega] at this
theorem grownU_get (i j : Nat) (h : j < 20) : (reps 20 (moreU i))[j * 2]? = some (.string (plusS i)) := by
  have := reps_get 20 (moreU i) 2 rfl j 0 _ h rfl
  rwa [Nat.add_zero] at this
theorem plus_neL (i : Nat) : ¬ (wordS i ++ ⟨#[43]⟩ : ByteArray).toList = (wordS i).toList := fun h => by
  rw [ByteArray.toList_eq, ByteArray.toList_eq] at h
  have h1 := congrArg List.length h
  rw [Array.length_toList, Array.length_toList] at h1
  have h2 : (wordS i ++ ⟨#[43]⟩ : ByteArray).size = (wordS i).size := h1
  rw [ByteArray.size_append] at h2
  have h3 : (⟨#[43]⟩ : ByteArray).size = 1 := rfl
  omega
theorem word_size {i : Nat} (h : i < 2) : (wordS i).size ≤ 9223372036854775806 := by
  obtain rfl | rfl : i = 0 ∨ i = 1 := by omega
  · exact Nat.le_of_ble_eq_true (by kernel_rfl)
  · exact Nat.le_of_ble_eq_true (by kernel_rfl)
/-- While the rules are written. -/
structure PZ (n i k : Nat) (ls : Nat → List Rul) : Prop where
  lo : ∀ q, q < i → ls q = List.replicate n (zRul q)
  at_ : ∀ p, p < k → (ls i)[p]? = some (zRul i)
  len : ∀ q, q < 2 → (ls q).length = n
theorem full_listR {α : Type} {l : List α} {n : Nat} {a : α} (h1 : l.length = n) (h2 : ∀ p, p < n → l[p]? = some a) : l = List.replicate n a := by
  apply List.ext_getElem?
  intro p
  rw [List.getElem?_replicate]
  by_cases hp : p < n
  · rw [if_pos hp, h2 p hp]
  · rw [if_neg hp, List.getElem?_eq_none (by omega)]
theorem PZ.put {n i k : Nat} {ls : Nat → List Rul} (h : PZ n i k ls) (hi : i < 2) (hk : k < n) : PZ n i (k + 1) (upd ls i ((ls i).set k (zRul i))) := by
  refine ⟨fun q hq => by rw [upd_ne _ _ _ (by omega)]; exact h.lo q hq, fun p hp => ?_, fun q hq => ?_⟩
  · rw [upd_self, List.getElem?_set]
    by_cases e : k = p
    · rw [if_pos e, if_pos (by rw [h.len i hi]; omega)]
    · rw [if_neg e]
      exact h.at_ p (by omega)
  · by_cases e : q = i
    · subst e
      rw [upd_self, List.length_set]
      exact h.len q hq
    · rw [upd_ne _ _ _ e]
      exact h.len q hq
theorem PZ.next {n i k : Nat} {ls : Nat → List Rul} (h : PZ n i k ls) (hi : i < 2) (hk : k = n) : PZ n (i + 1) 0 ls := by
  subst hk
  refine ⟨fun q hq => ?_, fun p hp => by omega, h.len⟩
  rcases Nat.lt_or_ge q i with h1 | h1
  · exact h.lo q h1
  · obtain rfl : q = i := by omega
    exact full_listR (h.len q hi) h.at_
/-- The family: the rules of both, the uses of both, the lists of both. -/
def eO (j : Nat) : TypeId := if j < 2 then 125 else if j < 4 then 129 else if j = 4 then 59 else 58
def sO (j : Nat) : Nat := if j < 2 then 3 else if j < 4 then 2 else 1
def vO (n : Nat) (AR : Nat → Option Addr) (CR : Nat → Nat) (j : Nat) : Value := if j < 2 then .slice (AR j) n (CR j) else nilS
def nO (n j : Nat) : Nat := if j < 2 then n else 0
def cO (ls : Nat → List Rul) (j : Nat) : List Value := if j < 2 then (ls j).flatMap rulCells else []
theorem cO_upd {m : Nat} {ls : Nat → List Rul} {l : List Rul} (hm : m < 2) : upd (cO ls) m (l.flatMap rulCells) = cO (upd ls m l) := by
  funext j
  by_cases e : j = m
  · subst e
    rw [upd_self, cO, if_pos hm, upd_self]
  · rw [upd_ne _ _ _ e, cO, cO, upd_ne _ _ _ e]
def fO (n : Nat) (q : Nat) : List Rul := List.replicate n (zRul q)
theorem cO_full {n : Nat} {ls : Nat → List Rul} (h : ∀ q, q < 2 → ls q = fO n q) : cO ls = cO (fO n) := by
  funext j
  unfold cO
  by_cases hj : j < 2
  · rw [if_pos hj, if_pos hj, h j hj]
  · rw [if_neg hj, if_neg hj]
/-- The row of the two grammars, which stays. -/
def XO (gl n : Nat) (AR : Nat → Option Addr) (CR : Nat → Nat) (f : Nat → Nat) (W : World) : Prop :=
  RowAt W gl 61 [nilS, .slice (AR 0) n (CR 0), nilS, .slice (AR 1) n (CR 1)] ∧ f gl = 7
section
variable {gl n i j : Nat} {AR : Nat → Option Addr} {CR : Nat → Nat} {f f' : Nat → Nat} {W W' : World}
theorem XO.step (hi : i ≤ 6) (h : XO gl n AR CR f W) (s : Step W W' f f' i) : XO gl n AR CR f' W' :=
  ⟨h.1.step (by rw [h.2]; omega) s, (s.tags gl h.1.lt).trans h.2⟩
theorem XO.rules (h : XO gl n AR CR f W) (hi : i < 2) : W.cell? ⟨gl, i * 2 + 1, none⟩ = some (.slice (AR i) n (CR i)) := by
  rw [h.1.cell]
  obtain rfl | rfl : i = 0 ∨ i = 1 := by omega
  · rfl
  · rfl
theorem XO.uses (h : XO gl n AR CR f W) (hi : i < 2) : W.cell? ⟨gl, i * 2, none⟩ = some (.slice none 0 0) := by
  rw [h.1.cell]
  obtain rfl | rfl : i = 0 ∨ i = 1 := by omega
  · rfl
  · rfl
end
abbrev OO (base : Nat) (w W : World) (f : Nat → Nat) (v : Nat → Value) (ns : Nat → Nat) (cs : Nat → List Value) (V : Nat → Value) (vn : Nat → Nat) (vx : Nat → List Value) (gl n : Nat) (AR : Nat → Option Addr) (CR : Nat → Nat) : Prop :=
  OS base w W f 6 eO sO v ns cs V vn vx (XO gl n AR CR)
/-- While they are written. -/
abbrev O1 (base : Nat) (w W : World) (f : Nat → Nat) (cs : Nat → List Value) (gl n : Nat) (AR : Nat → Option Addr) (CR : Nat → Nat) : Prop :=
  OO base w W f (vO n AR CR) (nO n) cs (fun _ => nilS) (fun _ => 0) (fun _ => []) gl n AR CR
/-- While they are grown, and behind it. -/
abbrev O2 (base : Nat) (w W : World) (f : Nat → Nat) (v : Nat → Value) (ns : Nat → Nat) (cs : Nat → List Value) (gl n : Nat) (AR : Nat → Option Addr) (CR : Nat → Nat) : Prop :=
  OO base w W f v ns cs (vO n AR CR) (nO n) (cO (fO n)) gl n AR CR
def E1 (j : Nat) : Nat := if j < 2 then j else 2 * j
def E2 (j : Nat) : Nat := if j < 2 then j + 2 else 2 * j + 1
theorem E1_inj {j k : Nat} (h : E1 j = E1 k) : j = k := by unfold E1 at h; split at h <;> split at h <;> omega
theorem E2_inj {j k : Nat} (h : E2 j = E2 k) : j = k := by unfold E2 at h; split at h <;> split at h <;> omega
theorem E12 (j k : Nat) : E1 j ≠ E2 k := by unfold E1 E2; split <;> split <;> omega
section
variable {α : Type} (g : Nat → α) (k : Nat) (a : α)
theorem upd11 : (fun j => upd g (E1 k) a (E1 j)) = upd (fun j => g (E1 j)) k a := by
  funext j
  by_cases e : j = k
  · subst e; rw [upd_self, upd_self]
  · rw [upd_ne _ _ _ e, upd_ne _ _ _ (fun h => e (E1_inj h))]
theorem upd22 : (fun j => upd g (E2 k) a (E2 j)) = upd (fun j => g (E2 j)) k a := by
  funext j
  by_cases e : j = k
  · subst e; rw [upd_self, upd_self]
  · rw [upd_ne _ _ _ e, upd_ne _ _ _ (fun h => e (E2_inj h))]
theorem upd12 : (fun j => upd g (E1 k) a (E2 j)) = fun j => g (E2 j) := by
  funext j
  exact upd_ne _ _ _ (fun h => E12 _ _ h.symm)
theorem upd21 : (fun j => upd g (E2 k) a (E1 j)) = fun j => g (E1 j) := by
  funext j
  exact upd_ne _ _ _ (E12 _ _)
end
/-- The lists of rules, and of uses, as they grow. -/
abbrev PR (n : Nat) (AR : Nat → Option Addr) (CR : Nat → Nat) (i q : Nat) (v : Nat → Value) (ns : Nat → Nat) (cs : Nat → List Value) : Prop :=
  PG 2 20 (fun j => .slice (AR j) n (CR j)) (fun _ => n) (fullR n) moreR i q (fun j => v (E1 j)) (fun j => ns (E1 j)) (fun j => cs (E1 j))
abbrev PU (i q : Nat) (v : Nat → Value) (ns : Nat → Nat) (cs : Nat → List Value) : Prop :=
  PG 2 20 (fun _ => nilS) (fun _ => 0) (fun _ => []) moreU i q (fun j => v (E2 j)) (fun j => ns (E2 j)) (fun j => cs (E2 j))
theorem E1_lo {j : Nat} (h : j < 2) : E1 j = j := if_pos h
theorem E2_lo {j : Nat} (h : j < 2) : E2 j = j + 2 := if_pos h
theorem PR.start (n : Nat) (AR : Nat → Option Addr) (CR : Nat → Nat) : PR n AR CR 0 0 (vO n AR CR) (nO n) (cO (fO n)) := by
  refine ⟨fun j hj => by omega, fun _ => ⟨rfl, ?_⟩, fun _ _ => rfl, fun j _ hj => ?_, ⟨rfl, rfl⟩, by omega⟩
  · rw [reps_zero, List.append_nil]; rfl
  · simp only [E1_lo hj]
    exact ⟨if_pos hj, if_pos hj, if_pos hj⟩
theorem PU.start (n : Nat) (AR : Nat → Option Addr) (CR : Nat → Nat) : PU 0 0 (vO n AR CR) (nO n) (cO (fO n)) := by
  refine ⟨fun j hj => by omega, fun _ => ⟨rfl, rfl⟩, fun _ _ => rfl, fun j _ hj => ?_, ⟨rfl, rfl⟩, by omega⟩
  simp only [E2_lo hj]
  exact ⟨if_neg (by omega), if_neg (by omega), if_neg (by omega)⟩
section
variable {n i q : Nat} {AR : Nat → Option Addr} {CR : Nat → Nat} {v : Nat → Value} {ns : Nat → Nat} {cs : Nat → List Value} {x' : Value}
theorem PR.more_ (h : PR n AR CR i q v ns cs) (hi : i < 2) : PR n AR CR i (q + 1) (upd v (E1 i) x') (upd ns (E1 i) (ns (E1 i) + 1)) (upd cs (E1 i) (cs (E1 i) ++ moreR i)) := by
  unfold PR; rw [upd11, upd11, upd11]; exact PG.more_ h hi
theorem PR.other (h : PR n AR CR i q v ns cs) (k : Nat) (m : Nat) (l : List Value) : PR n AR CR i q (upd v (E2 k) x') (upd ns (E2 k) m) (upd cs (E2 k) l) := by
  unfold PR; rw [upd21, upd21, upd21]; exact h
theorem PR.done (h : PR n AR CR i 20 v ns cs) (hi : i < 2) : PR n AR CR (i + 1) 0 (upd v (E1 2) x') (upd ns (E1 2) (ns (E1 2) + 1)) (upd cs (E1 2) (cs (E1 2) ++ [v (E1 i)])) := by
  unfold PR; rw [upd11, upd11, upd11]; exact PG.done h hi
theorem PU.more_ (h : PU i q v ns cs) (hi : i < 2) : PU i (q + 1) (upd v (E2 i) x') (upd ns (E2 i) (ns (E2 i) + 1)) (upd cs (E2 i) (cs (E2 i) ++ moreU i)) := by
  unfold PU; rw [upd22, upd22, upd22]; exact PG.more_ h hi
theorem PU.other (h : PU i q v ns cs) (k : Nat) (m : Nat) (l : List Value) : PU i q (upd v (E1 k) x') (upd ns (E1 k) m) (upd cs (E1 k) l) := by
  unfold PU; rw [upd12, upd12, upd12]; exact h
theorem PU.done (h : PU i 20 v ns cs) (hi : i < 2) : PU (i + 1) 0 (upd v (E2 2) x') (upd ns (E2 2) (ns (E2 2) + 1)) (upd cs (E2 2) (cs (E2 2) ++ [v (E2 i)])) := by
  unfold PU; rw [upd22, upd22, upd22]; exact PG.done h hi
end
theorem E1lt {i : Nat} (h : i < 2) : E1 i < 6 := by rw [E1_lo h]; omega
theorem E2lt {i : Nat} (h : i < 2) : E2 i < 6 := by rw [E2_lo h]; omega
theorem eO1 {i : Nat} (h : i < 2) : eO (E1 i) = 125 := by rw [E1_lo h]; exact if_pos h
theorem sO1 {i : Nat} (h : i < 2) : sO (E1 i) = 3 := by rw [E1_lo h]; exact if_pos h
theorem eO2 {i : Nat} (h : i < 2) : eO (E2 i) = 129 := by rw [E2_lo h, eO, if_neg (by omega), if_pos (by omega)]
theorem sO2 {i : Nat} (h : i < 2) : sO (E2 i) = 2 := by rw [E2_lo h, sO, if_neg (by omega), if_pos (by omega)]
theorem v12 {α : Type} (v : Nat → α) (i j : Nat) (x : α) {y : α} (h : v (E2 j) = y) : upd v (E1 i) x (E2 j) = y := (upd_ne _ _ _ (fun h => E12 _ _ h.symm)).trans h
theorem v21 {α : Type} (v : Nat → α) (i j : Nat) (x : α) {y : α} (h : v (E1 j) = y) : upd v (E2 i) x (E1 j) = y := (upd_ne _ _ _ (E12 _ _)).trans h
theorem v11 {α : Type} (v : Nat → α) (i : Nat) (x : α) : upd v (E1 i) x (E1 i) = x := upd_self _ _ _
theorem v11' {α : Type} (v : Nat → α) (i j : Nat) (x : α) {y : α} (hne : j ≠ i) (h : v (E1 j) = y) : upd v (E1 i) x (E1 j) = y := (upd_ne _ _ _ (fun h => hne (E1_inj h))).trans h
theorem v22' {α : Type} (v : Nat → α) (i j : Nat) (x : α) {y : α} (hne : j ≠ i) (h : v (E2 j) = y) : upd v (E2 i) x (E2 j) = y := (upd_ne _ _ _ (fun h => hne (E2_inj h))).trans h
section
variable {base gl n i q : Nat} {w W : World} {f : Nat → Nat} {AR : Nat → Option Addr} {CR : Nat → Nat} {v : Nat → Value} {ns : Nat → Nat} {cs : Nat → List Value} {x : Value}
theorem O2.own1 (h : O2 base w W f v ns cs gl n AR CR) (hp : PR n AR CR i q v ns cs) (hi : i < 2) (hx : v (E1 i) = x) : W.ownsRow base 125 3 x (n + q) (fullR n i ++ reps q (moreR i)) := by
  have := h.own (E1 i) (E1lt hi)
  rwa [eO1 hi, sO1 hi, hx, show ns (E1 i) = n + q from (hp.at_ hi).1, show cs (E1 i) = _ from (hp.at_ hi).2] at this
theorem O2.own2 (h : O2 base w W f v ns cs gl n AR CR) (hp : PU i q v ns cs) (hi : i < 2) (hx : v (E2 i) = x) : W.ownsRow base 129 2 x q (reps q (moreU i)) := by
  have := h.own (E2 i) (E2lt hi)
  rwa [eO2 hi, sO2 hi, hx, show ns (E2 i) = 0 + q from (hp.at_ hi).1, show cs (E2 i) = [] ++ reps q (moreU i) from (hp.at_ hi).2, Nat.zero_add, List.nil_append] at this
theorem O2.own4 (h : O2 base w W f v ns cs gl n AR CR) (hp : PR n AR CR i q v ns cs) (hx : v (E1 2) = x) : W.ownsRow base 59 1 x i ((List.range i).map fun j => v (E1 j)) := by
  have := h.own (E1 2) (by decide)
  rwa [hx, show ns (E1 2) = i from hp.out.1, show cs (E1 2) = _ from hp.out.2] at this
theorem O2.own5 (h : O2 base w W f v ns cs gl n AR CR) (hp : PU i q v ns cs) (hx : v (E2 2) = x) : W.ownsRow base 58 1 x i ((List.range i).map fun j => v (E2 j)) := by
  have := h.own (E2 2) (by decide)
  rwa [hx, show ns (E2 2) = i from hp.out.1, show cs (E2 2) = _ from hp.out.2] at this
theorem O2.app1 {W1 : World} {x' : Value} (h : O2 base w W f v ns cs gl n AR CR) (hp : PR n AR CR i q v ns cs) (hu : PU i q v ns cs) (hi : i < 2) (hx : v (E1 i) = x) (hown : W1.ownsRow base 125 3 x' (n + q + 1) (fullR n i ++ reps q (moreR i) ++ moreR i))
    (hat : (x'.ownBlock = x.ownBlock ∧ W.grownBy W1 x.ownBlock) ∨ ((∃ b, x'.ownBlock = some b ∧ W.heap.size ≤ b) ∧ W.grownBy W1 none)) :
    ∃ f' v' ns' cs', O2 base w W1 f' v' ns' cs' gl n AR CR ∧ PR n AR CR i (q + 1) v' ns' cs' ∧ PU i q v' ns' cs' ∧ v' = upd v (E1 i) x' := by
  obtain ⟨f', h1⟩ := h.append (i := E1 i) (x' := x') (ys := moreR i) (E1lt hi) (by rw [eO1 hi, sO1 hi, show ns (E1 i) = n + q from (hp.at_ hi).1, show cs (E1 i) = _ from (hp.at_ hi).2]; exact hown) (by rw [hx]; exact hat)
  exact ⟨f', _, _, _, h1, hp.more_ hi, hu.other i _ _, rfl⟩
theorem O2.app2 {W1 : World} {x' : Value} (h : O2 base w W f v ns cs gl n AR CR) (hp : PR n AR CR i (q + 1) v ns cs) (hu : PU i q v ns cs) (hi : i < 2) (hx : v (E2 i) = x) (hown : W1.ownsRow base 129 2 x' (q + 1) (reps q (moreU i) ++ moreU i))
    (hat : (x'.ownBlock = x.ownBlock ∧ W.grownBy W1 x.ownBlock) ∨ ((∃ b, x'.ownBlock = some b ∧ W.heap.size ≤ b) ∧ W.grownBy W1 none)) :
    ∃ f' v' ns' cs', O2 base w W1 f' v' ns' cs' gl n AR CR ∧ PR n AR CR i (q + 1) v' ns' cs' ∧ PU i (q + 1) v' ns' cs' ∧ v' = upd v (E2 i) x' := by
  obtain ⟨f', h1⟩ := h.append (i := E2 i) (x' := x') (ys := moreU i) (E2lt hi) (by rw [eO2 hi, sO2 hi, show ns (E2 i) = 0 + q from (hu.at_ hi).1, show cs (E2 i) = [] ++ reps q (moreU i) from (hu.at_ hi).2, Nat.zero_add, List.nil_append]; exact hown) (by rw [hx]; exact hat)
  exact ⟨f', _, _, _, h1, hp.other i _ _, hu.more_ hi, rfl⟩
theorem O2.app4 {W1 : World} {x' y : Value} (h : O2 base w W f v ns cs gl n AR CR) (hp : PR n AR CR i 20 v ns cs) (hu : PU i 20 v ns cs) (hi : i < 2) (hx : v (E1 2) = x) (hy : v (E1 i) = y) (hown : W1.ownsRow base 59 1 x' (i + 1) (((List.range i).map fun j => v (E1 j)) ++ [y]))
    (hat : (x'.ownBlock = x.ownBlock ∧ W.grownBy W1 x.ownBlock) ∨ ((∃ b, x'.ownBlock = some b ∧ W.heap.size ≤ b) ∧ W.grownBy W1 none)) :
    ∃ f' v' ns' cs', O2 base w W1 f' v' ns' cs' gl n AR CR ∧ PR n AR CR (i + 1) 0 v' ns' cs' ∧ PU i 20 v' ns' cs' ∧ v' = upd v (E1 2) x' := by
  obtain ⟨f', h1⟩ := h.append (i := E1 2) (x' := x') (ys := [v (E1 i)]) (by decide) (by rw [hy, show ns (E1 2) = i from hp.out.1, show cs (E1 2) = _ from hp.out.2]; exact hown) (by rw [hx]; exact hat)
  exact ⟨f', _, _, _, h1, hp.done hi, hu.other 2 _ _, rfl⟩
theorem O2.app5 {W1 : World} {x' y : Value} (h : O2 base w W f v ns cs gl n AR CR) (hp : PR n AR CR (i + 1) 0 v ns cs) (hu : PU i 20 v ns cs) (hi : i < 2) (hx : v (E2 2) = x) (hy : v (E2 i) = y) (hown : W1.ownsRow base 58 1 x' (i + 1) (((List.range i).map fun j => v (E2 j)) ++ [y]))
    (hat : (x'.ownBlock = x.ownBlock ∧ W.grownBy W1 x.ownBlock) ∨ ((∃ b, x'.ownBlock = some b ∧ W.heap.size ≤ b) ∧ W.grownBy W1 none)) :
    ∃ f' v' ns' cs', O2 base w W1 f' v' ns' cs' gl n AR CR ∧ PR n AR CR (i + 1) 0 v' ns' cs' ∧ PU (i + 1) 0 v' ns' cs' ∧ v' = upd v (E2 2) x' := by
  obtain ⟨f', h1⟩ := h.append (i := E2 2) (x' := x') (ys := [v (E2 i)]) (by decide) (by rw [hy, show ns (E2 2) = i from hu.out.1, show cs (E2 2) = _ from hu.out.2]; exact hown) (by rw [hx]; exact hat)
  exact ⟨f', _, _, _, h1, hp.other 2 _ _, hu.done hi, rfl⟩
end
theorem OO.start {base gl n : Nat} {w : World} {f : Nat → Nat} {AR : Nat → Option Addr} {CR : Nat → Nat} {ls : Nat → List Rul} (hbs : base ≤ w.heap.size) (hx : XO gl n AR CR f w) (hown : ∀ i, i < 2 → w.ownsRow base 125 3 (.slice (AR i) n (CR i)) n ((ls i).flatMap rulCells)) (htag : ∀ i, i < 2 → Tag w f (.slice (AR i) n (CR i)) i) :
    O1 base w w f (cO ls) gl n AR CR := by
  refine ⟨Below.refl _ _, hbs, hx, fun W1 W2 f1 f2 i hi h s => h.step hi s, fun j hj => ?_, fun j hj => ?_, fun j _ => nil_sees _, fun j _ => nil_tag _ _ _, fun j _ => ⟨_, rfl⟩⟩
  · unfold vO nO cO
    by_cases h : j < 2
    · simp only [if_pos h, eO, sO]; exact hown j h
    · simp only [if_neg h]; exact World.ownsRow_nil _ _ _ _
  · unfold vO
    by_cases h : j < 2
    · rw [if_pos h]; exact htag j h
    · rw [if_neg h]; exact nil_tag _ _ _
def loopsOf : Code → List Code
  | .loop c => [c]
  | .seq a b => loopsOf a ++ loopsOf b
  | .block _ c => loopsOf c
  | .scope c => loopsOf c
  | .cond _ a b => loopsOf a ++ loopsOf b
  | _ => []
theorem rstep_off {P : Program} {ops : Array Oper} {o : Oper} {a : Act} {Q : Exit → Act → World → Prop} {Kc : Act → World → Prop} {w : World} (hw : Region.wanted o (yielded ops a.tmps) = false) (h : Kc (a.put o.dst undef) w) :
    if Region.wanted o (yielded ops a.tmps) = true then Oper.wp P o a w Kc Q else Kc (a.put o.dst undef) w := by
  rw [if_neg (by rw [hw]; decide)]
  exact h
/-- The region of that number. -/
def findReg (n : Nat) : Code → Option Code
  | .region m ops b => if m = n then some (.region m ops b) else none
  | .loop c => findReg n c
  | .seq a b => (findReg n a).or (findReg n b)
  | .block _ c => findReg n c
  | .scope c => findReg n c
  | .cond _ a b => (findReg n a).or (findReg n b)
  | _ => none
section
variable {P : Program} {ops : Array Oper} {Q : Exit → Act → World → Prop} {md : Region.Mode} {S : World → Prop}
theorem tk (i : Nat) (v : Value) {oi : Oper} {fuel : Nat} {listed : Array Bool} {a : Act} {w : World} (hi : ops[i]? = some oi) (hw : ∀ w, S w → (execOp a.eval oi).run P w = .ok (.value v) w) (hS : S w)
    (h : wpAnyH P md ops Q S fuel (listed.setIfInBounds i true) (a.put oi.dst v) w) (hs : Region.noSelect ops = true := by kernel_rfl) (hf : Region.free md ops listed i = true := by kernel_rfl) (hr : (Region.ready md ops listed).contains i = true := by kernel_rfl)
    (hQ : ∀ c a w, Q (.panic c) (a.put oi.dst v) w → Q (.panic c) a w := by exact fun _ _ _ h => h) (hwt : Region.wanted oi (yielded ops a.tmps) = true := by rfl) : wpAnyH P md ops Q S (fuel + 1) listed a w :=
  wpAnyH_take hi hs hf hr hQ (.inl ⟨hwt, hw⟩) hS h
theorem tks (i : Nat) {oi : Oper} {fuel : Nat} {listed : Array Bool} {a : Act} {w : World} (hi : ops[i]? = some oi) (hS : S w)
    (h : wpAnyH P md ops Q S fuel (listed.setIfInBounds i true) (a.put oi.dst undef) w) (hs : Region.noSelect ops = true := by kernel_rfl) (hf : Region.free md ops listed i = true := by kernel_rfl) (hr : (Region.ready md ops listed).contains i = true := by kernel_rfl)
    (hQ : ∀ c a w, Q (.panic c) (a.put oi.dst undef) w → Q (.panic c) a w := by exact fun _ _ _ h => h) (hwt : Region.wanted oi (yielded ops a.tmps) = false := by rfl) : wpAnyH P md ops Q S (fuel + 1) listed a w :=
  wpAnyH_take hi hs hf hr hQ (.inr ⟨hwt, rfl⟩) hS h
end
section
variable {α : Type}
theorem gA {xs : List α} {i : Nat} (h : i < xs.toArray.size) : xs.toArray[i] = xs[i]'(by simpa using h) := List.getElem_toArray h
theorem gB {a : α} {ys : List α} (h : 0 < (a :: ys).length) : (a :: ys)[0] = a := List.getElem_cons_zero _ _ _
theorem gC {a : α} {ys : List α} {i : Nat} (h : i + 1 < (a :: ys).length) : (a :: ys)[i + 1] = ys[i]'(Nat.lt_of_succ_lt_succ h) := List.getElem_cons_succ ..
theorem gD (l : List α) (i : Nat) (a : α) : l.toArray.setIfInBounds i a = (l.set i a).toArray := List.setIfInBounds_toArray l i a
theorem gE {x : α} {xs : List α} {a : α} : (x :: xs).set 0 a = a :: xs := List.set_cons_zero
theorem gF {x : α} {xs : List α} {i : Nat} {a : α} : (x :: xs).set (i + 1) a = x :: xs.set i a := List.set_cons_succ
end
/-- What is looked at in the end. -/
structure OFin (g4 gr g5 gu gl n i : Nat) (AR : Nat → Option Addr) (CR : Nat → Nat) (cr cu : Nat) (W : World) : Prop where
  rr : W.cell? ⟨g4, i, none⟩ = some (.slice (some ⟨gr, 0, none⟩) (n + 20) cr)
  r : ∀ k, k < n + 20 → W.cell? ⟨gr, k * 3, none⟩ = some (.string (if k < n then wordS i else wordS i ++ ⟨#[43]⟩))
  uu : W.cell? ⟨g5, i, none⟩ = some (.slice (some ⟨gu, 0, none⟩) 20 cu)
  u : ∀ k, k < 20 → W.cell? ⟨gu, k * 2, none⟩ = some (.string (wordS i ++ ⟨#[43]⟩))
  lr : W.cell? ⟨gl, i * 2 + 1, none⟩ = some (.slice (AR i) n (CR i))
  lu : W.cell? ⟨gl, i * 2, none⟩ = some (.slice none 0 0)
  l : ∀ k, k < n → ∃ g, AR i = some ⟨g, 0, none⟩ ∧ W.cell? ⟨g, k * 3, none⟩ = some (.string (wordS i))
theorem O2.final {base gl n i g4 g5 c4 c5 : Nat} {w : World} {f : Nat → Nat} {AR : Nat → Option Addr} {CR : Nat → Nat} {v : Nat → Value} {ns : Nat → Nat} {cs : Nat → List Value} {gr cr gu cu : Nat} (hp : PR n AR CR 2 0 v ns cs) (hu : PU 2 0 v ns cs) (h4 : v (E1 2) = .slice (some ⟨g4, 0, none⟩) 2 c4) (h5 : v (E2 2) = .slice (some ⟨g5, 0, none⟩) 2 c5) (hi : i < 2)
    (hr : v (E1 i) = .slice (some ⟨gr, 0, none⟩) (n + 20) cr) (hru : v (E2 i) = .slice (some ⟨gu, 0, none⟩) 20 cu) (W : World) (h : O2 base w W f v ns cs gl n AR CR) : OFin g4 gr g5 gu gl n i AR CR cr cu W := by
  have l1 := hp.lo i hi
  have l2 := hu.lo i hi
  refine ⟨?_, fun k hk => ?_, ?_, fun k hk => ?_, h.x.rules hi, h.x.uses hi, fun k hk => ?_⟩
  · have hh := (h.own (E1 2) (by decide)).cells (g := g4) (by rw [h4]; rfl) i (v (E1 i)) (by rw [show cs (E1 2) = _ from hp.out.2, List.getElem?_map, List.getElem?_range hi]; rfl)
    rw [hr] at hh
    rwa [show (⟨g4, 0, none⟩ : Addr).add i = ⟨g4, i, none⟩ from (by first | (simp [Addr.add]; done) | (simp [Addr.add]; omega))] at hh
  · have hh := (h.own (E1 i) (E1lt hi)).cells (g := gr) (by rw [hr]; rfl) (k * 3) _ (by rw [show cs (E1 i) = _ from l1.2]; exact grownR_get n i k hk)
    rwa [show (⟨gr, 0, none⟩ : Addr).add (k * 3) = ⟨gr, k * 3, none⟩ from (by first | (simp [Addr.add]; done) | (simp [Addr.add]; omega))] at hh
  · have hh := (h.own (E2 2) (by decide)).cells (g := g5) (by rw [h5]; rfl) i (v (E2 i)) (by rw [show cs (E2 2) = _ from hu.out.2, List.getElem?_map, List.getElem?_range hi]; rfl)
    rw [hru] at hh
    rwa [show (⟨g5, 0, none⟩ : Addr).add i = ⟨g5, i, none⟩ from (by first | (simp [Addr.add]; done) | (simp [Addr.add]; omega))] at hh
  · have hh := (h.own (E2 i) (E2lt hi)).cells (g := gu) (by rw [hru]; rfl) (k * 2) _ (by rw [show cs (E2 i) = _ from l2.2]; exact grownU_get i k hk)
    rwa [show (⟨gu, 0, none⟩ : Addr).add (k * 2) = ⟨gu, k * 2, none⟩ from (by first | (simp [Addr.add]; done) | (simp [Addr.add]; omega))] at hh
  · have hs := h.sees i (by omega)
    rw [vO, nO, cO, if_pos hi, if_pos hi, if_pos hi] at hs
    obtain ⟨A, c, hv, h0⟩ := hs
    cases hv
    obtain ⟨g, hg, h1⟩ := h0 (by omega)
    exact ⟨g, hg, h1 (k * 3) _ (fullR_get n i k hk)⟩
theorem O2.views {base gl n i : Nat} {w W : World} {f : Nat → Nat} {AR : Nat → Option Addr} {CR : Nat → Nat} {v : Nat → Value} {ns : Nat → Nat} {cs : Nat → List Value} (h : O2 base w W f v ns cs gl n AR CR) (hp : PR n AR CR 2 0 v ns cs) (hu : PU 2 0 v ns cs) (hi : i < 2) :
    ∃ gr cr gu cu, v (E1 i) = .slice (some ⟨gr, 0, none⟩) (n + 20) cr ∧ v (E2 i) = .slice (some ⟨gu, 0, none⟩) 20 cu := by
  have l1 := hp.lo i hi
  have l2 := hu.lo i hi
  have o1 := h.own (E1 i) (E1lt hi)
  have o2 := h.own (E2 i) (E2lt hi)
  rw [show ns (E1 i) = n + 20 from l1.1] at o1
  rw [show ns (E2 i) = 0 + 20 from l2.1] at o2
  obtain ⟨gr, cr, e1⟩ := own_atB o1 (by omega)
  obtain ⟨gu, cu, e2⟩ := own_atB o2 (by omega)
  exact ⟨gr, cr, gu, cu, e1, e2⟩
end Go.Proofs.Ytebiogaacikphaa.Pack
end
