/- Parts of the proof of coreGrammars: FreeGramsC. No condition beyond each lemma's own. -/
import Derived.Test.YtebiogaacikphaaTG32
section
namespace Go.Proofs.Ytebiogaacikphaa.Pack
open Go.RowKit Go.Proofs.YtebiogaacikphaaW.PrintWords Go.Proofs.Ytebiogaacikphaa.PAll Go.Proofs.Ytebiogaacikphaa.Core
set_option linter.unusedVariables false
set_option linter.unusedSimpArgs false
set_option linter.unnecessarySimpa false
def zNod : Nod := z122
def markN (m : Nat) : Nod := { zNod with f0 := -((m : Int) + 1) }
def moreN (m : Nat) : Nod := { zNod with f0 := -100000 - ((m : Int) + 1) }
/-- Two grammars' lists of rules. -/
structure XG (base gl n : Nat) (AR : Nat → Option Addr) (CR : Nat → Nat) (nm : Nat → ByteArray) (bv : Nat → Value) (T : Nat) (f : Nat → Nat) (W : World) : Prop where
 row : RowAt W gl 61 [nilS, .slice (AR 0) n (CR 0), nilS, .slice (AR 1) n (CR 1)]
 tg : f gl = T + 7
 own : ∀ i, i < 2 → W.ownsRow base 125 3 (.slice (AR i) n (CR i)) n ((List.range n).flatMap fun k => [.string (nm k), nilS, bv (i * n + k)])
 tag : ∀ i, i < 2 → Tag W f (.slice (AR i) n (CR i)) (T + i)
section
variable {base gl n : Nat} {AR : Nat → Option Addr} {CR : Nat → Nat} {nm : Nat → ByteArray} {bv : Nat → Value} {T : Nat} {f f' : Nat → Nat} {W W' : World} {i k : Nat}
theorem XG.step (hi : i < T) (h : XG base gl n AR CR nm bv T f W) (s : Step W W' f f' i) : XG base gl n AR CR nm bv T f' W' :=
 ⟨h.row.step (by rw [h.tg]; omega) s, (s.tags gl h.row.lt).trans h.tg, fun j hj => own_step (h.own j hj) (h.tag j hj) (by omega) s, fun j hj => (h.tag j hj).step s⟩
theorem XG.rules (h : XG base gl n AR CR nm bv T f W) (hi : i < 2) : W.cell? ⟨gl, i * 2 + 1, none⟩ = some (.slice (AR i) n (CR i)) := by
 rw [h.row.cell]
 obtain rfl | rfl : i = 0 ∨ i = 1 := by omega
 ·rfl
 ·rfl
theorem XG.at_ (h : XG base gl n AR CR nm bv T f W) (hi : i < 2) (hk : k < n) : ∃ g, AR i = some ⟨g, 0, none⟩ ∧ W.cell? ⟨g, k * 3 + 1, none⟩ = some nilS ∧ W.cell? ⟨g, k * 3 + 2, none⟩ = some (bv (i * n + k)) := by
 have ho := h.own i hi
 obtain ⟨g, c, hg⟩ := own_atB ho (by omega)
 have hg1 : AR i = some ⟨g, 0, none⟩ := by injection hg
 refine ⟨g, hg1, ?_, ?_⟩
 ·have := ho.cells (g := g) (by rw [hg]; rfl) (k * 3 + 1) nilS (flat_at (enc := fun k => [.string (nm k), nilS, bv (i * n + k)]) (size := 3) (fun _ => rfl) (List.range n) k k (List.getElem?_range hk) 1 _ rfl)
  rwa [show (⟨g, 0, none⟩ : Addr).add (k * 3 + 1) = ⟨g, k * 3 + 1, none⟩ from (by first | (simp [Addr.add]; done) | (simp [Addr.add]; omega))] at this
 ·have := ho.cells (g := g) (by rw [hg]; rfl) (k * 3 + 2) (bv (i * n + k)) (flat_at (enc := fun k => [.string (nm k), nilS, bv (i * n + k)]) (size := 3) (fun _ => rfl) (List.range n) k k (List.getElem?_range hk) 2 _ rfl)
  rwa [show (⟨g, 0, none⟩ : Addr).add (k * 3 + 2) = ⟨g, k * 3 + 2, none⟩ from (by first | (simp [Addr.add]; done) | (simp [Addr.add]; omega))] at this
end
/-- While the bodies are written. -/
structure PW (N : Nat) (nb : Nat → Nat) (m j : Nat) (ls : Nat → List Nod) : Prop where
 lo : ∀ q, q < m → ls q = List.replicate (nb q) (markN q)
 at_ : ∀ p, p < j → (ls m)[p]? = some (markN m)
 len : ∀ q, q < N → (ls q).length = nb q
theorem full_list {α : Type} {l : List α} {n : Nat} {a : α} (h1 : l.length = n) (h2 : ∀ p, p < n → l[p]? = some a) : l = List.replicate n a := by
 apply List.ext_getElem?
 intro p
 rw [List.getElem?_replicate]
 by_cases hp : p < n
 ·rw [if_pos hp, h2 p hp]
 ·rw [if_neg hp, List.getElem?_eq_none (by omega)]
def fullN (nb : Nat → Nat) (m : Nat) : List Value := (List.replicate (nb m) (markN m)).flatMap nodCells
theorem lt2 {i k n : Nat} (hi : i < 2) (hk : k < n) : i * n + k < 2 * n := by
 obtain rfl | rfl : i = 0 ∨ i = 1 := by omega
 ·omega
 ·omega
def vN (N : Nat) (bv : Nat → Value) (m : Nat) : Value := if m < N then bv m else nilS
def nN (N : Nat) (nb : Nat → Nat) (m : Nat) : Nat := if m < N then nb m else 0
def csN (N : Nat) (ls : Nat → List Nod) (m : Nat) : List Value := if m < N then (ls m).flatMap nodCells else []
theorem csN_upd {N m : Nat} {ls : Nat → List Nod} {l : List Nod} (hm : m < N) : upd (csN N ls) m (l.flatMap nodCells) = csN N (upd ls m l) := by
 funext j
 by_cases e : j = m
 ·subst e
  rw [upd_self, csN, if_pos hm, upd_self]
 ·rw [upd_ne _ _ _ e, csN, csN, upd_ne _ _ _ e]
theorem PW.put {N m j : Nat} {nb : Nat → Nat} {ls : Nat → List Nod} (h : PW N nb m j ls) (hm : m < N) (hj : j < nb m) : PW N nb m (j + 1) (upd ls m ((ls m).set j (markN m))) := by
 refine ⟨fun q hq => by rw [upd_ne _ _ _ (by omega)]; exact h.lo q hq, fun p hp => ?_, fun q hq => ?_⟩
 ·rw [upd_self, List.getElem?_set]
  by_cases e : j = p
  ·rw [if_pos e, if_pos (by rw [h.len m hm]; omega)]
  ·rw [if_neg e]
   exact h.at_ p (by omega)
 ·by_cases e : q = m
  ·subst e
   rw [upd_self, List.length_set]
   exact h.len q hq
  ·rw [upd_ne _ _ _ e]
   exact h.len q hq
theorem PW.next {N m : Nat} {nb : Nat → Nat} {ls : Nat → List Nod} (h : PW N nb m (nb m) ls) (hm : m < N) : PW N nb (m + 1) 0 ls := by
 refine ⟨fun q hq => ?_, fun p hp => by omega, h.len⟩
 rcases Nat.lt_or_ge q m with h1 | h1
 ·exact h.lo q h1
 ·obtain rfl : q = m := by omega
  exact full_list (h.len q hm) h.at_
def fullL (nb : Nat → Nat) (q : Nat) : List Nod := List.replicate (nb q) (markN q)
def moreC (m : Nat) : List Value := nodCells (moreN m)
theorem csN_full {N : Nat} {nb : Nat → Nat} {ls : Nat → List Nod} (h : ∀ q, q < N → ls q = fullL nb q) : csN N ls = csN N (fullL nb) := by
 funext j
 unfold csN
 by_cases hj : j < N
 ·rw [if_pos hj, if_pos hj, h j hj]
 ·rw [if_neg hj, if_neg hj]
theorem PG.begin_ (N : Nat) (bv : Nat → Value) (nb : Nat → Nat) : PG N 20 bv nb (fullN nb) moreC 0 0 (vN N bv) (nN N nb) (csN N (fullL nb)) := by
 refine ⟨fun j hj => by omega, fun hi => ?_, fun hi _ => if_pos hi, fun j hj hjN => ⟨if_pos hjN, if_pos hjN, ?_⟩, ⟨if_neg (by omega), ?_⟩, Nat.zero_le _⟩
 ·rw [reps_zero, List.append_nil, csN, if_pos hi]
  exact ⟨if_pos hi, rfl⟩
 ·rw [csN, if_pos hjN]; rfl
 ·rw [csN, if_neg (by omega)]; rfl
theorem fullN_get (nb : Nat → Nat) (m j : Nat) (h : j < nb m) : (fullN nb m)[j * 10]? = some (.int .i64 (-((m : Int) + 1))) := by
 have := flat_at (enc := nodCells) (size := 10) nodCells_len (List.replicate (nb m) (markN m)) j (markN m) (by rw [List.getElem?_replicate, if_pos h]) 0 _ rfl
 rwa [Nat.add_zero] at this
theorem fullN_len (nb : Nat → Nat) (m : Nat) : (fullN nb m).length = nb m * 10 := by
 unfold fullN
 rw [flat_len nodCells_len, List.length_replicate]
theorem grown_get (nb : Nat → Nat) (m j : Nat) (h : j < nb m + 20) : (fullN nb m ++ reps 20 (moreC m))[j * 10]? = some (.int .i64 (if j < nb m then -((m : Int) + 1) else -100000 - ((m : Int) + 1))) := by
 by_cases hj : j < nb m
 ·rw [if_pos hj, List.getElem?_append_left (by rw [fullN_len]; omega)]
  exact fullN_get nb m j hj
 ·rw [if_neg hj, List.getElem?_append_right (by rw [fullN_len]; omega), fullN_len]
  have := reps_get 20 (moreC m) 10 rfl (j - nb m) 0 _ (by omega) rfl
  rwa [show (j - nb m) * 10 + 0 = j * 10 - nb m * 10 by omega] at this
theorem idx_e (gl n m i : Nat) (hi : i < n) (W : World) : (Instr.indexAt 134 (.slice (some ⟨gl, 0, none⟩) n m) (.int .i64 (i : Int))).run Try.prog W = .ok (.pointer (some ⟨gl, i, none⟩)) W := by
 have := run_indexAt_own (P := Try.prog) (t := 134) (size := 1) Try.underlying134 (fun W => by kernel_rfl) gl n m i hi W
 rwa [Nat.mul_one] at this
theorem mB {m n : Nat} (h : m < 2 * n) (hn : n ≤ 256) : (m : Int) ≤ 512 := by omega
theorem wA {m : Nat} (h : (m : Int) ≤ 512) : IntKind.i64.wrap ((m : Int) + 1) = ((m + 1 : Nat) : Int) := by rw [IntWalk.i64_in _ (by omega)]; omega
theorem wB {m : Nat} (h : (m : Int) ≤ 512) : IntKind.i64.wrap (((m + 1 : Nat) : Int) - 1) = (m : Int) := by rw [IntWalk.i64_in _ (by omega)]; omega
theorem wC {m : Nat} (h : (m : Int) ≤ 512) : IntKind.i64.wrap ((m : Int) + 1 - 1) = (m : Int) := by rw [IntWalk.i64_in _ (by omega)]; omega
theorem wD {m : Nat} (h : (m : Int) ≤ 512) : IntKind.i64.wrap (m : Int) = (m : Int) := IntWalk.i64_in _ (by omega)
theorem nA {m : Nat} (h : (m : Int) ≤ 512) : IntKind.i64.wrap (-(((m + 1 : Nat) : Int))) = -((m : Int) + 1) := by rw [IntWalk.i64_in _ (by omega)]; omega
theorem nB {m : Nat} (h : (m : Int) ≤ 512) : IntKind.i64.wrap (-((m : Int) + 1)) = -((m : Int) + 1) := IntWalk.i64_in _ (by omega)
theorem sA {m : Nat} (h : (m : Int) ≤ 512) : IntKind.i64.wrap (-100000 - (((m + 1 : Nat) : Int))) = -100000 - ((m : Int) + 1) := by rw [IntWalk.i64_in _ (by omega)]; omega
theorem sB {m : Nat} (h : (m : Int) ≤ 512) : IntKind.i64.wrap (-100000 - ((m : Int) + 1)) = -100000 - ((m : Int) + 1) := IntWalk.i64_in _ (by omega)
theorem dI {i n : Nat} (h : i < n) : decide ((i : Int) < (n : Int)) = true := decide_eq_true (by omega)
theorem dI' {i n : Nat} (h : ¬ i < n) : decide ((i : Int) < (n : Int)) = false := decide_eq_false (by omega)
theorem d2 {i : Nat} (h : i < 2) : decide ((i : Int) < 2) = true := decide_eq_true (by omega)
theorem d2' {i : Nat} (h : ¬ i < 2) : decide ((i : Int) < 2) = false := decide_eq_false (by omega)
theorem kB {k n : Nat} (h : k ≤ n) (hn : n ≤ 256) : (k : Int) ≤ 256 := by omega
theorem mulS {i k n m : Nat} (h : m = i * n + k) (hk : ¬ k < n) (hle : k ≤ n) : m = (i + 1) * n := by
 obtain rfl : k = n := by omega
 rw [Nat.succ_mul]; exact h
theorem bMm {a M : Nat} (h : a + 20 = M) (hb : a ≤ 4096) : M ≤ 4200 := by omega
theorem nbI {a : Nat} (hb : a ≤ 4096) : a ≤ 4200 := by omega
theorem leI {j M : Nat} (h : j ≤ M) (hb : M ≤ 4200) : (j : Int) ≤ 4200 := by omega
theorem hjF {j a : Nat} (h : j < a) : decide ((a : Int) ≤ (j : Int)) = false := decide_eq_false (by omega)
theorem hjFn {j a : Nat} (h : j < a) : decide (a ≤ j) = false := decide_eq_false (by omega)
theorem hjT {j a : Nat} (h : ¬ j < a) : decide ((a : Int) ≤ (j : Int)) = true := decide_eq_true (by omega)
theorem hjTn {j a : Nat} (h : ¬ j < a) : decide (a ≤ j) = true := decide_eq_true (by omega)
theorem two_eq {i : Nat} (h : ¬ i < 2) (hle : i ≤ 2) : i = 2 := by omega
def eN (N : Nat) (j : Nat) : TypeId := if j < N then 122 else 120
def sN (N : Nat) (j : Nat) : Nat := if j < N then 10 else 1
abbrev OG (base : Nat) (w W : World) (f : Nat → Nat) (n : Nat) (v : Nat → Value) (ns : Nat → Nat) (cs : Nat → List Value) (V : Nat → Value) (vn : Nat → Nat) (vx : Nat → List Value) (gl : Nat) (AR : Nat → Option Addr) (CR : Nat → Nat) (nm : Nat → ByteArray) (bv : Nat → Value) : Prop :=
 OS base w W f (2 * n + 1) (eN (2 * n)) (sN (2 * n)) v ns cs V vn vx (XG base gl n AR CR nm bv (2 * n + 2))
abbrev OG' (base : Nat) (w W : World) (f : Nat → Nat) (n : Nat) (v : Nat → Value) (ns : Nat → Nat) (cs : Nat → List Value) (nb : Nat → Nat) (gl : Nat) (AR : Nat → Option Addr) (CR : Nat → Nat) (nm : Nat → ByteArray) (bv : Nat → Value) : Prop := OG base w W f n v ns cs (vN (2 * n) bv) (nN (2 * n) nb) (csN (2 * n) (fullL nb)) gl AR CR nm bv
/-- The cells that are looked at in the end. -/
theorem OS.final {base : Nat} {w W : World} {f : Nat → Nat} {n m : Nat} {v : Nat → Value} {ns : Nat → Nat} {cs : Nat → List Value} {nb : Nat → Nat} {gl : Nat} {AR : Nat → Option Addr} {CR : Nat → Nat} {nm : Nat → ByteArray} {bv : Nat → Value} {gg cg : Nat} (h : OG' base w W f n v ns cs nb gl AR CR nm bv) (hm : m < 2 * n) (hp : PG (2 * n) 20 bv nb (fullN nb) moreC (2 * n) 0 v ns cs) (hg : v (2 * n) = .slice (some ⟨gg, 0, none⟩) (2 * n) cg) :
  ∃ gu cu, W.cell? ⟨gg, m, none⟩ = some (.slice (some ⟨gu, 0, none⟩) (nb m + 20) cu) ∧ (∀ j, j < nb m + 20 → W.cell? ⟨gu, j * 10, none⟩ = some (.int .i64 (if j < nb m then -((m : Int) + 1) else -100000 - ((m : Int) + 1)))) ∧ ∃ A c, bv m = .slice A (nb m) c ∧ ∀ j, j < nb m → ∃ g, A = some ⟨g, 0, none⟩ ∧ W.cell? ⟨g, j * 10, none⟩ = some (.int .i64 (-((m : Int) + 1))) := by
 have hl := hp.lo m hm
 have ho := h.own m (by omega)
 have hs := h.sees m (by omega)
 have hq := h.own (2 * n) (by omega)
 rw [show vN (2 * n) bv m = bv m from if_pos hm, show nN (2 * n) nb m = nb m from if_pos hm, show csN (2 * n) (fullL nb) m = fullN nb m from if_pos hm] at hs
 obtain ⟨gu, cu, hu⟩ := own_atB ho (by rw [hl.1]; omega)
 rw [hl.1] at hu
 refine ⟨gu, cu, ?_, fun j hj => ?_, ?_⟩
 ·have hh := hq.cells (g := gg) (by rw [hg]; rfl) m (v m) (by rw [hp.out.2, List.getElem?_map, List.getElem?_range hm]; rfl)
  rw [hu] at hh
  rwa [show (⟨gg, 0, none⟩ : Addr).add m = ⟨gg, m, none⟩ from (by first | (simp [Addr.add]; done) | (simp [Addr.add]; omega))] at hh
 ·have hh := ho.cells (g := gu) (by rw [hu]; rfl) (j * 10) _ (by rw [hl.2]; exact grown_get nb m j hj)
  rwa [show (⟨gu, 0, none⟩ : Addr).add (j * 10) = ⟨gu, j * 10, none⟩ from (by first | (simp [Addr.add]; done) | (simp [Addr.add]; omega))] at hh
 ·obtain ⟨A, c, hv, h0⟩ := hs
  refine ⟨A, c, hv, fun j hj => ?_⟩
  obtain ⟨g, rfl, h1⟩ := h0 (by omega)
  exact ⟨g, rfl, h1 (j * 10) _ (fullN_get nb m j hj)⟩
theorem OS.start {base gl n : Nat} {w : World} {f : Nat → Nat} {AR : Nat → Option Addr} {CR : Nat → Nat} {nm : Nat → ByteArray} {bv : Nat → Value} {nb : Nat → Nat} {xs : Nat → List Nod} (hbs : base ≤ w.heap.size) (hx : XG base gl n AR CR nm bv (2 * n + 2) f w) (hown : ∀ m, m < 2 * n → w.ownsRow base 122 10 (bv m) (nb m) ((xs m).flatMap nodCells)) (htag : ∀ m, m < 2 * n → Tag w f (bv m) m) :
  OG base w w f n (vN (2 * n) bv) (nN (2 * n) nb) (csN (2 * n) xs) (fun _ => nilS) (fun _ => 0) (fun _ => []) gl AR CR nm bv := by
 refine ⟨Below.refl _ _, hbs, hx, fun W1 W2 f1 f2 i hi h s => h.step (by omega) s, fun j hj => ?_, fun j hj => ?_, fun j _ => nil_sees _, fun j _ => nil_tag _ _ _, fun j _ => ⟨_, rfl⟩⟩
 ·unfold vN nN csN eN sN
  by_cases h : j < 2 * n
  ·simp only [if_pos h]; exact hown j h
  ·simp only [if_neg h]; exact World.ownsRow_nil _ _ _ _
 ·unfold vN
  by_cases h : j < 2 * n
  ·rw [if_pos h]; exact htag j h
  ·rw [if_neg h]; exact nil_tag _ _ _
noncomputable def gBody3 : Code := ((loopsOf (Try.f33.body.getD .skip))[3]?).getD .skip
section
variable (base gl n : Nat) (w : World) (f : Nat → Nat) (AR : Nat → Option Addr) (CR : Nat → Nat) (nm : Nat → ByteArray) (bv : Nat → Value) (nb : Nat → Nat) (v : Nat → Value) (ns : Nat → Nat) (cs : Nat → List Value) (Ag : Option Addr) (cg : Nat)
set_option maxHeartbeats 8000000 in
set_option maxRecDepth 100000 in
theorem gLoop3 (HN : Aside0 (n ≤ 256)) (HNB : Aside0 (∀ m, m < 2 * n → nb m ≤ 4096)) (HP3 : Aside0 (PG (2 * n) 20 bv nb (fullN nb) moreC (2 * n) 0 v ns cs)) (HG : Aside0 (v (2 * n) = .slice Ag (2 * n) cg)) (wr : World) (HO : Aside0 (OG' base w wr f n v ns cs nb gl AR CR nm bv))
  (Q0 : Exit → Act → World → Prop) (u1 u2 u3 u4 u5 u8 u9 u10 u12 u13 u14 u15 u17 u18 u19 u20 u21 u22 u23 u24 u25 u26 u27 u28 u29 u30 u31 u32 u33 u34 u35 u36 u37 u38 u39 u40 u41 u42 u43 u44 u45 u46 u47 u48 u49 u50 u51 u52 u53 u54 u55 u56 u57 u58 u59 u60 u61 u62 u63 u64 u65 u66 u67 u68 u69 u70 u71 u72 u73 u74 u75 u76 u77 u78 u79 u80 u81 u82 u83 u84 u85 u86 u87 u88 u89 u90 u91 u92 u93 u94 u95 u96 u97 u98 u99 u100 u101 u102 u103 u104 u105 u106 u107 u108 u109 u110 u111 u112 u113 u114 u115 u116 u117 u118 u119 u120 u121 u122 u123 u124 u125 u126 u127 u128 u129 u130 u131 u132 u133 u134 u135 u136 u137 u138 u139 u140 u141 u142 u143 u144 u145 u146 u147 u148 u149 u150 u151 u152 u153 u154 u155 u156 u157 u158 u159 u160 u161 u162 u163 u164 u165 u166 u167 u168 u169 u170 u171 u172 u173 u174 u175 u176 u177 u178 u179 u180 u181 u182 u183 u184 u185 u186 u187 u188 u189 u190 u191 u192 u193 u194 u195 u196 u197 u198 u199 u200 u201 u202 u203 u204 u205 u206 u207 u208 u209 u210 u211 u212 u213 u214 u215 u216 u217 u218 u219 u220 u221 u222 u223 u224 u225 u226 : Value) (hexit : ∀ (x1 x2 x3 x4 x5 x7 x8 x9 x10 x11 x12 x13 x14 x15 x16 x17 x18 x19 x20 x21 x22 x23 x24 x25 x26 x27 x28 x29 x30 x31 x32 x33 x34 x35 x36 x37 x38 x39 x40 x41 x42 x43 x44 x45 x46 x47 x48 x49 x50 x51 x52 x53 x54 x55 x56 x57 x58 x59 x60 x61 x62 x63 x64 x65 x66 x67 x68 x69 x70 x71 x72 x73 x74 x75 x76 x77 x78 x79 x80 x81 x82 x83 x84 x85 x86 x87 x88 x89 x90 x91 x92 x93 x94 x95 x96 x97 x98 x99 x100 x101 x102 x103 x104 x105 x106 x107 x108 x109 x110 x111 x112 x113 x114 x115 x116 x117 x118 x119 x120 x121 x122 x123 x124 x125 x126 x127 x128 x129 x130 x131 x132 x133 x134 x135 x136 x137 x138 x139 x140 x141 x142 x143 x144 x145 x146 x147 x148 x149 x150 x151 x152 x153 x154 x155 x156 x157 x158 x159 x160 x161 x162 x163 x164 x165 x166 x167 x168 x169 x170 x171 x172 x173 x174 x175 x176 x177 x178 x179 x180 x181 x182 x183 x184 x185 x186 x187 x188 x189 x190 x191 x192 x193 x194 x195 x196 x197 x198 x199 x200 x201 x202 x203 x204 x205 x206 x207 x208 x209 x210 x211 x212 x213 x214 x215 x216 x217 x218 x219 x220 x221 x222 x223 x224 x225 x226 : Value) (w' : World), OG' base w w' f n v ns cs nb gl AR CR nm bv → Q0 (.exit 16) ⟨#[(.slice (some ⟨gl, 0, none⟩) 2 2), x1, x2, x3, x4, x5, (.bool true), x7, x8, x9, x10, x11, x12, x13, x14, x15, x16, x17, x18, x19, x20, x21, x22, x23, x24, x25, x26, x27, x28, x29, x30, x31, x32, x33, x34, x35, x36, x37, x38, x39, x40, x41, x42, x43, x44, x45, x46, x47, x48, x49, x50, x51, x52, x53, x54, x55, x56, x57, x58, x59, x60, x61, x62, x63, x64, x65, x66, x67, x68, x69, x70, x71, x72, x73, x74, x75, x76, x77, x78, x79, x80, x81, x82, x83, x84, x85, x86, x87, x88, x89, x90, x91, x92, x93, x94, x95, x96, x97, x98, x99, x100, x101, x102, x103, x104, x105, x106, x107, x108, x109, x110, x111, x112, x113, x114, x115, x116, x117, x118, x119, x120, x121, x122, x123, x124, x125, x126, x127, x128, x129, x130, x131, x132, x133, x134, x135, x136, x137, x138, x139, x140, x141, x142, x143, x144, x145, x146, x147, x148, x149, x150, x151, x152, x153, x154, x155, x156, x157, x158, x159, x160, x161, x162, x163, x164, x165, x166, x167, x168, x169, x170, x171, x172, x173, x174, x175, x176, x177, x178, x179, x180, x181, x182, x183, x184, x185, x186, x187, x188, x189, x190, x191, x192, x193, x194, x195, x196, x197, x198, x199, x200, x201, x202, x203, x204, x205, x206, x207, x208, x209, x210, x211, x212, x213, x214, x215, x216, x217, x218, x219, x220, x221, x222, x223, x224, x225, x226], []⟩ w') :
  Code.wp Try.prog (Code.loop gBody3) Q0 ⟨#[(.slice (some ⟨gl, 0, none⟩) 2 2), u1, u2, u3, u4, u5, (.bool true), (.int .i64 0), u8, u9, u10, (.slice Ag (2 * n) cg), u12, u13, u14, u15, (.int .i64 0), u17, u18, u19, u20, u21, u22, u23, u24, u25, u26, u27, u28, u29, u30, u31, u32, u33, u34, u35, u36, u37, u38, u39, u40, u41, u42, u43, u44, u45, u46, u47, u48, u49, u50, u51, u52, u53, u54, u55, u56, u57, u58, u59, u60, u61, u62, u63, u64, u65, u66, u67, u68, u69, u70, u71, u72, u73, u74, u75, u76, u77, u78, u79, u80, u81, u82, u83, u84, u85, u86, u87, u88, u89, u90, u91, u92, u93, u94, u95, u96, u97, u98, u99, u100, u101, u102, u103, u104, u105, u106, u107, u108, u109, u110, u111, u112, u113, u114, u115, u116, u117, u118, u119, u120, u121, u122, u123, u124, u125, u126, u127, u128, u129, u130, u131, u132, u133, u134, u135, u136, u137, u138, u139, u140, u141, u142, u143, u144, u145, u146, u147, u148, u149, u150, u151, u152, u153, u154, u155, u156, u157, u158, u159, u160, u161, u162, u163, u164, u165, u166, u167, u168, u169, u170, u171, u172, u173, u174, u175, u176, u177, u178, u179, u180, u181, u182, u183, u184, u185, u186, u187, u188, u189, u190, u191, u192, u193, u194, u195, u196, u197, u198, u199, u200, u201, u202, u203, u204, u205, u206, u207, u208, u209, u210, u211, u212, u213, u214, u215, u216, u217, u218, u219, u220, u221, u222, u223, u224, u225, u226], []⟩ wr := by
 dsimp only at hexit ⊢
 conv => arg 2; arg 1; whnf
 go_loopw [6, 7, 16] (fun v6 v7 v16 wr => ∃ (i mi : Nat), v6 = .bool true ∧ v16 = .int .i64 i ∧ v7 = .int .i64 (mi : Int) ∧ Aside0 (i ≤ 2) ∧ Aside0 (mi = i * n) ∧ Aside0 (OG' base w wr f n v ns cs nb gl AR CR nm bv)) (fun _ _ v16 _ => 2 - (intOf v16).toNat)
 case atStart => exact ⟨0, 0, rfl, rfl, rfl, ⟨Nat.zero_le _⟩, ⟨(Nat.zero_mul _).symm⟩, HO⟩
 case round =>
  clear HO
  obtain ⟨i, mi, rfl, rfl, rfl, HI, HMI, HO⟩ := hrel
  by_cases c3 : i < 2
  ·have b3 := d2 c3
   have b3n : decide (i < 2) = true := decide_eq_true c3
   have hix := idx_g gl 2 2 i c3
   go_wp2
   go_loopw [6, 7, 17] (fun v6 v7 v17 wr => ∃ (k m : Nat), v6 = .bool true ∧ v17 = .int .i64 k ∧ v7 = .int .i64 (m : Int) ∧ Aside0 (k ≤ n) ∧ Aside0 (m = i * n + k) ∧ Aside0 (OG' base w wr f n v ns cs nb gl AR CR nm bv)) (fun _ _ v17 _ => n - (intOf v17).toNat)
   case atStart => exact ⟨0, mi, rfl, rfl, rfl, ⟨Nat.zero_le _⟩, HMI, HO⟩
   case round =>
    clear HO HMI
    obtain ⟨k, m, rfl, rfl, rfl, HK, HMK, HO⟩ := hrel
    have kb := kB HK.out HN.out
    have hru := HO.out.x.rules c3
    by_cases ck : k < n
    ·have b4 := dI ck
     have b4n : decide (k < n) = true := decide_eq_true ck
     have HM2 := Aside0.mk (show m < 2 * n from HMK.out ▸ lt2 c3 ck)
     have mb := mB HM2.out HN.out
     have hw1 := wA mb
     have hw2 := wB mb
     have hw3 := wC mb
     have hw4 := wD mb
     have hneg := nA mb
     have hneg2 := nB mb
     have hsub := sA mb
     have hsub2 := sB mb
     obtain ⟨gR, hA, _, hbo⟩ := HO.out.x.at_ c3 ck
     have HA := Aside0.mk hA
     rw [hA] at hru
     rw [← HMK.out] at hbo
     have hixr := idx_r gR n (CR i) k ck
     obtain ⟨gg, cg', hg2⟩ := own_atB (HO.out.own (2 * n) (Nat.lt_succ_self _)) (by rw [HP3.out.out.1]; exact Nat.lt_of_le_of_lt (Nat.zero_le _) HM2.out)
     rw [HP3.out.out.1, HG.out] at hg2
     cases hg2
     obtain ⟨gu, cu, _, _, Ab, cb, hbv, _⟩ := HO.out.final HM2.out HP3.out HG.out
     have HBV := Aside0.mk hbv
     rw [hbv] at hbo
     have hixe := idx_e gg (2 * n) cg m HM2.out
     clear hbv hA
     go_wp2
     clear hru hbo
     obtain ⟨M, hM⟩ : ∃ M, nb m + 20 = M := ⟨_, rfl⟩
     have HMM := Aside0.mk hM
     have Mb := bMm HMM.out (HNB.out m HM2.out)
     clear hM
     go_loopw [6, 19] (fun v6 v19 wr => ∃ (j : Nat), v6 = .bool true ∧ v19 = .int .i64 j ∧ Aside0 (j ≤ M) ∧ Aside0 (OG' base w wr f n v ns cs nb gl AR CR nm bv)) (fun _ v19 _ => M - (intOf v19).toNat)
     case atStart => exact ⟨0, rfl, rfl, ⟨Nat.zero_le _⟩, HO⟩
     case round =>
      clear HO
      obtain ⟨j, rfl, rfl, HJ, HO⟩ := hrel
      have jb := leI HJ.out Mb
      obtain ⟨gu, cu, hb1, hb2, _⟩ := HO.out.final HM2.out HP3.out HG.out
      rw [HMM.out] at hb1
      by_cases cj : j < M
      ·have b5 := dI cj
       have b5n : decide (j < M) = true := decide_eq_true cj
       have hixn := idx_n gu M cu j cj
       have hc := hb2 j (HMM.out ▸ cj)
       clear hb2
       by_cases cn : j < nb m
       ·rw [if_pos cn] at hc
        have b6 := hjF cn
        have b6n := hjFn cn
        go_wp2
        go_roundw
        case measure => simp [intOf]; omega
        case rel => exact ⟨j + 1, rfl, by go_num, ⟨cj⟩, HO⟩
       ·rw [if_neg cn] at hc
        have b6 := hjT cn
        have b6n := hjTn cn
        go_wp2
        go_roundw
        case measure => simp [intOf]; omega
        case rel => exact ⟨j + 1, rfl, by go_num, ⟨cj⟩, HO⟩
      ·have b5 := dI' cj
       have b5n : decide (j < M) = false := decide_eq_false cj
       clear hb2
       go_wp2
       clear hb1
       go_loopw [6, 21] (fun v6 v21 wr => ∃ (j : Nat), v6 = .bool true ∧ v21 = .int .i64 j ∧ Aside0 (j ≤ nb m) ∧ Aside0 (OG' base w wr f n v ns cs nb gl AR CR nm bv)) (fun _ v21 _ => nb m - (intOf v21).toNat)
       case atStart => exact ⟨0, rfl, rfl, ⟨Nat.zero_le _⟩, HO⟩
       case round =>
        clear HO HJ cj b5 b5n jb
        obtain ⟨j, rfl, rfl, HJ, HO⟩ := hrel
        have jb := leI HJ.out (nbI (HNB.out m HM2.out))
        by_cases cj : j < nb m
        ·have b5 := dI cj
         have b5n : decide (j < nb m) = true := decide_eq_true cj
         have hru := HO.out.x.rules c3
         obtain ⟨gR2, hA, _, hbo⟩ := HO.out.x.at_ c3 ck
         rw [HA.out] at hA
         cases hA
         rw [HA.out] at hru
         rw [← HMK.out, HBV.out] at hbo
         obtain ⟨_, _, _, _, Ab2, cb2, hbv2, hlast⟩ := HO.out.final HM2.out HP3.out HG.out
         rw [HBV.out] at hbv2
         cases hbv2
         obtain ⟨g, rfl, hc⟩ := hlast j cj
         have hixn := idx_n g (nb m) cb j cj
         clear hlast
         go_wp2
         go_roundw
         case measure => simp [intOf]; omega
         case rel => exact ⟨j + 1, rfl, by go_num, ⟨cj⟩, HO⟩
        ·have b5 := dI' cj
         have b5n : decide (j < nb m) = false := decide_eq_false cj
         go_wp2
         go_roundw
         case measure => simp [intOf]; omega
         case rel => exact ⟨k + 1, m + 1, rfl, by go_num, rfl, ⟨ck⟩, ⟨by rw [HMK.out]; rfl⟩, HO⟩
    ·have b4 := dI' ck
     have b4n : decide (k < n) = false := decide_eq_false ck
     have HKN := Aside0.mk ck
     go_wp2
     go_roundw
     case measure => simp [intOf]; omega
     case rel => exact ⟨i + 1, m, rfl, by go_num, rfl, ⟨c3⟩, ⟨mulS HMK.out HKN.out HK.out⟩, HO⟩
  ·have b3 := d2' c3
   have b3n : decide (i < 2) = false := decide_eq_false c3
   go_wp2
   exact HO.out
end
end Go.Proofs.Ytebiogaacikphaa.Pack
end
