/- Parts of the proof of coreOrder: Open, CoreOpen, GramOpen. No condition beyond each lemma's own. -/
import Derived.ChangeSlices
import Derived.KernelRfl
import Derived.SizedLaws
import Derived.Test.YtihiicjnjhideaaDoorTO0
import Derived.Test.YtihiicjnjhideaaDoorTO18
import Derived.Test.YtihiicjnjhideaaDoorTO32
section
namespace Go.Proofs.YtihiicjnjhideaaDoorW.PrintWords
open Go.RowKit Go.ChangeShapes Go.WideShapes
/-- What is read at type t is told by the kind d, and meets ok. -/
structure Opens (P : Program) (t : TypeId) {α : Type} (d : Kd α) (ok : α → Prop) : Prop where
 out : ∀ {H : Type} {enc : TypeId × Value → H} {w : World} {base : Nat} {sp : Nat → Bool} {held : Bool} {fuel : Nat} {cs : List Value} {x : DataW H × List MemPlace},
  DataW.trod enc P w base sp held fuel t cs = some x → (∀ n ∈ x.1.weights P t, n ≤ reachBytes) → ∃ a, d.K w a cs ∧ ok a
theorem Opens.imp {P : Program} {t : TypeId} {α : Type} {d : Kd α} {ok ok' : α → Prop} (h : Opens P t d ok) (hi : ∀ a, ok a → ok' a) : Opens P t d ok' :=
 ⟨fun hx hw => let ⟨a, h1, h2⟩ := h.out hx hw; ⟨a, h1, hi a h2⟩⟩
theorem Opens.int {P : Program} {t : TypeId} {k : IntKind} (hu : P.underlying t = some (.int k)) : Opens P t (Kd.int k) (fun n => (Lit.int k n).wf = true) :=
 ⟨fun hx _ => by
  obtain ⟨n, rfl, _, hw⟩ := DataW.trod_int hu hx
  exact ⟨n, rfl, hw⟩⟩
theorem Opens.bool {P : Program} {t : TypeId} (hu : P.underlying t = some .bool) : Opens P t Kd.bool (fun _ => True) :=
 ⟨fun hx _ => by
  obtain ⟨n, rfl, _⟩ := DataW.trod_bool hu hx
  exact ⟨n, rfl, trivial⟩⟩
theorem Opens.string {P : Program} {t : TypeId} (hu : P.underlying t = some .string) : Opens P t Kd.string (fun s => s.size ≤ 140737488351232) :=
 ⟨fun hx hw => by
  obtain ⟨s, rfl, rfl, _⟩ := DataW.trod_string hu hx
  refine ⟨s, rfl, ?_⟩
  have := hw s.data.toList.length (by simp [DataW.weights])
  rwa [Array.length_toList] at this⟩
theorem weights_all_mem {H : Type} {P : Program} {e : TypeId} : ∀ {l : List (DataW H)} {d : DataW H}, d ∈ l → ∀ n ∈ d.weights P e, n ∈ DataW.weightsAll P e l
 | [], _, h, _, _ => by cases h
 | a :: l, d, h, n, hn => by
  simp only [DataW.weightsAll, List.mem_append]
  rcases List.mem_cons.1 h with rfl | h
  ·exact .inl hn
  ·exact .inr (weights_all_mem h n hn)
theorem cells?_get {w : World} {base : Nat} {a : Addr} {n : Nat} {cs : List Value} (h : w.cells? base a n = some cs) : cs.length = n ∧ ∀ i u, cs[i]? = some u → w.cell? (a.add i) = some u := by
 obtain ⟨_, hl, hc⟩ := World.cells?_some h
 refine ⟨hl, fun i u hu => ?_⟩
 have hi : i < cs.length := (List.getElem?_eq_some_iff.1 hu).1
 rw [hc i (by omega), hu]
/-- A slice of what is told by d. -/
theorem Opens.slice {P : Program} {t e : TypeId} {α : Type} {d : Kd α} {ok : α → Prop} (hu : P.underlying t = some (.slice e)) (h : Opens P e d ok) (hsz : P.cellsOf e = d.sz) {B : Nat} (hB : P.bytesOf e = B) :
  Opens P t (Kd.slice e d) (fun xs => xs.length * B ≤ 140737488351232 ∧ xs.length ≤ 9223372036854775807 ∧ ∀ x ∈ xs, ok x) :=
 ⟨fun {H enc w base sp held fuel cs x} hx hw => by
  rcases DataW.trod_slice hu hx with ⟨rfl, rfl⟩ | ⟨a, len, cap, elems, rest, n, rfl, rfl, rfl, hb, hlc, hcm, hel, hels, hsp, hns⟩
  ·exact ⟨[], ⟨none, 0, rfl, Nat.le_refl _, rfl, by simp, fun h => absurd h (Nat.lt_irrefl 0)⟩, by simp⟩
  ·have hwt : (elems.length + rest.length) * B ≤ reachBytes := by
    have := hw ((elems.length + rest.length) * B) (by simp [DataW.weights, hu, hB])
    exact this
   have hwe : ∀ y ∈ elems, ∀ n ∈ y.1.weights P e, n ≤ reachBytes := fun y hy n hn => hw n (by
    simp only [DataW.weights, hu, List.mem_cons, List.mem_append]
    exact .inr (.inl (weights_all_mem (List.mem_map_of_mem hy) n hn)))
   have each : ∀ i (hi : i < len), ∃ c z, w.cells? base (a.add (i * P.cellsOf e)) (P.cellsOf e) = some c ∧ d.K w z c ∧ ok z := by
    intro i hi
    have h1 := hels i hi
    rw [List.getElem?_eq_getElem (show i < elems.length by omega)] at h1
    obtain ⟨c, hc, ht⟩ := Option.bind_eq_some_iff.1 h1
    obtain ⟨z, hz, ho⟩ := h.out ht (hwe _ (List.getElem_mem _))
    exact ⟨c, z, hc, hz, ho⟩
   have pick : ∀ m, m ≤ len → ∃ zs : List α, zs.length = m ∧ ∀ i z, zs[i]? = some z → ok z ∧ ∃ c, w.cells? base (a.add (i * P.cellsOf e)) (P.cellsOf e) = some c ∧ d.K w z c := by
    intro m
    induction m with
    | zero => exact fun _ => ⟨[], rfl, fun i z hz => by simp at hz⟩
    | succ m ih =>
     intro hm
     obtain ⟨zs, hl, hz⟩ := ih (by omega)
     obtain ⟨c, z, hc, hk, ho⟩ := each m (by omega)
     refine ⟨zs ++ [z], by simp [hl], fun i y hy => ?_⟩
     rcases Nat.lt_or_ge i zs.length with hi | hi
     ·rw [List.getElem?_append_left hi] at hy
      exact hz i y hy
     ·have : i = zs.length := by
       have := (List.getElem?_eq_some_iff.1 hy).1
       simp at this
       omega
      subst this
      have hy' : z = y := by simpa using hy
      subst hy'
      rw [hl]
      exact ⟨ho, c, hc, hk⟩
   obtain ⟨zs, hl, hz⟩ := pick len (Nat.le_refl _)
   subst hl
   have hmax : zs.length ≤ 9223372036854775807 := by
    unfold maxLen at hcm
    omega
   refine ⟨zs, ⟨some a, cap, rfl, hlc, rfl, hmax, fun hn => ⟨a, rfl, fun j z hj => ?_⟩⟩, ?_, hmax, fun z hzm => ?_⟩
   ·obtain ⟨_, c, hc, hk⟩ := hz j z hj
    obtain ⟨hcl, hcc⟩ := cells?_get hc
    refine ⟨c, by rw [hcl, hsz], hk, fun i u hu => ?_⟩
    have hadd : (a.add (j * P.cellsOf e)).add i = a.add (j * d.sz + i) := by rw [add_add, hsz]
    rw [← hadd]
    exact hcc i u hu
   ·rw [← hel]
    exact Nat.le_trans (Nat.mul_le_mul_right _ (Nat.le_add_right _ _)) hwt
   ·obtain ⟨i, hi, rfl⟩ := List.mem_iff_getElem.1 hzm
    exact (hz i _ (List.getElem?_eq_getElem hi)).1⟩
/-- The last fields of a struct, laid from cell o on. -/
structure OpensF (P : Program) (o : Nat) (fs : List Field) {α : Type} (d : Kd α) (ok : α → Prop) : Prop where
 out : ∀ {H : Type} {enc : TypeId × Value → H} {w : World} {base : Nat} {sp : Nat → Bool} {held : Bool} {fuel : Nat} {cs : List Value} {xs : List (DataW H × List MemPlace)},
  cs.length = o + d.sz → xs.length = fs.length →
  (∀ (i : Nat) (f : Field), fs[i]? = some f → DataW.trod enc P w base sp held fuel f.type ((cs.drop f.offset).take (P.cellsOf f.type)) = xs[i]?) →
  (∀ n ∈ DataW.weightsEach P (fs.map (·.type)) (xs.map (·.1)), n ≤ reachBytes) → ∃ a, d.K w a (cs.drop o) ∧ ok a
theorem OpensF.one {P : Program} {o : Nat} {f : Field} {α : Type} {d : Kd α} {ok : α → Prop} (ho : f.offset = o) (hc : P.cellsOf f.type = d.sz) (h : Opens P f.type d ok) : OpensF P o [f] d ok := by
 refine ⟨fun {H enc w base sp held fuel cs xs} hl hx hf hw => ?_⟩
 match xs, hx with
 | [x], _ =>
  have h1 := hf 0 f rfl
  rw [List.getElem?_cons_zero, ho, hc, List.take_of_length_le (by rw [List.length_drop]; omega)] at h1
  exact h.out h1 (fun n hn => hw n (by simp [DataW.weightsEach, hn]))
theorem OpensF.cons {P : Program} {o : Nat} {f : Field} {fs : List Field} {α β : Type} {d : Kd α} {ok : α → Prop} {d' : Kd β} {ok' : β → Prop} (ho : f.offset = o) (hc : P.cellsOf f.type = d.sz) (h : Opens P f.type d ok) (hr : OpensF P (o + d.sz) fs d' ok') :
  OpensF P o (f :: fs) (Kd.pair d d') (fun x => ok x.1 ∧ ok' x.2) := by
 refine ⟨fun {H enc w base sp held fuel cs xs} hl hx hf hw => ?_⟩
 have hl' : cs.length = o + d.sz + d'.sz := by rw [hl]; show o + (d.sz + d'.sz) = _; omega
 match xs, hx with
 | x :: xs, hx =>
  have h1 := hf 0 f rfl
  rw [List.getElem?_cons_zero, ho, hc] at h1
  obtain ⟨a, ha, hao⟩ := h.out h1 (fun n hn => hw n (by simp [DataW.weightsEach, hn]))
  obtain ⟨b, hb, hbo⟩ := hr.out (xs := xs) hl' (by simpa using hx) (fun i g hg => by simpa using hf (i + 1) g (by simpa using hg)) (fun n hn => hw n (by simp only [List.map_cons, DataW.weightsEach, List.mem_append]; exact .inr hn))
  refine ⟨(a, b), ⟨_, _, ?_, ha, hb⟩, hao, hbo⟩
  rw [← List.drop_drop]
  exact (List.take_append_drop _ _).symm
/-- A struct. -/
theorem Opens.struct {P : Program} {t : TypeId} {fs : Array Field} {α β : Type} {d : Kd α} {ok : α → Prop} (hu : P.underlying t = some (.struct fs)) (hc : P.cellsOf t = d.sz) (f : β → α) (g : α → β) (hfg : ∀ a, f (g a) = a) (h : OpensF P 0 fs.toList d ok) : Opens P t (Kd.iso d f) (fun b => ok (f b)) :=
 ⟨fun hx hw => by
  obtain ⟨xs, n, rfl, rfl, hl, hn, hf⟩ := DataW.trod_struct hu hx
  obtain ⟨a, ha, hao⟩ := h.out (by rw [hl, hc]; omega) (by simpa using hn) (fun i f hi => hf i f (by simpa using hi)) (fun n hn => hw n (by simpa [DataW.weights, hu] using hn))
  exact ⟨g a, by show d.K _ (f (g a)) _; rw [hfg]; exact ha, by rw [hfg]; exact hao⟩⟩
theorem mapM_cons_some {α β : Type} {f : α → Option β} {a : α} {l : List α} {r : List β} (h : (a :: l).mapM f = some r) : ∃ b r', f a = some b ∧ l.mapM f = some r' ∧ r = b :: r' := by
 rw [List.mapM_cons] at h
 obtain ⟨b, hb, h⟩ := Option.bind_eq_some_iff.1 h
 obtain ⟨r', hr, h⟩ := Option.bind_eq_some_iff.1 h
 exact ⟨b, r', hb, hr, (Option.some.inj h).symm⟩
/-- An array of four numbers. -/
theorem Opens.four {P : Program} {t e : TypeId} {k : IntKind} {β : Type} (hu : P.underlying t = some (.array 4 e)) (he : P.underlying e = some (.int k)) (hce : P.cellsOf e = 1) (hct : P.cellsOf t = 4) (f : β → Int × Int × Int × Int) (g : Int × Int × Int × Int → β) (hfg : ∀ a, f (g a) = a) :
  Opens P t (Kd.iso (Kd.pair (Kd.int k) (Kd.pair (Kd.int k) (Kd.pair (Kd.int k) (Kd.int k)))) f) (fun b => (Lit.int k (f b).1).wf = true ∧ (Lit.int k (f b).2.1).wf = true ∧ (Lit.int k (f b).2.2.1).wf = true ∧ (Lit.int k (f b).2.2.2).wf = true) :=
 ⟨fun {H enc w base sp held fuel cs x} hx hw => by
  cases fuel with
  | zero => simp [DataW.trod] at hx
  | succ fuel =>
   unfold DataW.trod at hx
   rw [hu] at hx
   simp only [hct] at hx
   split at hx
   case isFalse => cases hx
   rename_i hl
   match cs, hl with
   | [c0, c1, c2, c3], _ =>
    obtain ⟨xs, hxs, rfl⟩ := Option.map_eq_some_iff.1 hx
    rw [show List.range 4 = [0, 1, 2, 3] from rfl] at hxs
    obtain ⟨y0, r0, h0, hxs, _⟩ := mapM_cons_some hxs
    obtain ⟨y1, r1, h1, hxs, _⟩ := mapM_cons_some hxs
    obtain ⟨y2, r2, h2, hxs, _⟩ := mapM_cons_some hxs
    obtain ⟨y3, r3, h3, hxs, _⟩ := mapM_cons_some hxs
    simp only [hce] at h0 h1 h2 h3
    obtain ⟨n0, e0, _, w0⟩ := DataW.trod_int he h0
    obtain ⟨n1, e1, _, w1⟩ := DataW.trod_int he h1
    obtain ⟨n2, e2, _, w2⟩ := DataW.trod_int he h2
    obtain ⟨n3, e3, _, w3⟩ := DataW.trod_int he h3
    simp at e0 e1 e2 e3
    subst e0 e1 e2 e3
    refine ⟨g (n0, n1, n2, n3), ?_, by rw [hfg]; exact ⟨w0, w1, w2, w3⟩⟩
    show (Kd.pair _ _).K w (f (g (n0, n1, n2, n3))) _
    rw [hfg]
    exact ⟨[_], [_, _, _], rfl, rfl, [_], [_, _], rfl, rfl, [_], [_], rfl, rfl, rfl⟩⟩
end Go.Proofs.YtihiicjnjhideaaDoorW.PrintWords
end
section
namespace Go.Proofs.YtihiicjnjhideaaDoor.Core
open Go.RowKit Go.ChangeShapes Go.WideShapes Go.Proofs.YtihiicjnjhideaaDoorW.PrintWords Go.Proofs.YtihiicjnjhideaaDoor.PAll Go.Proofs.YtihiicjnjhideaaDoor.Names
set_option linter.unusedVariables false
set_option maxRecDepth 100000
theorem oClass : Opens Tryd.prog 49 k49 (fun b => (Lit.int .u64 b.f0).wf = true ∧ (Lit.int .u64 b.f1).wf = true ∧ (Lit.int .u64 b.f2).wf = true ∧ (Lit.int .u64 b.f3).wf = true) :=
 Opens.four Tryd.underlying49 Tryd.underlying47 (by kernel_rfl) (by kernel_rfl) (fun x : Class => (x.f0, x.f1, x.f2, x.f3)) (fun a => ⟨a.1, a.2.1, a.2.2.1, a.2.2.2⟩) (fun a => rfl)
/-- A node of what came in. -/
def NodeOk (b : Node) : Prop := (Lit.int .i64 b.f0).wf = true ∧ ((Lit.int .u64 b.f1.f0).wf = true ∧ (Lit.int .u64 b.f1.f1).wf = true ∧ (Lit.int .u64 b.f1.f2).wf = true ∧ (Lit.int .u64 b.f1.f3).wf = true) ∧ (Lit.int .i64 b.f2).wf = true ∧ b.f3.size ≤ 140737488351232
end Go.Proofs.YtihiicjnjhideaaDoor.Core
end
section
namespace Go.Proofs.YtihiicjnjhideaaDoor.Build
open Go.RowKit Go.ChangeShapes Go.WideShapes Go.Proofs.YtihiicjnjhideaaDoorW.PrintWords Go.Proofs.YtihiicjnjhideaaDoor.PAll Go.Proofs.YtihiicjnjhideaaDoor.Core
set_option linter.unusedVariables false
set_option maxRecDepth 100000
abbrev GU := S79
theorem oEN : Opens Tryd.prog 51 k51 (fun b => (Lit.int .i64 b.f0).wf = true ∧ (Lit.int .i64 b.f1).wf = true ∧ b.f2.size ≤ 140737488351232 ∧ True ∧ ((Lit.int .u64 b.f4.f0).wf = true ∧ (Lit.int .u64 b.f4.f1).wf = true ∧ (Lit.int .u64 b.f4.f2).wf = true ∧ (Lit.int .u64 b.f4.f3).wf = true) ∧ (Lit.int .i64 b.f5).wf = true ∧ (Lit.int .i64 b.f6).wf = true) :=
 Opens.struct Tryd.underlying51 (by kernel_rfl) (fun x : EN => (x.f0, x.f1, x.f2, x.f3, x.f4, x.f5, x.f6)) (fun a => ⟨a.1, a.2.1, a.2.2.1, a.2.2.2.1, a.2.2.2.2.1, a.2.2.2.2.2.1, a.2.2.2.2.2.2⟩) (fun a => rfl)
  (OpensF.cons rfl (by kernel_rfl) (Opens.int Tryd.underlying3) (OpensF.cons rfl (by kernel_rfl) (Opens.int Tryd.underlying3) (OpensF.cons rfl (by kernel_rfl) (Opens.string Tryd.underlying9) (OpensF.cons rfl (by kernel_rfl) (Opens.bool Tryd.underlying4) (OpensF.cons rfl (by kernel_rfl) oClass (OpensF.cons rfl (by kernel_rfl) (Opens.int Tryd.underlying3) (OpensF.one rfl (by kernel_rfl) (Opens.int Tryd.underlying3))))))))
theorem oExpr : Opens Tryd.prog 38 (Kd.slice 51 k51) (fun xs => xs.length * 88 ≤ 140737488351232 ∧ xs.length ≤ 9223372036854775807 ∧ ∀ x ∈ xs, x.f2.size ≤ 140737488351232) :=
 (Opens.slice Tryd.underlying38 oEN (by kernel_rfl) (by kernel_rfl)).imp (fun a h => ⟨h.1, h.2.1, fun x hx => (h.2.2 x hx).2.2.1⟩)
theorem oParams : Opens Tryd.prog 36 (Kd.slice 9 Kd.string) (fun xs => xs.length * 16 ≤ 140737488351232 ∧ xs.length ≤ 9223372036854775807 ∧ ∀ x ∈ xs, x.size ≤ 140737488351232) :=
 Opens.slice Tryd.underlying36 (Opens.string Tryd.underlying9) (by kernel_rfl) (by kernel_rfl)
theorem oGRule : Opens Tryd.prog 40 k40 FitR :=
 (Opens.struct Tryd.underlying40 (by kernel_rfl) (fun x : ER => (x.f0, x.f1, x.f2)) (fun a => ⟨a.1, a.2.1, a.2.2⟩) (fun a => rfl)
  (OpensF.cons rfl (by kernel_rfl) (Opens.string Tryd.underlying9) (OpensF.cons rfl (by kernel_rfl) oParams (OpensF.one rfl (by kernel_rfl) oExpr)))).imp (fun a h => ⟨h.1, h.2.1.2.2, h.2.2.2.2, by have h9 : a.f2.length * 88 ≤ 140737488351232 := h.2.2.1; omega⟩)
theorem oGRules : Opens Tryd.prog 23 (Kd.slice 40 k40) (fun xs => xs.length * 64 ≤ 140737488351232 ∧ xs.length ≤ 9223372036854775807 ∧ ∀ x ∈ xs, FitR x) :=
 Opens.slice Tryd.underlying23 oGRule (by kernel_rfl) (by kernel_rfl)
theorem oUse : Opens Tryd.prog 79 k79 (fun b => b.f0.size ≤ 140737488351232 ∧ b.f1.size ≤ 140737488351232) :=
 Opens.struct Tryd.underlying79 (by kernel_rfl) (fun x : GU => (x.f0, x.f1)) (fun a => ⟨a.1, a.2⟩) (fun a => rfl)
  (OpensF.cons rfl (by kernel_rfl) (Opens.string Tryd.underlying9) (OpensF.one rfl (by kernel_rfl) (Opens.string Tryd.underlying9)))
theorem oUses : Opens Tryd.prog 22 (Kd.slice 79 k79) (fun xs => xs.length * 32 ≤ 140737488351232 ∧ xs.length ≤ 9223372036854775807 ∧ ∀ x ∈ xs, x.f0.size ≤ 140737488351232 ∧ x.f1.size ≤ 140737488351232) :=
 Opens.slice Tryd.underlying22 oUse (by kernel_rfl) (by kernel_rfl)
theorem oGram : Opens Tryd.prog 25 (Kd.iso (Kd.pair (Kd.slice 79 k79) (Kd.slice 40 k40)) (fun x : List GU × List ER => (x.1, x.2))) (fun x => (x.1.length * 32 ≤ 140737488351232 ∧ x.1.length ≤ 9223372036854775807 ∧ ∀ u ∈ x.1, u.f0.size ≤ 140737488351232 ∧ u.f1.size ≤ 140737488351232) ∧ (x.2.length * 64 ≤ 140737488351232 ∧ x.2.length ≤ 9223372036854775807 ∧ ∀ r ∈ x.2, FitR r)) :=
 Opens.struct Tryd.underlying25 (by kernel_rfl) (fun x : List GU × List ER => (x.1, x.2)) (fun a => a) (fun a => rfl)
  (OpensF.cons rfl (by kernel_rfl) oUses (OpensF.one rfl (by kernel_rfl) oGRules))
/-- An argument that is a grammar. -/
theorem open_gram {H : Type} {enc : TypeId × Value → H} {W : World} {base : Nat} {r : Reach} {b0 : Nat} {sp : Nat → Bool} {held : Bool} {v : Value} {d : DataW H} {p : List MemPlace}
  (hval : Value.okWide Tryd.prog W r b0 25 v) (h : DataW.Trod enc Tryd.prog W base sp held 25 v d p) (hw : ∀ n ∈ d.weights Tryd.prog 25, n ≤ reachBytes) :
  ∃ (Au : Option Addr) (cu : Nat) (us : List GU) (Ar : Option Addr) (cr : Nat) (rs : List ER), v = .agg #[.slice Au us.length cu, .slice Ar rs.length cr] ∧ Kd.C k79 W Au us.length us ∧ us.length ≤ cu ∧ Kd.C k40 W Ar rs.length rs ∧ rs.length ≤ cr ∧ (∀ u ∈ us, u.f0.size ≤ 140737488351232) ∧ ∀ r ∈ rs, FitR r := by
 simp only [Value.okWide, Tryd.underlying25] at hval
 obtain ⟨cs, rfl, _, _⟩ := hval
 obtain ⟨fuel, hf⟩ := h
 obtain ⟨x, ⟨c0, c1, he, ⟨A, c, rfl, hl, hC⟩, ⟨A', c', rfl, hl', hC'⟩⟩, ho⟩ := oGram.out hf hw
 refine ⟨A, c, x.1, A', c', x.2, ?_, hC, hl, hC', hl', fun u hu => (ho.1.2.2 u hu).1, ho.2.2.2⟩
 obtain ⟨cs⟩ := cs
 simp [Value.cells] at he
 rw [he]
end Go.Proofs.YtihiicjnjhideaaDoor.Build
end
