/- Parts of the proof of coreGrammars: OwnSet, FreeBWalk, PAllx33. No condition beyond each lemma's own. -/
import Derived.IntWalk
import Derived.WalkKit
import Derived.Test.YtebiogaacikphaaTG4
import Derived.Test.YtebiogaacikphaaTG9
import Derived.Test.YtebiogaacikphaaTG13
section
namespace Go.Proofs.Ytebiogaacikphaa.Pack
open Go.RowKit Go.Proofs.YtebiogaacikphaaW.PrintWords
set_option linter.unusedVariables false
set_option linter.unusedSimpArgs false
def upd {α : Type} (g : Nat → α) (i : Nat) (a : α) : Nat → α := fun j => if j = i then a else g j
theorem upd_self {α : Type} (g : Nat → α) (i : Nat) (a : α) : upd g i a i = a := if_pos rfl
theorem upd_ne {α : Type} (g : Nat → α) (i : Nat) (a : α) {j : Nat} (h : j ≠ i) : upd g i a j = g j := if_neg h
theorem map_upd {α : Type} (g : Nat → α) (i n : Nat) (a : α) (h : n ≤ i) : (List.range n).map (upd g i a) = (List.range n).map g := by
  refine List.map_congr_left (fun j hj => upd_ne _ _ _ ?_)
  have := List.mem_range.1 hj
  omega
def nilS : Value := .slice none 0 0
theorem nil_tag (W : World) (f : Nat → Nat) (j : Nat) : Tag W f nilS j := fun k hk => by simp [nilS, Value.ownBlock] at hk
theorem nil_sees (W : World) : Sees W nilS 0 [] := ⟨none, 0, rfl, fun h => absurd h (by omega)⟩
structure OS (base : Nat) (w W : World) (f : Nat → Nat) (M : Nat) (e : Nat → TypeId) (sz : Nat → Nat) (v : Nat → Value) (ns : Nat → Nat) (cs : Nat → List Value) (V : Nat → Value) (vn : Nat → Nat) (vx : Nat → List Value) (X : (Nat → Nat) → World → Prop) : Prop where
  old : Below base w W
  bs : base ≤ w.heap.size
  x : X f W
  st : ∀ W1 W2 f1 f2 i, i ≤ M → X f1 W1 → Step W1 W2 f1 f2 i → X f2 W2
  own : ∀ j, j < M → W.ownsRow base (e j) (sz j) (v j) (ns j) (cs j)
  tag : ∀ j, j < M → Tag W f (v j) j
  sees : ∀ j, j < M → Sees W (V j) (vn j) (vx j)
  vtag : ∀ j, j < M → Tag W f (V j) j
  pre : ∀ j, j < M → ∃ r, cs j = vx j ++ r
section
variable {base : Nat} {w W W' W1 : World} {f : Nat → Nat} {M : Nat} {e : Nat → TypeId} {sz ns vn : Nat → Nat} {v V : Nat → Value} {cs vx : Nat → List Value} {X : (Nat → Nat) → World → Prop} {i : Nat}
theorem OS.below (h : OS base w W f M e sz v ns cs V vn vx X) (hb : Below W.heap.size W W') : OS base w W' f M e sz v ns cs V vn vx X := by
  have s : Step W W' f f M := Step.below hb
  exact ⟨h.old.trans (hb.mono (Nat.le_trans h.bs h.old.size)), h.bs, h.st _ _ _ _ M (Nat.le_refl _) h.x s, h.st, fun j hj => own_step (h.own j hj) (h.tag j hj) (by omega) s, fun j hj => (h.tag j hj).step s, fun j hj => (h.sees j hj).step (h.vtag j hj) (by omega) s, fun j hj => (h.vtag j hj).step s, h.pre⟩
/-- What is there now is looked at later. -/
theorem OS.look (h : OS base w W f M e sz v ns cs V vn vx X) : OS base w W f M e sz v ns cs v ns cs X :=
  ⟨h.old, h.bs, h.x, h.st, h.own, h.tag, fun j hj => own_sees (h.own j hj), h.tag, fun j hj => ⟨[], by simp⟩⟩
/-- The i-th is written. -/
theorem OS.put (h : OS base w W f M e sz v ns cs V vn vx X) (hi : i < M) (hV : V i = nilS) (hn : vn i = 0) (hx : vx i = []) {g : Nat} (hb : (v i).ownBlock = some g) {cs' : List Value} (hr : W1.ownsRow base (e i) (sz i) (v i) (ns i) cs') (hg : W.grownBy W1 (some g)) :
    OS base w W1 f M e sz v ns (upd cs i cs') V vn vx X := by
  have ht := h.tag i hi g hb
  have s : Step W W1 f f i := Step.grown0 hg (fun k e _ => by injection e with e; rw [← e]; exact ht.2)
  have hob : base ≤ g := own_base (h.own i hi) g hb
  refine ⟨pw_below_grown h.old (some g) (Nat.le_trans h.bs h.old.size) hg (fun k e => by injection e with e; omega), h.bs, h.st _ _ _ _ i (by omega) h.x s, h.st, fun j hj => ?_, fun j hj => (h.tag j hj).step s, fun j hj => ?_, fun j hj => (h.vtag j hj).step s, fun j hj => ?_⟩
  · by_cases e : j = i
    · subst e; rw [upd_self]; exact hr
    · rw [upd_ne _ _ _ e]; exact own_step (h.own j hj) (h.tag j hj) e s
  · by_cases e : j = i
    · subst e; rw [hV, hn, hx]; exact nil_sees _
    · exact (h.sees j hj).step (h.vtag j hj) e s
  · by_cases e : j = i
    · subst e; rw [upd_self, hx]; exact ⟨_, rfl⟩
    · rw [upd_ne _ _ _ e]; exact h.pre j hj
/-- The i-th is grown. -/
theorem OS.append (h : OS base w W f M e sz v ns cs V vn vx X) (hi : i < M) {x' : Value} {ys : List Value} (hx' : W1.ownsRow base (e i) (sz i) x' (ns i + 1) (cs i ++ ys))
    (hat : (x'.ownBlock = (v i).ownBlock ∧ W.grownBy W1 (v i).ownBlock) ∨ ((∃ b, x'.ownBlock = some b ∧ W.heap.size ≤ b) ∧ W.grownBy W1 none)) :
    ∃ f', OS base w W1 f' M e sz (upd v i x') (upd ns i (ns i + 1)) (upd cs i (cs i ++ ys)) V vn vx X := by
  have ht := h.tag i hi
  obtain ⟨row, hg, hrow⟩ : ∃ row, W.grownBy W1 row ∧ (∀ k, row = some k → (v i).ownBlock = some k) := by
    rcases hat with ⟨_, hg⟩ | ⟨_, hg⟩
    · exact ⟨_, hg, fun k e => e⟩
    · exact ⟨_, hg, fun k e => by cases e⟩
  have s : Step W W1 f (fun k => if k < W.heap.size then f k else i) i := Step.grown hg (fun k e _ => (ht k (hrow k e)).2)
  have hob : ∀ k, row = some k → base ≤ k := fun k e => own_base (h.own i hi) k (hrow k e)
  have hsee : Sees W1 (V i) (vn i) (vx i) := by
    obtain ⟨r, hr⟩ := h.pre i hi
    by_cases hsame : ∃ k, x'.ownBlock = some k ∧ (V i).ownBlock = some k
    · obtain ⟨k, h1, h2⟩ := hsame
      obtain ⟨A, c, hv, hs⟩ := h.sees i hi
      refine ⟨A, c, hv, fun hp => ?_⟩
      obtain ⟨g, hA, _⟩ := hs hp
      rw [hv, hA] at h2
      have hgk : g = k := by simpa [Value.ownBlock] using h2
      subst hgk
      refine ⟨g, hA, fun j u hu => ?_⟩
      have := hx'.cells (g := g) h1 j u (by
        rw [hr, List.append_assoc, List.getElem?_append_left (List.getElem?_eq_some_iff.1 hu).1]
        exact hu)
      rwa [show (⟨g, 0, none⟩ : Addr).add j = ⟨g, j, none⟩ from (by simp [Addr.add]; omega)] at this
    · obtain ⟨A, c, hv, hs⟩ := h.sees i hi
      refine ⟨A, c, hv, fun hp => ?_⟩
      obtain ⟨g, rfl, hs2⟩ := hs hp
      have hob : (V i).ownBlock = some g := by rw [hv]; rfl
      have hgs := (h.vtag i hi g hob).1
      refine ⟨g, rfl, fun j u hu => ?_⟩
      have hne : x'.ownBlock ≠ some g := fun e => hsame ⟨g, e, hob⟩
      have hb : W1.heap[g]? = W.heap[g]? := by
        rcases hat with ⟨h1, hg⟩ | ⟨_, hg⟩
        · exact hg.block g hgs (fun e => hne (by rw [h1, ← e]))
        · exact hg.block g hgs (by simp)
      rw [World.cell?_of_block (a := ⟨g, j, none⟩) hb]
      exact hs2 j u hu
  refine ⟨_, pw_below_grown h.old row (Nat.le_trans h.bs h.old.size) hg hob, h.bs, h.st _ _ _ _ i (by omega) h.x s, h.st, fun j hj => ?_, fun j hj => ?_, fun j hj => ?_, fun j hj => (h.vtag j hj).step s, fun j hj => ?_⟩
  · by_cases e : j = i
    · subst e; rw [upd_self, upd_self, upd_self]; exact hx'
    · rw [upd_ne _ _ _ e, upd_ne _ _ _ e, upd_ne _ _ _ e]; exact own_step (h.own j hj) (h.tag j hj) e s
  · by_cases e : j = i
    · subst e
      rw [upd_self]
      intro k hk
      refine ⟨own_lt hx' k hk, ?_⟩
      show (if k < W.heap.size then f k else j) = j
      by_cases e : k < W.heap.size
      · rw [if_pos e]
        rcases hat with ⟨h1, _⟩ | ⟨⟨b, h1, h2⟩, _⟩
        · exact (ht k (by rw [← h1]; exact hk)).2
        · rw [h1] at hk
          injection hk with hk
          omega
      · rw [if_neg e]
    · rw [upd_ne _ _ _ e]; exact (h.tag j hj).step s
  · by_cases e : j = i
    · subst e; exact hsee
    · exact (h.sees j hj).step (h.vtag j hj) e s
  · by_cases e : j = i
    · subst e
      rw [upd_self]
      obtain ⟨r, hr⟩ := h.pre j hj
      exact ⟨r ++ ys, by rw [hr, List.append_assoc]⟩
    · rw [upd_ne _ _ _ e]; exact h.pre j hj
end
end Go.Proofs.Ytebiogaacikphaa.Pack
end
section
namespace Go.Proofs.Ytebiogaacikphaa.Pack
open Go.RowKit Go.Proofs.YtebiogaacikphaaW.PrintWords Go.Proofs.Ytebiogaacikphaa.PAll
set_option linter.unusedVariables false
set_option linter.unusedSimpArgs false
set_option linter.unnecessarySimpa false
section
variable {base gl : Nat} {w W : World} {f : Nat → Nat} {As : Nat → Option Addr} {ns Cs : Nat → Nat} {cs : Nat → List Int} {lo i n : Nat} {vg : Value} {us : Nat → Value}
theorem own_atB {e : TypeId} {size : Nat} {v : Value} {xs : List Value} (h : W.ownsRow base e size v n xs) (hp : 0 < n) : ∃ g c, v = .slice (some ⟨g, 0, none⟩) n c := by
  rcases h.2 with ⟨_, h0⟩ | ⟨g, cap, cur, hv, _⟩
  · omega
  · exact ⟨g, cap, hv⟩
end
end Go.Proofs.Ytebiogaacikphaa.Pack
end
section
namespace Go.Proofs.Ytebiogaacikphaa.PAll
open Go.RowKit Go.Proofs.YtebiogaacikphaaW.PrintWords Go.Proofs.YtebiogaacikphaaW.PrintLast Go.Proofs.YtebiogaacikphaaW.PrintMore
attribute [local go_sem] max2_int max_two
set_option linter.unusedVariables false
set_option linter.unusedSimpArgs false
theorem q33_7 {p : Prop} (h : p := by first | rfl | (simp [errW_none, errW_some] <;> rfl) | (simp [*, errW_none, errW_some] <;> rfl)) : p := h
theorem q33_0 {p : Prop} (h : p := by repeat (first | (with_reducible first | exact HB.out | apply below_alloc | apply pw_below_drewN | apply below_drew1) | exact HB.out)) : p := h
def dowelbook_word.f (a0 : Int) : Option (ByteArray) := some (strOfNums (([(wrap64 (65 + (Go.bits .and .i64 a0 15))) % 256, (wrap64 (65 + (Go.bits .and .i64 (a0 / 16) 15))) % 256, (wrap64 (65 + (Go.bits .and .i64 (a0 / 256) 15))) % 256, (wrap64 (65 + (Go.bits .and .i64 (a0 / 4096) 15))) % 256] : List Int)))
set_option maxHeartbeats 8000000 in
set_option maxRecDepth 100000 in
theorem dowelbook_word.calls (a0 : Int) (r : ByteArray) (w : World) (h : dowelbook_word.f a0 = some r) :
  Calls Try.prog 98 #[.int .i64 a0] w fun e w' => e = .returned (.string r) ∧ Below w.heap.size w w' := by
 have HB := Aside0.mk (Below.refl w.heap.size w)
 have H : (some (strOfNums (([(wrap64 (65 + (Go.bits .and .i64 a0 15))) % 256, (wrap64 (65 + (Go.bits .and .i64 (a0 / 16) 15))) % 256, (wrap64 (65 + (Go.bits .and .i64 (a0 / 256) 15))) % 256, (wrap64 (65 + (Go.bits .and .i64 (a0 / 4096) 15))) % 256] : List Int)))) = some r := h
 clear h
 obtain ⟨y487, hy487⟩ : ∃ y_ : List Int, y_ = (([(wrap64 (65 + (Go.bits .and .i64 a0 15))) % 256, (wrap64 (65 + (Go.bits .and .i64 (a0 / 16) 15))) % 256, (wrap64 (65 + (Go.bits .and .i64 (a0 / 256) 15))) % 256, (wrap64 (65 + (Go.bits .and .i64 (a0 / 4096) 15))) % 256] : List Int)) := ⟨_, rfl⟩
 replace H : (some (strOfNums y487)) = some r := by first | (rw [hy487]; with_reducible exact H) | (have H2_ := (Option.bind_some _ _).symm.trans H; rw [hy487]; with_reducible exact H2_) | (have H2_ := (Option.bind_some _ _).symm.trans H; with_reducible exact H2_) | with_reducible exact H | (rw [hy487]; exact H) | exact H
 have Ny487 := Aside0.mk hy487; clear hy487
 obtain rfl := Option.some.inj H
 go_enter Try.func98, Try.ntmps98
 go_wp2_with (first | ((with_reducible refine gate_dst (N := 22) rfl ?_); refine Kd.R_lit (Kd.int .u8) _ 5 ?hg (N := 22) ?hd (xs := ([(wrap64 (65 + (Go.bits .and .i64 a0 15))) % 256, (wrap64 (65 + (Go.bits .and .i64 (a0 / 16) 15))) % 256, (wrap64 (65 + (Go.bits .and .i64 (a0 / 256) 15))) % 256, (wrap64 (65 + (Go.bits .and .i64 (a0 / 4096) 15))) % 256] : List Int)) (inner := [.int .u8 ((wrap64 (65 + (Go.bits .and .i64 a0 15))) % 256), .int .u8 ((wrap64 (65 + (Go.bits .and .i64 (a0 / 16) 15))) % 256), .int .u8 ((wrap64 (65 + (Go.bits .and .i64 (a0 / 256) 15))) % 256), .int .u8 ((wrap64 (65 + (Go.bits .and .i64 (a0 / 4096) 15))) % 256)]) (ok := fun _ => True) (okp := fun _ => True) ?hr ?hp (fun _ hk => hk) trivial (Below.refl _ _) (Nat.le_refl _) (by simp) ?_; (case hd => rfl); (case hg => rfl); (case hr => first | (go_simp; done) | (go_simp; rfl)); (case hp => exact (Reps.one (show Kd.M (Kd.int .u8) _ _ _ ((wrap64 (65 + (Go.bits .and .i64 a0 15))) % 256) [.int .u8 ((wrap64 (65 + (Go.bits .and .i64 a0 15))) % 256)] from rfl) (Reps.one (show Kd.M (Kd.int .u8) _ _ _ ((wrap64 (65 + (Go.bits .and .i64 (a0 / 16) 15))) % 256) [.int .u8 ((wrap64 (65 + (Go.bits .and .i64 (a0 / 16) 15))) % 256)] from rfl) (Reps.one (show Kd.M (Kd.int .u8) _ _ _ ((wrap64 (65 + (Go.bits .and .i64 (a0 / 256) 15))) % 256) [.int .u8 ((wrap64 (65 + (Go.bits .and .i64 (a0 / 256) 15))) % 256)] from rfl) (Reps.one (show Kd.M (Kd.int .u8) _ _ _ ((wrap64 (65 + (Go.bits .and .i64 (a0 / 4096) 15))) % 256) [.int .u8 ((wrap64 (65 + (Go.bits .and .i64 (a0 / 4096) 15))) % 256)] from rfl) (Reps.none _ _)))))); intro v488 w2 ho3 hb hg_ hnew_; clear hg_ hnew_; (first | rw [← Ny487.out] at ho3 | (simp only [Int.reduceToNat] at ho3; rw [← Ny487.out] at ho3)); have n0_ := Aside0.mk (Kd.R_lower ho3 (below_size q33_0)); have n1_ := Aside0.mk (below_step q33_0 hb); clear HB; have HO489 := n0_; have HB := n1_; clear n0_ n1_; clear hb ho3; have hcv4 := own_string (P := Try.prog) Try.underlying37 Try.underlying5 Try.underlying9 (Kd.own_of_R HO489.out)))
 go_ret
 exact ⟨q33_7, q33_0⟩
end Go.Proofs.Ytebiogaacikphaa.PAll
end
