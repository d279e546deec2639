/- Parts of the proof of coreGrammars: LentCore, LendCore, Sq, PAllx1, PAllx3, PAllx15. No condition beyond each lemma's own. -/
import Derived.IntWalk
import Derived.StillTailTactics
import Derived.WalkKit
import Derived.Test.YtebiogaacikphaaTG0
import Derived.Test.YtebiogaacikphaaTG1
import Derived.Test.YtebiogaacikphaaTG3
import Derived.Test.YtebiogaacikphaaTG4
section
namespace Go.Proofs.Ytebiogaacikphaa.Core
open Go.RowKit Go.Proofs.YtebiogaacikphaaW.PrintWords Go.Proofs.Ytebiogaacikphaa.PAll
set_option linter.unusedVariables false
def nodeCells (x : S90) : List Value := [.int .i64 x.f0, .int .u64 x.f1.f0, .int .u64 x.f1.f1, .int .u64 x.f1.f2, .int .u64 x.f1.f3, .int .i64 x.f2, .string x.f3]
theorem flatNode : Flat k90 nodeCells := ⟨fun w x cs => ⟨fun h => k90_open h, fun h => h ▸ k90_mk w x⟩⟩
def holdNode : S90 := ⟨-77, z76, 0, ⟨#[]⟩⟩
def holder : ByteArray := ⟨#[45, 104, 111, 108, 100, 101, 114, 45]⟩
/-- A lent rule's cells: its name, its body at block g, with one place behind it. -/
def ruleCells (r : S30) (g : Nat) : List Value := [.string r.f0, .slice (some ⟨g, 0, none⟩) r.f1.length (r.f1.length + 1)]
def lentCells : List (S30) → List Nat → List Value
  | r :: l, g :: G => ruleCells r g ++ lentCells l G
  | _, _ => []
theorem lentCells_length : ∀ (l : List (S30)) (G : List Nat), G.length = l.length → (lentCells l G).length = l.length * 2
  | [], G, _ => by cases G <;> simp [lentCells]
  | r :: l, [], h => by simp at h
  | r :: l, g :: G, h => by
    rw [lentCells, List.length_append, lentCells_length l G (by simpa using h)]
    simp [ruleCells]
    omega
theorem lentCells_snoc : ∀ (l : List (S30)) (G : List Nat) (r : S30) (g : Nat), G.length = l.length → lentCells (l ++ [r]) (G ++ [g]) = lentCells l G ++ ruleCells r g
  | [], [], r, g, _ => by simp [lentCells]
  | [], _ :: _, _, _, h => by simp at h
  | _ :: _, [], _, _, h => by simp at h
  | x :: l, y :: G, r, g, h => by
    simp only [List.cons_append, lentCells]
    rw [lentCells_snoc l G r g (by simpa using h), List.append_assoc]
theorem lentCells_get : ∀ (l : List (S30)) (G : List Nat) (j i : Nat) (r : S30) (g : Nat), l[j]? = some r → G[j]? = some g → i < 2 → (lentCells l G)[j * 2 + i]? = (ruleCells r g)[i]?
  | [], _, j, _, _, _, h, _, _ => by simp at h
  | _ :: _, [], j, _, _, _, _, h, _ => by simp at h
  | x :: l, y :: G, 0, i, r, g, h1, h2, hi => by
    have e1 : x = r := by simpa using h1
    have e2 : y = g := by simpa using h2
    subst e1 e2
    rw [lentCells, Nat.zero_mul, Nat.zero_add, List.getElem?_append_left (by simpa [ruleCells] using hi)]
  | x :: l, y :: G, j + 1, i, r, g, h1, h2, hi => by
    rw [lentCells, List.getElem?_append_right (by simp [ruleCells]; omega)]
    have := lentCells_get l G j i r g (by simpa using h1) (by simpa using h2) hi
    rw [← this]
    congr 1
    simp [ruleCells]
    omega
/-- The bodies of the first rules lie at G. -/
def BodiesAt (W : World) (l : List (S30)) (G : List Nat) : Prop := G.length = l.length ∧ ∀ (j : Nat) (r : S30) (g : Nat), l[j]? = some r → G[j]? = some g → RowAt W g 90 (r.f1.flatMap nodeCells ++ nodeCells holdNode)
/-- A core grammar's rules as they were lent: at block gR, the bodies at G. -/
structure Lent (W : World) (gR : Nat) (G : List Nat) (l : List (S30)) : Prop where
  rules : RowAt W gR 30 (lentCells l G ++ [.string holder, .slice none 0 0])
  bodies : BodiesAt W l G
theorem BodiesAt.below {W W' : World} {l : List (S30)} {G : List Nat} (h : BodiesAt W l G) (hb : Below W.heap.size W W') : BodiesAt W' l G := ⟨h.1, fun j r g h1 h2 => (h.2 j r g h1 h2).below hb⟩
theorem BodiesAt.grown {W W' : World} {l : List (S30)} {G : List Nat} (h : BodiesAt W l G) {row : Nat} (hg : W.grownBy W' (some row)) (hne : row ∉ G) : BodiesAt W' l G := ⟨h.1, fun j r g h1 h2 => (h.2 j r g h1 h2).grown hg (fun e => hne (by injection e with e; rw [← e]; exact List.mem_of_getElem? h2))⟩
theorem BodiesAt.snoc {W : World} {l : List (S30)} {G : List Nat} (h : BodiesAt W l G) {r : S30} {g : Nat} (hr : RowAt W g 90 (r.f1.flatMap nodeCells ++ nodeCells holdNode)) : BodiesAt W (l ++ [r]) (G ++ [g]) := by
  refine ⟨by simp [h.1], fun j r' g' h1 h2 => ?_⟩
  rcases Nat.lt_or_ge j l.length with hj | hj
  · rw [List.getElem?_append_left hj] at h1
    rw [List.getElem?_append_left (by rw [h.1]; exact hj)] at h2
    exact h.2 j r' g' h1 h2
  · have hj' : j = l.length := by
      have := (List.getElem?_eq_some_iff.1 h1).1
      simp at this
      omega
    subst hj'
    have e1 : r = r' := by simpa using h1
    have e2 : g = g' := by rw [← h.1] at h2; simpa using h2
    subst e1 e2
    exact hr
theorem BodiesAt.lt {W : World} {l : List (S30)} {G : List Nat} (h : BodiesAt W l G) : ∀ g ∈ G, g < W.heap.size := by
  intro g hg
  obtain ⟨j, hj, rfl⟩ := List.mem_iff_getElem.1 hg
  exact (h.2 j _ _ (List.getElem?_eq_getElem (by rw [← h.1]; exact hj)) (List.getElem?_eq_getElem hj)).lt
theorem Lent.below {W W' : World} {gR : Nat} {G : List Nat} {l : List (S30)} (h : Lent W gR G l) (hb : Below W.heap.size W W') : Lent W' gR G l := ⟨h.rules.below hb, h.bodies.below hb⟩
/-- What was lent, read. -/
theorem Lent.body {W : World} {gR : Nat} {G : List Nat} {l : List (S30)} (h : Lent W gR G l) (hb : ∀ r ∈ l, r.f1.length ≤ 9223372036854775806) {j : Nat} {r : S30} {g : Nat} (h1 : l[j]? = some r) (h2 : G[j]? = some g) :
    Kd.C k90 W (some ⟨g, 0, none⟩) r.f1.length r.f1 ∧ Kd.C k90 W (some ⟨g, 0, none⟩) (r.f1 ++ [holdNode]).length (r.f1 ++ [holdNode]) := by
  have hrow := h.bodies.2 j r g h1 h2
  have hl := hb r (List.mem_of_getElem? h1)
  exact ⟨flatNode.reads hrow r.f1 _ rfl (by omega), flatNode.reads hrow (r.f1 ++ [holdNode]) [] (by simp [List.flatMap_append]) (by simp; omega)⟩
theorem Lent.reads {W : World} {gR : Nat} {G : List Nat} {l : List (S30)} (h : Lent W gR G l) (hl : l.length ≤ 9223372036854775806) (hb : ∀ r ∈ l, r.f1.length ≤ 9223372036854775806) : Kd.C k30 W (some ⟨gR, 0, none⟩) l.length l := by
  refine ⟨rfl, by omega, fun _ => ⟨_, rfl, fun j r hj => ?_⟩⟩
  have hjl : j < l.length := (List.getElem?_eq_some_iff.1 hj).1
  have hg : j < G.length := by rw [h.bodies.1]; exact hjl
  have hb' := (h.body hb hj (List.getElem?_eq_getElem hg)).1
  refine ⟨ruleCells r G[j], rfl, k30_mk W r (by omega) hb', fun i u hu => ?_⟩
  have hi : i < 2 := by have := (List.getElem?_eq_some_iff.1 hu).1; simpa [ruleCells] using this
  show W.cell? ((⟨gR, 0, none⟩ : Addr).add (j * 2 + i)) = some u
  have hlt : j * 2 + i < (lentCells l G).length := by
    rw [lentCells_length l G h.bodies.1]
    omega
  rw [add_plain, h.rules.cell, List.getElem?_append_left hlt, lentCells_get l G j i r G[j] hj (List.getElem?_eq_getElem hg) hi]
  exact hu
end Go.Proofs.Ytebiogaacikphaa.Core
end
section
namespace Go.Proofs.Ytebiogaacikphaa.Core
open Go.RowKit Go.Proofs.YtebiogaacikphaaW.PrintWords Go.Proofs.Ytebiogaacikphaa.PAll
set_option linter.unusedVariables false
set_option linter.unusedSimpArgs false
theorem szNode (W : World) : (sizeOf (Try.prog.elem 25)).run Try.prog W = .ok 7 W := by kernel_rfl
theorem szRule (W : World) : (sizeOf 30).run Try.prog W = .ok 2 W := by kernel_rfl
def zeroRule : List Value := [.string ⟨#[]⟩, .slice none 0 0]
/-- What a round of LendCore keeps. -/
structure LI (w : World) (gb gr gR : Nat) (bx : Obj) (l : List (S30)) (i : Nat) (G : List Nat) (W : World) : Prop where
  box : W.heap[gb]? = some bx
  res : W.heap[gr]? = some (.cells #[.slice none 0 0, .int .i64 0] 24 (0, 0))
  rules : RowAt W gR 30 (lentCells (l.take i) G ++ (List.replicate (l.length + 1 - i) zeroRule).flatten)
  bodies : BodiesAt W (l.take i) G
  old : Below w.heap.size w W
  ord : w.heap.size ≤ gb ∧ gb < gr ∧ gr < gR ∧ ∀ g ∈ G, gR < g
theorem LI.below {w W W' : World} {gb gr gR : Nat} {bx : Obj} {l : List (S30)} {i : Nat} {G : List Nat} (h : LI w gb gr gR bx l i G W) (hb : Below W.heap.size W W') : LI w gb gr gR bx l i G W' :=
  ⟨blk_below h.box hb, blk_below h.res hb, h.rules.below hb, h.bodies.below hb, below_step h.old hb, h.ord⟩
/-- A block behind all of it is written. -/
theorem LI.grown {w W W' : World} {gb gr gR : Nat} {bx : Obj} {l : List (S30)} {i : Nat} {G : List Nat} (h : LI w gb gr gR bx l i G W) {g : Nat} (hg : W.grownBy W' (some g)) (h1 : gR < g) (h2 : ∀ q ∈ G, q < g) : LI w gb gr gR bx l i G W' := by
  have := h.ord
  exact ⟨(hg.block _ (blk_lt h.box) (by simp; omega)).trans h.box, (hg.block _ (blk_lt h.res) (by simp; omega)).trans h.res, h.rules.grown hg (by simp; omega), h.bodies.grown hg (fun hm => by have := h2 _ hm; omega), pw_below_grown h.old (some g) h.old.size hg (fun k hk => by cases hk; omega), h.ord⟩
/-- The next rule is in. -/
theorem LI.next {w W W' : World} {gb gr gR : Nat} {bx : Obj} {l : List (S30)} {i : Nat} {G : List Nat} (h : LI w gb gr gR bx l i G W) (hi : i < l.length) {g : Nat} (hb : RowAt W g 90 (l[i].f1.flatMap nodeCells ++ nodeCells holdNode)) (hg : gR < g)
    (hr : RowAt W' gR 30 ((lentCells (l.take i) G ++ (List.replicate (l.length + 1 - i) zeroRule).flatten).take (i * 2) ++ ruleCells l[i] g ++ (lentCells (l.take i) G ++ (List.replicate (l.length + 1 - i) zeroRule).flatten).drop (i * 2 + 2)))
    (hw : W.grownBy W' (some gR)) : LI w gb gr gR bx l (i + 1) (G ++ [g]) W' := by
  have ho := h.ord
  have hlen : (lentCells (l.take i) G).length = i * 2 := by
    rw [lentCells_length _ _ h.bodies.1, List.length_take]
    omega
  have hrep : (List.replicate (l.length + 1 - i) zeroRule).flatten = zeroRule ++ (List.replicate (l.length + 1 - (i + 1)) zeroRule).flatten := by
    rw [show l.length + 1 - i = (l.length + 1 - (i + 1)) + 1 by omega, List.replicate_succ, List.flatten_cons]
  refine ⟨(hw.block _ (blk_lt h.box) (by simp; omega)).trans h.box, (hw.block _ (blk_lt h.res) (by simp; omega)).trans h.res, ?_, ?_, pw_below_grown h.old (some gR) h.old.size hw (fun k hk => by cases hk; omega), ho.1, ho.2.1, ho.2.2.1, fun q hq => ?_⟩
  · rw [List.take_append_of_le_length (by omega), List.take_of_length_le (by omega), ← hlen, List.drop_append, hlen] at hr
    rw [List.drop_of_length_le (by omega), List.nil_append, show i * 2 + 2 - i * 2 = 2 by omega, hrep] at hr
    rw [List.take_succ_eq_append_getElem hi, lentCells_snoc _ _ _ _ h.bodies.1]
    exact hr
  · rw [List.take_succ_eq_append_getElem hi]
    exact (h.bodies.grown hw (fun hm => by have := ho.2.2.2 _ hm; omega)).snoc (hb.grown hw (by simp; omega))
  · rcases List.mem_append.1 hq with hq | hq
    · exact ho.2.2.2 q hq
    · rw [List.mem_singleton.1 hq]
      exact hg
/-- All is in. -/
structure LF (w : World) (gb gr gR : Nat) (bx : Obj) (l : List (S30)) (G : List Nat) (W : World) : Prop where
  box : W.heap[gb]? = some bx
  res : W.heap[gr]? = some (.cells #[.slice none 0 0, .int .i64 0] 24 (0, 0))
  lent : Lent W gR G l
  old : Below w.heap.size w W
  ord : w.heap.size ≤ gb ∧ gb < gr ∧ gr < gR ∧ ∀ g ∈ G, gR < g
theorem LF.below {w W W' : World} {gb gr gR : Nat} {bx : Obj} {l : List (S30)} {G : List Nat} (h : LF w gb gr gR bx l G W) (hb : Below W.heap.size W W') : LF w gb gr gR bx l G W' :=
  ⟨blk_below h.box hb, blk_below h.res hb, h.lent.below hb, below_step h.old hb, h.ord⟩
theorem LI.last {w W W' : World} {gb gr gR : Nat} {bx : Obj} {l : List (S30)} {G : List Nat} (h : LI w gb gr gR bx l l.length G W)
    (hr : RowAt W' gR 30 ((lentCells (l.take l.length) G ++ (List.replicate (l.length + 1 - l.length) zeroRule).flatten).take (l.length * 2) ++ [.string holder, .slice none 0 0] ++ (lentCells (l.take l.length) G ++ (List.replicate (l.length + 1 - l.length) zeroRule).flatten).drop (l.length * 2 + 2)))
    (hw : W.grownBy W' (some gR)) : LF w gb gr gR bx l G W' := by
  have ho := h.ord
  have hbod := h.bodies
  rw [List.take_of_length_le (Nat.le_refl _)] at hr hbod
  have hlen : (lentCells l G).length = l.length * 2 := lentCells_length _ _ hbod.1
  have hone : (List.replicate (l.length + 1 - l.length) zeroRule).flatten = zeroRule := by
    rw [show l.length + 1 - l.length = 1 by omega]
    rfl
  refine ⟨(hw.block _ (blk_lt h.box) (by simp; omega)).trans h.box, (hw.block _ (blk_lt h.res) (by simp; omega)).trans h.res, ⟨?_, hbod.grown hw (fun hm => by have := ho.2.2.2 _ hm; omega)⟩, pw_below_grown h.old (some gR) h.old.size hw (fun k hk => by cases hk; omega), ho⟩
  rw [hone, List.take_append_of_le_length (by omega), List.take_of_length_le (by omega), List.drop_of_length_le (by rw [List.length_append, hlen]; simp [zeroRule]), List.append_nil] at hr
  exact hr
set_option maxHeartbeats 1000000 in
set_option maxRecDepth 100000 in
theorem LendCore_calls (A : Option Addr) (c : Nat) (l : List (S30)) (st : Int) (w : World) (hr : Kd.C k30 w A l.length l) (hc : l.length ≤ c) (hn : l.length ≤ 65536) (hm : ∀ r ∈ l, r.f1.length ≤ 1048576) :
    Calls Try.prog 18 #[.agg #[.slice A l.length c, .int .i64 st]] w fun e w' => ∃ gR G, e = .returned (.agg #[.slice (some ⟨gR, 0, none⟩) l.length (l.length + 1), .int .i64 st]) ∧ Lent w' gR G l ∧ Below w.heap.size w w' ∧ w.heap.size ≤ gR ∧ ∀ g ∈ G, gR < g := by
  have HR := Aside0.mk hr
  have HC := Aside0.mk hc
  have HM := Aside0.mk hm
  have q1 : (l.length : Int) ≤ 65536 := by omega
  clear hr hc hm
  go_enter Try.func18, Try.ntmps18
  go_wp2_with (first
    | ((with_reducible refine gate_dst (N := 1) rfl ?_); refine box_event (N := 1) rfl rfl (cs := #[.slice A l.length c, .int .i64 st]) (t := 24) ?hr1 ?_; (case hr1 => first | (go_simp; done) | (go_simp; rfl)); intro gb hgb w1 hbox hb1; have HX := Aside0.mk hbox; have HB := Aside0.mk hb1; have HG := Aside0.mk (show w.heap.size ≤ gb by omega); clear hbox hb1 hgb)
    | ((with_reducible refine gate_dst (N := 2) rfl ?_); refine box_event (N := 2) rfl rfl (cs := #[.slice none 0 0, .int .i64 0]) (t := 24) ?hr2 ?_; (case hr2 => first | (go_simp; done) | (go_simp; rfl)); intro gr hgr w2 hbox hb2; have HR2 := Aside0.mk hbox; have n1_ := Aside0.mk (blk_below HX.out hb2); have n2_ := Aside0.mk (below_step HB.out hb2); have HG2 := Aside0.mk (show gb < gr by rw [hgr]; exact blk_lt HX.out); clear HX HB hbox hb2 hgr; have HX := n1_; have HB := n2_; clear n1_ n2_; have h0 := blk_cell HX.out 0; simp only [List.getElem?_toArray, List.getElem?_cons_zero] at h0)
    | ((with_reducible refine gate_dst (N := 10) rfl ?_); refine make_event rfl 22 (.tmp 9) (.tmp 9) rfl (l.length + 1) rfl rfl 30 (.agg #[.string ⟨#[]⟩, .slice none 0 0]) 2 40 Try.underlying22 (by kernel_rfl) rfl (by omega) (by omega) ?_; intro gR hgR w3 hrow hb3; have HI := Aside0.mk (show LI w gb gr gR (.cells #[.slice A l.length c, .int .i64 st] 24 (0, 0)) l 0 [] w3 from ⟨blk_below HX.out hb3, blk_below HR2.out hb3, hrow, ⟨rfl, fun j r g h1 h2 => by simp at h2⟩, below_step HB.out hb3, HG.out, HG2.out, by rw [hgR]; exact blk_lt HR2.out, fun g hg => by cases hg⟩); clear HX HR2 HB h0 hrow hb3 hgR))
  go_loopw [4] (fun v wr => ∃ (i : Nat) (G : List Nat), v = .int .i64 i ∧ i ≤ l.length ∧ Aside0 (LI w gb gr gR (.cells #[.slice A l.length c, .int .i64 st] 24 (0, 0)) l i G wr)) (fun v _ => l.length - (intOf v).toNat)
  case atStart => exact ⟨0, [], rfl, Nat.zero_le _, HI⟩
  case round =>
    clear HI
    obtain ⟨i, G, rfl, hi, HI⟩ := hrel
    have h0 := blk_cell HI.out.box 0
    simp only [List.getElem?_toArray, List.getElem?_cons_zero] at h0
    by_cases c1 : i < l.length
    · obtain ⟨ad, A1, c1', e, hx0, hx1, hl1, hi1⟩ := at_T30 HR.out (i : Int) (by omega) (by omega)
      cases e
      rw [Int.toNat_natCast] at hx0 hx1
      have hrho : rd_T30 l (i : Int) = l[i] := by
        rw [rd_T30, Int.toNat_natCast, List.getD_eq_getElem?_getD, List.getElem?_eq_getElem c1]
        rfl
      rw [hrho] at hx0 hx1 hl1 hi1
      have HM1 := Aside0.mk (HM.out l[i] (List.getElem_mem _))
      have HNX := Aside0.mk (fun {W W' : World} {g : Nat} (h : LI w gb gr gR (.cells #[.slice (some ad) l.length c, .int .i64 st] 24 (0, 0)) l i G W) => h.next (W' := W') (g := g) c1)
      generalize l[i] = rho at *
      clear hrho
      have HX0 := Aside0.mk hx0
      have HX1 := Aside0.mk hx1
      replace hx0 := (HI.out.old.cell (World.block_lt_of_cell? w _ HX0.out)).trans HX0.out
      replace hx1 := (HI.out.old.cell (World.block_lt_of_cell? w _ HX1.out)).trans HX1.out
      have HI1 := Aside0.mk hi1
      have HL1 := Aside0.mk hl1
      have q3 : (rho.f1.length : Int) ≤ 1048576 := by have := HM1.out; omega
      have q4 : (i : Int) ≤ 65536 := by omega
      clear hi1 hl1
      have HZ : Aside0 ((List.replicate (rho.f1.length + 1) (nodeCells z90)).flatten.length = (rho.f1.length + 1) * 7) := ⟨by simp [nodeCells]⟩
      have HLN : Aside0 ((rho.f1.flatMap nodeCells).length = rho.f1.length * 7) := ⟨flatNode.all rho.f1⟩
      have HFIT : Aside0 ((rho.f1.flatMap nodeCells).length ≤ (List.replicate (rho.f1.length + 1) (nodeCells z90)).flatten.length) := ⟨by rw [HZ.out, HLN.out]; omega⟩
      have HFIT2 := Aside0.mk (put_last_fit (rho.f1.flatMap nodeCells) (List.replicate (rho.f1.length + 1) (nodeCells z90)).flatten (nodeCells holdNode) (rho.f1.length * 7) HLN.out (by rw [HZ.out]; simp [nodeCells]; omega))
      have HROW := Aside0.mk (put_last (rho.f1.flatMap nodeCells) (List.replicate (rho.f1.length + 1) (nodeCells z90)).flatten (nodeCells holdNode) (rho.f1.length * 7) HLN.out (by rw [HZ.out]; simp [nodeCells]; omega))
      have HSRC := fun (W : World) (hb : Below w.heap.size w W) => flatNode.cells (by decide) (Kd.C_below HI1.out hb)
      have HSRC' := Aside0.mk HSRC
      clear HSRC
      go_wp2_with (first
        | ((with_reducible refine gate_dst (N := 26) rfl ?_); refine make_event rfl 25 (.tmp 25) (.tmp 25) rfl (rho.f1.length + 1) rfl rfl 90 (.agg #[.int .i64 0, .int .u64 0, .int .u64 0, .int .u64 0, .int .u64 0, .int .i64 0, .string ⟨#[]⟩]) 7 64 Try.underlying25 (by kernel_rfl) rfl (by omega) (by omega) ?_; intro g5 hg5 w4 hrow hb4; have HG5 := Aside0.mk (show gR < g5 ∧ ∀ q ∈ G, q < g5 by rw [hg5]; exact ⟨HI.out.rules.lt, HI.out.bodies.lt⟩); have n1_ := Aside0.mk (HI.out.below hb4); have H5 := Aside0.mk (show RowAt w4 g5 90 (List.replicate (rho.f1.length + 1) (nodeCells z90)).flatten from hrow); clear HI hrow hb4 hg5; have HI := n1_; clear n1_; clear hx0 hx1 h0; have hx0 := (HI.out.old.cell (World.block_lt_of_cell? w _ HX0.out)).trans HX0.out; have hx1 := (HI.out.old.cell (World.block_lt_of_cell? w _ HX1.out)).trans HX1.out; have h0 := blk_cell HI.out.box 0; simp only [List.getElem?_toArray, List.getElem?_cons_zero] at h0)
        | ((with_reducible refine gate_dst (N := 34) rfl ?_); refine copy_event rfl (.tmp 27) (.tmp 33) 25 25 rfl 90 7 Try.underlying25 (by kernel_rfl) rfl rfl (Nat.le_succ _) H5.out HLN.out HFIT.out (HSRC'.out _ HI.out.old) (flatNode.ones rho.f1) ?_; intro w5 hrow hgr; have n1_ := Aside0.mk (HI.out.grown hgr HG5.out.1 HG5.out.2); have n2_ := Aside0.mk hrow; clear HI H5 hrow hgr; have HI := n1_; have H5 := n2_; clear n1_ n2_; clear hx0 hx1 h0; have hx0 := (HI.out.old.cell (World.block_lt_of_cell? w _ HX0.out)).trans HX0.out; have hx1 := (HI.out.old.cell (World.block_lt_of_cell? w _ HX1.out)).trans HX1.out; have h0 := blk_cell HI.out.box 0; simp only [List.getElem?_toArray, List.getElem?_cons_zero] at h0)
        | ((with_reducible refine gate_store (t := 90) (p := 40) rfl ?_); refine put_event rfl rfl 90 (.tmp 40) (.tmp 39) rfl (u := .agg (nodeCells holdNode).toArray) (seg := nodeCells holdNode) rfl rfl H5.out rfl (by kernel_rfl) HFIT2.out (flatNode.one holdNode) ?_; intro w6 hrow hgr; have n1_ := Aside0.mk (HI.out.grown hgr HG5.out.1 HG5.out.2); have n2_ := Aside0.mk (show RowAt w6 g5 90 (rho.f1.flatMap nodeCells ++ nodeCells holdNode) from HROW.out ▸ hrow); clear HI H5 hrow hgr; have HI := n1_; have H5 := n2_; clear n1_ n2_; clear hx0 hx1 h0; have hx0 := (HI.out.old.cell (World.block_lt_of_cell? w _ HX0.out)).trans HX0.out; have hx1 := (HI.out.old.cell (World.block_lt_of_cell? w _ HX1.out)).trans HX1.out; have h0 := blk_cell HI.out.box 0; simp only [List.getElem?_toArray, List.getElem?_cons_zero] at h0))
      have hs1 : IntKind.i64.wrap (rho.f1.length : Int) = (rho.f1.length : Int) := IntWalk.i64_in _ (by omega)
      have hsl := run_slice_own (P := Try.prog) (t := 25) (size := 7) rfl szNode g5 (rho.f1.length + 1) (rho.f1.length + 1) rho.f1.length (by omega)
      have hix := run_indexAt_own (P := Try.prog) (t := 22) (size := 2) Try.underlying22 szRule gR (l.length + 1) (l.length + 1) i (by omega)
      go_still_tail 15, (by kernel_rfl)
      change wpList _ _ _ _ _ w6.drew
      have n1_ := Aside0.mk (HI.out.below (below_drew (Below.refl w6.heap.size w6)))
      have n2_ := Aside0.mk (H5.out.below (below_drew (Below.refl w6.heap.size w6)))
      clear HI H5
      have HI := n1_
      have H5 := n2_
      clear n1_ n2_
      generalize w6.drew = w7 at *
      refine put_event rfl rfl 30 (.tmp 55) (.tmp 54) rfl (off := i * 2) (u := .agg (ruleCells rho g5).toArray) (seg := ruleCells rho g5) rfl rfl HI.out.rules rfl (by kernel_rfl) (by
        have h1 := lentCells_length _ _ HI.out.bodies.1
        rw [List.length_append, h1, List.length_take]
        simp [ruleCells, zeroRule]
        omega) (by simp [ruleCells, Value.oneCell']) ?_
      intro w8 hrow hgr
      have n1_ := Aside0.mk (HNX.out HI.out H5.out HG5.out.1 hrow hgr)
      clear HI H5 hrow hgr HNX HM1 HX0 HX1 hx0 hx1 h0 HI1 HL1 HZ HLN HFIT HFIT2 HROW HSRC' hs1 hsl hix
      have HI := n1_
      clear n1_
      go_wp2
      go_roundw
      case rel => exact ⟨i + 1, G ++ [g5], by go_num, by omega, HI⟩
      case measure => simp [intOf]; omega
    · have e1 : i = l.length := by omega
      subst e1
      have HIX := Aside0.mk (fun W => run_indexAt_own (P := Try.prog) (t := 22) (size := 2) Try.underlying22 szRule gR (l.length + 1) (l.length + 1) l.length (by omega) W)
      have HSL := Aside0.mk (fun W => run_slice_own (P := Try.prog) (t := 22) (size := 2) rfl szRule gR (l.length + 1) (l.length + 1) l.length (by omega) W)
      have hix := HIX.out
      go_wp2_with (first
        | ((with_reducible refine gate_store (t := 30) (p := 61) rfl ?_); refine put_event rfl rfl 30 (.tmp 61) (.tmp 60) rfl (off := l.length * 2) (u := .agg #[.string holder, .slice none 0 0]) (seg := [.string holder, .slice none 0 0]) rfl rfl HI.out.rules rfl (by kernel_rfl) (by
            have h1 := lentCells_length _ _ HI.out.bodies.1
            rw [List.length_append, h1, List.length_take]
            simp [zeroRule]) (by simp [Value.oneCell']) ?_; intro w4 hrow hgr; have HF := Aside0.mk (HI.out.last hrow hgr); clear HI hrow hgr h0 hix HIX; have h0 := blk_cell HF.out.box 0; have h0b := blk_cell HF.out.box 1; have hsl := HSL.out; simp only [List.getElem?_toArray, List.getElem?_cons_zero, List.getElem?_cons_succ] at h0 h0b))
      go_still_tail 8, (by kernel_rfl)
      change wpList _ _ _ _ _ w4.drew
      have n1_ := Aside0.mk (HF.out.below (below_drew (Below.refl w4.heap.size w4)))
      clear HF
      have HF := n1_
      clear n1_
      generalize w4.drew = w5 at *
      refine store_whole rfl rfl 24 (.tmp 2) (.tmp 69) rfl (cs := #[.slice (some ⟨gR, 0, none⟩) l.length (l.length + 1), .int .i64 st]) rfl rfl HF.out.res rfl (by kernel_rfl) (by simp [Value.oneCell']) ?_
      intro w6 hbox hgr _
      have ho := HF.out.ord
      have hl := HF.out.lent
      have hres : Below w.heap.size w w6 := pw_below_grown HF.out.old (some gr) HF.out.old.size hgr (fun k hk => by cases hk; omega)
      have hlent : Lent w6 gR G l := ⟨hl.rules.grown hgr (by simp; omega), hl.bodies.grown hgr (fun hm => by have := ho.2.2.2 _ hm; omega)⟩
      clear HF hl hgr
      go_wp2
      refine bodyPost_ret (results_cell_row rfl _ _ gr 24 #[.slice (some ⟨gR, 0, none⟩) l.length (l.length + 1), .int .i64 st] (0, 0) _ rfl hbox rfl rfl (by kernel_rfl)) rfl ?_
      exact ⟨gR, G, rfl, hlent, hres, by omega, ho.2.2.2⟩
end Go.Proofs.Ytebiogaacikphaa.Core
end
section
namespace Go.Proofs.YtebiogaacikphaaW.PrintWords
open Go.RowKit
set_option linter.unusedVariables false
section
variable {w W W1 : World} {g g0 : Nat} {t : TypeId} {cs : Array Value} {o : Obj}
theorem bxk (hb : Below W.heap.size W W1) (hg : g = W.heap.size) (h : Below w.heap.size w W) : Below w.heap.size w W1 ∧ w.heap.size ≤ g := ⟨below_step h hb, hg ▸ h.size⟩
theorem blkk (hb : Below W.heap.size W W1) (hg : g = W.heap.size) (h : W.heap[g0]? = some o) : W1.heap[g0]? = some o ∧ g0 ≠ g ∧ g ≠ g0 := ⟨blk_below h hb, hg ▸ Nat.ne_of_lt (blk_lt h), hg ▸ Nat.ne_of_gt (blk_lt h)⟩
theorem ck2 {a0 a1 : Value} (h : w.heap[g]? = some (.cells #[a0, a1] t (0, 0))) : w.cell? ⟨g, 0, none⟩ = some a0 ∧ w.cell? ⟨g, 1, none⟩ = some a1 := ⟨(blk_cell h 0).trans rfl, (blk_cell h 1).trans rfl⟩
theorem fk2 (h : w.heap[g]? = some (.cells cs t (0, 0))) : w.frozen? ⟨g, 0, none⟩ = false ∧ w.frozen? ⟨g, 1, none⟩ = false := ⟨blk_frozen h 0, blk_frozen h 1⟩
theorem ck3 {a0 a1 a2 : Value} (h : w.heap[g]? = some (.cells #[a0, a1, a2] t (0, 0))) : w.cell? ⟨g, 0, none⟩ = some a0 ∧ w.cell? ⟨g, 1, none⟩ = some a1 ∧ w.cell? ⟨g, 2, none⟩ = some a2 := ⟨(blk_cell h 0).trans rfl, (blk_cell h 1).trans rfl, (blk_cell h 2).trans rfl⟩
theorem fk3 (h : w.heap[g]? = some (.cells cs t (0, 0))) : w.frozen? ⟨g, 0, none⟩ = false ∧ w.frozen? ⟨g, 1, none⟩ = false ∧ w.frozen? ⟨g, 2, none⟩ = false := ⟨blk_frozen h 0, blk_frozen h 1, blk_frozen h 2⟩
theorem ck7 {a0 a1 a2 a3 a4 a5 a6 : Value} (h : w.heap[g]? = some (.cells #[a0, a1, a2, a3, a4, a5, a6] t (0, 0))) : w.cell? ⟨g, 0, none⟩ = some a0 ∧ w.cell? ⟨g, 1, none⟩ = some a1 ∧ w.cell? ⟨g, 2, none⟩ = some a2 ∧ w.cell? ⟨g, 3, none⟩ = some a3 ∧ w.cell? ⟨g, 4, none⟩ = some a4 ∧ w.cell? ⟨g, 5, none⟩ = some a5 ∧ w.cell? ⟨g, 6, none⟩ = some a6 := ⟨(blk_cell h 0).trans rfl, (blk_cell h 1).trans rfl, (blk_cell h 2).trans rfl, (blk_cell h 3).trans rfl, (blk_cell h 4).trans rfl, (blk_cell h 5).trans rfl, (blk_cell h 6).trans rfl⟩
theorem fk7 (h : w.heap[g]? = some (.cells cs t (0, 0))) : w.frozen? ⟨g, 0, none⟩ = false ∧ w.frozen? ⟨g, 1, none⟩ = false ∧ w.frozen? ⟨g, 2, none⟩ = false ∧ w.frozen? ⟨g, 3, none⟩ = false ∧ w.frozen? ⟨g, 4, none⟩ = false ∧ w.frozen? ⟨g, 5, none⟩ = false ∧ w.frozen? ⟨g, 6, none⟩ = false := ⟨blk_frozen h 0, blk_frozen h 1, blk_frozen h 2, blk_frozen h 3, blk_frozen h 4, blk_frozen h 5, blk_frozen h 6⟩
theorem ck10 {a0 a1 a2 a3 a4 a5 a6 a7 a8 a9 : Value} (h : w.heap[g]? = some (.cells #[a0, a1, a2, a3, a4, a5, a6, a7, a8, a9] t (0, 0))) : w.cell? ⟨g, 0, none⟩ = some a0 ∧ w.cell? ⟨g, 1, none⟩ = some a1 ∧ w.cell? ⟨g, 2, none⟩ = some a2 ∧ w.cell? ⟨g, 3, none⟩ = some a3 ∧ w.cell? ⟨g, 4, none⟩ = some a4 ∧ w.cell? ⟨g, 5, none⟩ = some a5 ∧ w.cell? ⟨g, 6, none⟩ = some a6 ∧ w.cell? ⟨g, 7, none⟩ = some a7 ∧ w.cell? ⟨g, 8, none⟩ = some a8 ∧ w.cell? ⟨g, 9, none⟩ = some a9 := ⟨(blk_cell h 0).trans rfl, (blk_cell h 1).trans rfl, (blk_cell h 2).trans rfl, (blk_cell h 3).trans rfl, (blk_cell h 4).trans rfl, (blk_cell h 5).trans rfl, (blk_cell h 6).trans rfl, (blk_cell h 7).trans rfl, (blk_cell h 8).trans rfl, (blk_cell h 9).trans rfl⟩
theorem fk10 (h : w.heap[g]? = some (.cells cs t (0, 0))) : w.frozen? ⟨g, 0, none⟩ = false ∧ w.frozen? ⟨g, 1, none⟩ = false ∧ w.frozen? ⟨g, 2, none⟩ = false ∧ w.frozen? ⟨g, 3, none⟩ = false ∧ w.frozen? ⟨g, 4, none⟩ = false ∧ w.frozen? ⟨g, 5, none⟩ = false ∧ w.frozen? ⟨g, 6, none⟩ = false ∧ w.frozen? ⟨g, 7, none⟩ = false ∧ w.frozen? ⟨g, 8, none⟩ = false ∧ w.frozen? ⟨g, 9, none⟩ = false := ⟨blk_frozen h 0, blk_frozen h 1, blk_frozen h 2, blk_frozen h 3, blk_frozen h 4, blk_frozen h 5, blk_frozen h 6, blk_frozen h 7, blk_frozen h 8, blk_frozen h 9⟩
end
end Go.Proofs.YtebiogaacikphaaW.PrintWords
end
section
namespace Go.Proofs.Ytebiogaacikphaa.PAll
open Go.RowKit Go.Proofs.YtebiogaacikphaaW.PrintWords Go.Proofs.YtebiogaacikphaaW.PrintLast Go.Proofs.YtebiogaacikphaaW.PrintMore
attribute [local go_sem] max2_int max_two
set_option linter.unusedVariables false
set_option linter.unusedSimpArgs false
theorem eqA76 (d : Nat) (w : World) (x0 y0 : Int) (x1 y1 : Int) (x2 y2 : Int) (x3 y3 : Int) :
    (Op.equalIn (d + 2) 76 (.agg #[.int .u64 x0, .int .u64 x1, .int .u64 x2, .int .u64 x3]) (.agg #[.int .u64 y0, .int .u64 y1, .int .u64 y2, .int .u64 y3])).run Try.prog w = .ok (x0 == y0 && (x1 == y1 && (x2 == y2 && (x3 == y3)))) w := by
  exact eqArr4 Try.underlying76 Try.underlying74 (by kernel_rfl) d w x0 y0 x1 y1 x2 y2 x3 y3
end Go.Proofs.Ytebiogaacikphaa.PAll
end
section
namespace Go.Proofs.Ytebiogaacikphaa.PAll
open Go.RowKit Go.Proofs.YtebiogaacikphaaW.PrintWords Go.Proofs.YtebiogaacikphaaW.PrintLast Go.Proofs.YtebiogaacikphaaW.PrintMore
attribute [local go_sem] max2_int max_two
set_option linter.unusedVariables false
set_option linter.unusedSimpArgs false
theorem eqA90 (d : Nat) (w : World) (x0 y0 : Int) (x1 y1 : Int) (x2 y2 : Int) (x3 y3 : Int) (x4 y4 : Int) (x5 y5 : Int) (x6 y6 : ByteArray) :
    (Op.equalIn (d + 3) 90 (.agg #[.int .i64 x0, .int .u64 x1, .int .u64 x2, .int .u64 x3, .int .u64 x4, .int .i64 x5, .string x6]) (.agg #[.int .i64 y0, .int .u64 y1, .int .u64 y2, .int .u64 y3, .int .u64 y4, .int .i64 y5, .string y6])).run Try.prog w = .ok (x0 == y0 && ((x1 == y1 && (x2 == y2 && (x3 == y3 && (x4 == y4)))) && (x5 == y5 && (x6.toList == y6.toList)))) w := by
  refine eqA_of Try.underlying90 (by kernel_rfl) ?_
  refine eqf_cons (by rfl) (by go_simp; rfl) (by go_simp; rfl) (by go_simp) ?_
  refine eqf_cons (by rfl) (by go_simp) (by go_simp) (eqA76 (d + 0) w _ _ _ _ _ _ _ _) ?_
  refine eqf_cons (by rfl) (by go_simp; rfl) (by go_simp; rfl) (by go_simp) ?_
  exact eqf_last (by rfl) (by go_simp; rfl) (by go_simp; rfl) (by go_simp)
end Go.Proofs.Ytebiogaacikphaa.PAll
end
section
namespace Go.Proofs.Ytebiogaacikphaa.PAll
open Go.RowKit Go.Proofs.YtebiogaacikphaaW.PrintWords Go.Proofs.YtebiogaacikphaaW.PrintLast Go.Proofs.YtebiogaacikphaaW.PrintMore
attribute [local go_sem] max2_int max_two
set_option linter.unusedVariables false
set_option linter.unusedSimpArgs false
theorem q15_5 {p : Prop} (h : p := by first | rfl | (simp; done) | (simp only [← hji4] <;> (first | rfl | simp)) | (simp [*]; done)) : p := h
theorem q15_4 {p : Prop} (h : p := by (with_reducible repeat (first | refine blk_drewN ?_ _ | refine blk_drew ?_ | refine blk_alloc ?_ _)); exact BK158.out) : p := h
theorem q15_3 {p : Prop} (h : p := by repeat (first | (with_reducible first | exact HB.out | apply below_alloc | apply pw_below_drewN | apply below_drew1 | refine below_set ?_ GE158.out) | exact HB.out)) : p := h
theorem q15_2 {p : Prop} (h : p := by first | (with_reducible assumption) | assumption) : p := h
theorem q15_1 {p : Prop} (h : p := by first | rfl | (simp; done) | (simp [*]; done)) : p := h
theorem q15_0 {p : Prop} (h : p := by repeat (first | exact Drawn0.refl _ | apply Drawn0.step)) : p := h
def core_Size.l0 : Nat → Int → List (S30) → Int → Int → Option (Int)
 | 0, _, _, _, _ => none
 | k + 1, x3, x7, x8, x9 => if x9 < x8 then (if 0 ≤ x9 then (if x9 < (x7.length : Int) then (core_Size.l0 k (wrap64 (x3 + (((rd_T30 x7 x9).f1).length : Int))) x7 x8 (wrap64 (x9 + 1))) else (none)) else (none)) else (some x3)
def core_Size.f (k : Nat) (l0_0 : List (S30)) (a0_1 : Int) : Option (Int) := core_Size.l0 k 0 l0_0 (l0_0.length : Int) 0
theorem core_Size.mono_l : ∀ k, (∀ y0 y1 y2 y3, LeO (core_Size.l0 k y0 y1 y2 y3) (core_Size.l0 (k + 1) y0 y1 y2 y3))
 | 0 => fun _ _ _ _ r h => by simp [core_Size.l0] at h
 | k + 1 => by
  have ih0 := core_Size.mono_l k
  ·intro y0 y1 y2 y3
   unfold core_Size.l0
   repeat' first
   | (with_reducible exact ih0 _ _ _ _)
   | (with_reducible exact LeO.refl _)
   | (with_reducible exact LeO.none _)
   | (with_reducible refine LeO.ite ?_ ?_)
   | (with_reducible refine LeO.bind ?_ (fun _ => ?_))
   | exact ih0 _ _ _ _
   | exact LeO.none _
   | refine LeO.ite ?_ ?_
   | refine LeO.bind ?_ (fun _ => ?_)
theorem core_Size.mono : ∀ a0 a1 k, LeO (core_Size.f k a0 a1) (core_Size.f (k + 1) a0 a1) := by
 intro a0 a1 k
 have ih0 := core_Size.mono_l k
 unfold core_Size.f
 repeat' first
   | (with_reducible exact ih0 _ _ _ _)
   | (with_reducible exact LeO.refl _)
   | (with_reducible exact LeO.none _)
   | (with_reducible refine LeO.ite ?_ ?_)
   | (with_reducible refine LeO.bind ?_ (fun _ => ?_))
   | exact ih0 _ _ _ _
   | exact LeO.none _
   | refine LeO.ite ?_ ?_
   | refine LeO.bind ?_ (fun _ => ?_)
set_option maxHeartbeats 8000000 in
set_option maxRecDepth 100000 in
theorem core_Size.calls (k : Nat) (A0_0 : Option Addr) (c0_0 : Nat) (l0_0 : List (S30)) (a0_1 : Int) (r : Int) (w : World) (hr0_0 : Kd.C k30 w A0_0 l0_0.length l0_0) (hc0_0 : l0_0.length ≤ c0_0) (h : core_Size.f k l0_0 a0_1 = some r) :
  Calls Try.prog 20 #[.agg #[.slice A0_0 l0_0.length c0_0, .int .i64 a0_1]] w fun e w' => e = .returned (.int .i64 r) ∧ Below w.heap.size w w' := by
 have hu24 := Try.underlying24
 have hu30 := Try.underlying30
 have HR0_0 := Aside0.mk hr0_0; have HC0_0 := Aside0.mk hc0_0; clear hr0_0 hc0_0
 have HB := Aside0.mk (Below.refl w.heap.size w)
 have H : (core_Size.l0 k 0 l0_0 (l0_0.length : Int) 0) = some r := h
 clear h
 have H' := Aside0.mk H
 clear H
 go_enter Try.func20, Try.ntmps20
 go_wp2_with (first | ((with_reducible refine gate_dst (N := 1) rfl ?_); refine box_event ?hg (N := 1) ?hd (cs := #[.slice A0_0 l0_0.length c0_0, .int .i64 a0_1]) (t := 24) ?hr ?_; (case hd => rfl); (case hg => rfl); (case hr => first | (go_simp; done) | (go_simp; rfl)); intro gb158 hg w2 hbox hb; have z_ := bxk hb hg (by repeat (first | (with_reducible first | exact HB.out | apply below_alloc | apply pw_below_drewN | apply below_drew1) | exact HB.out)); have n0_ := Aside0.mk z_.1; have n1_ := Aside0.mk (hbox); have n2_ := Aside0.mk z_.2; have n3_ := Aside0.mk z_.2; clear z_; clear HB; have HB := n0_; have BK158 := n1_; have GW158 := n2_; have GE158 := n3_; clear n0_ n1_ n2_ n3_; clear hb hbox hg; obtain ⟨hcz3_0, hcz3_1⟩ := ck2 BK158.out; obtain ⟨hfz3_0, hfz3_1⟩ := fk2 BK158.out))
 go_loopg [3, 9] k (fun kq v3 v9 w' => ∃ (x3_1 : Int) (x9_1 : Int), v3 = .int .i64 x3_1 ∧ v9 = .int .i64 x9_1 ∧ Aside0 (core_Size.l0 kq x3_1 l0_0 (l0_0.length : Int) x9_1 = some r) ∧ Aside0 (kq ≤ k) ∧ Aside0 (w'.heap[gb158]? = some (.cells #[(.slice A0_0 l0_0.length c0_0), .int .i64 a0_1] 24 (0, 0))) ∧ Aside0 (Below w.heap.size w w'))
 case atStart => exact ⟨(0), (0), q15_1, q15_1, H', ⟨Nat.le_refl _⟩, ⟨q15_4⟩, ⟨q15_3⟩⟩
 case round =>
  clear H'; (try clear c2); (try clear p2); (try clear hcz3_0); (try clear hcz3_1); (try clear hfz3_0); (try clear hfz3_1)
  obtain ⟨x3_1, x9_1, rfl, rfl, HA, HK1, BK158, HB⟩ := hrel
  cases gk with
  | zero => exact absurd HA.out (by simp [core_Size.l0])
  | succ k1 =>
   have H := HA.out
   clear HA
   simp only [core_Size.l0] at H
   by_cases c4 : x9_1 < (l0_0.length : Int)
   ·rw [if_pos c4] at H
    have c4b0 : decide (x9_1 < (l0_0.length : Int)) = true := decide_eq_true c4
    clear c4
    by_cases c5 : 0 ≤ x9_1
    ·rw [if_pos c5] at H
     have c5b0 : decide (0 ≤ x9_1) = true := decide_eq_true c5
     clear c5
     by_cases c6 : x9_1 < (l0_0.length : Int)
     ·rw [if_pos c6] at H
      have c6b0 : decide (x9_1 < (l0_0.length : Int)) = true := decide_eq_true c6
      clear c6
      have H' := Aside0.mk H
      clear H
      have p159 : 0 ≤ (x9_1 : Int) := of_decide_eq_true q15_2
      have q159 : x9_1 < (l0_0.length : Int) := of_decide_eq_true q15_2
      obtain ⟨ad159, A159_1, c159_1, e159, hx159_0, hx159_1, hl159_1, hi159_1⟩ := at_T30 HR0_0.out x9_1 p159 q159
      cases e159
      replace hx159_0 := (HB.out.cell (World.block_lt_of_cell? w _ hx159_0)).trans hx159_0
      replace hx159_1 := (HB.out.cell (World.block_lt_of_cell? w _ hx159_1)).trans hx159_1
      have HR159_1 := Aside0.mk hi159_1; have HC159_1 := Aside0.mk hl159_1; clear hi159_1 hl159_1
      replace p159 := eq_true p159
      replace q159 := eq_true q159
      go_wp2_with (first | ((with_reducible refine gate_dst (N := 5) rfl ?_); refine box_event ?hg (N := 5) ?hd (cs := #[.string (⟨#[]⟩ : ByteArray), .slice none 0 0]) (t := 30) ?hr ?_; (case hd => rfl); (case hg => rfl); (case hr => first | (go_simp; done) | (go_simp; rfl)); intro gb160 hg w7 hbox hb; have y_gb158 := blkk (g0 := gb158) hb hg q15_4; have n0_ := Aside0.mk y_gb158.1; have z_ := bxk hb hg q15_3; have n1_ := Aside0.mk z_.1; have n2_ := Aside0.mk (hbox); have n3_ := Aside0.mk z_.2; have n4_ := Aside0.mk z_.2; clear z_; have n5_ := Aside0.mk y_gb158.2.1; have n6_ := Aside0.mk y_gb158.2.2; clear BK158; clear HB; have BK158 := n0_; have HB := n1_; have BK160 := n2_; have GW160 := n3_; have GE160 := n4_; have NB158_160 := n5_; have NB160_158 := n6_; clear n0_ n1_ n2_ n3_ n4_ n5_ n6_; clear hb hbox hg y_gb158; have hnb8 := NB160_158.out; have hnc8 := NB158_160.out; obtain ⟨hcz9_0, hcz9_1⟩ := ck2 BK160.out; obtain ⟨hfz9_0, hfz9_1⟩ := fk2 BK160.out))
      go_roundg k1
      case measure => have := HK1.out; omega
      case rel => exact ⟨(wrap64 (x3_1 + (((rd_T30 l0_0 x9_1).f1).length : Int))), (wrap64 (x9_1 + 1)), q15_1, q15_1, H', ⟨by have := HK1.out; omega⟩, ⟨by (with_reducible repeat (first | refine blk_drewN ?_ _ | refine blk_drew ?_ | refine blk_alloc ?_ _)); refine blk_far ?_ NB158_160.out _; (with_reducible repeat (first | refine blk_drewN ?_ _ | refine blk_drew ?_ | refine blk_alloc ?_ _)); refine blk_far ?_ NB158_160.out _; (with_reducible repeat (first | refine blk_drewN ?_ _ | refine blk_drew ?_ | refine blk_alloc ?_ _)); exact BK158.out⟩, ⟨by repeat (first | (with_reducible first | exact HB.out | apply below_alloc | apply pw_below_drewN | apply below_drew1 | refine below_set ?_ GE158.out | refine below_set ?_ GE160.out) | exact HB.out)⟩⟩
     ·rw [if_neg c6] at H
      exact absurd H (by simp)
    ·rw [if_neg c5] at H
     exact absurd H (by simp)
   ·rw [if_neg c4] at H
    have c4b0 : decide (x9_1 < (l0_0.length : Int)) = false := decide_eq_false c4
    clear c4
    obtain rfl := Option.some.inj H
    go_wp2
    go_ret
    exact ⟨by first | rfl | (simp [errW_none, errW_some] <;> rfl) | (simp [*, errW_none, errW_some] <;> rfl), q15_3⟩
def lexis_letter.f (a0 : Int) : Option (Bool) := if a0 ≥ 97 then (if a0 ≤ 122 then (some true) else (if a0 ≥ 65 then (if a0 ≤ 90 then (some true) else (some (a0 == 95))) else (some (a0 == 95)))) else (if a0 ≥ 65 then (if a0 ≤ 90 then (some true) else (some (a0 == 95))) else (some (a0 == 95)))
set_option maxHeartbeats 8000000 in
set_option maxRecDepth 100000 in
theorem lexis_letter.calls (a0 : Int) (r : Bool) (w : World) (h : lexis_letter.f a0 = some r) :
  Calls Try.prog 114 #[.int .u8 a0] w fun e w' => e = .returned (.bool r) ∧ Drawn0 w w' := by
 have H : (if a0 ≥ 97 then (if a0 ≤ 122 then (some true) else (if a0 ≥ 65 then (if a0 ≤ 90 then (some true) else (some (a0 == 95))) else (some (a0 == 95)))) else (if a0 ≥ 65 then (if a0 ≤ 90 then (some true) else (some (a0 == 95))) else (some (a0 == 95)))) = some r := h
 clear h
 by_cases c2 : a0 ≥ 97
 ·rw [if_pos c2] at H
  have c2b0 : decide (97 ≤ a0) = true := decide_eq_true c2
  clear c2
  by_cases c3 : a0 ≤ 122
  ·rw [if_pos c3] at H
   have c3b0 : decide (a0 ≤ 122) = true := decide_eq_true c3
   clear c3
   obtain rfl := Option.some.inj H
   go_enter Try.func114, Try.ntmps114
   go_wp2
   go_ret
   exact ⟨q15_1, q15_0⟩
  ·rw [if_neg c3] at H
   have c3b0 : decide (a0 ≤ 122) = false := decide_eq_false c3
   clear c3
   by_cases c4 : a0 ≥ 65
   ·rw [if_pos c4] at H
    have c4b0 : decide (65 ≤ a0) = true := decide_eq_true c4
    clear c4
    by_cases c5 : a0 ≤ 90
    ·rw [if_pos c5] at H
     have c5b0 : decide (a0 ≤ 90) = true := decide_eq_true c5
     clear c5
     obtain rfl := Option.some.inj H
     go_enter Try.func114, Try.ntmps114
     go_wp2
     go_ret
     exact ⟨q15_1, q15_0⟩
    ·rw [if_neg c5] at H
     have c5b0 : decide (a0 ≤ 90) = false := decide_eq_false c5
     clear c5
     obtain rfl := Option.some.inj H
     go_enter Try.func114, Try.ntmps114
     go_wp2
     go_ret
     exact ⟨q15_1, q15_0⟩
   ·rw [if_neg c4] at H
    have c4b0 : decide (65 ≤ a0) = false := decide_eq_false c4
    clear c4
    obtain rfl := Option.some.inj H
    go_enter Try.func114, Try.ntmps114
    go_wp2
    go_ret
    exact ⟨q15_1, q15_0⟩
 ·rw [if_neg c2] at H
  have c2b0 : decide (97 ≤ a0) = false := decide_eq_false c2
  clear c2
  by_cases c6 : a0 ≥ 65
  ·rw [if_pos c6] at H
   have c6b0 : decide (65 ≤ a0) = true := decide_eq_true c6
   clear c6
   by_cases c7 : a0 ≤ 90
   ·rw [if_pos c7] at H
    have c7b0 : decide (a0 ≤ 90) = true := decide_eq_true c7
    clear c7
    obtain rfl := Option.some.inj H
    go_enter Try.func114, Try.ntmps114
    go_wp2
    go_ret
    exact ⟨q15_1, q15_0⟩
   ·rw [if_neg c7] at H
    have c7b0 : decide (a0 ≤ 90) = false := decide_eq_false c7
    clear c7
    obtain rfl := Option.some.inj H
    go_enter Try.func114, Try.ntmps114
    go_wp2
    go_ret
    exact ⟨q15_1, q15_0⟩
  ·rw [if_neg c6] at H
   have c6b0 : decide (65 ≤ a0) = false := decide_eq_false c6
   clear c6
   obtain rfl := Option.some.inj H
   go_enter Try.func114, Try.ntmps114
   go_wp2
   go_ret
   exact ⟨q15_1, q15_0⟩
def lexis_digit.f (a0 : Int) : Option (Bool) := if a0 ≥ 48 then (some (decide (a0 ≤ 57))) else (some false)
set_option maxHeartbeats 8000000 in
set_option maxRecDepth 100000 in
theorem lexis_digit.calls (a0 : Int) (r : Bool) (w : World) (h : lexis_digit.f a0 = some r) :
  Calls Try.prog 115 #[.int .u8 a0] w fun e w' => e = .returned (.bool r) ∧ Drawn0 w w' := by
 have H : (if a0 ≥ 48 then (some (decide (a0 ≤ 57))) else (some false)) = some r := h
 clear h
 by_cases c2 : a0 ≥ 48
 ·rw [if_pos c2] at H
  have c2b0 : decide (48 ≤ a0) = true := decide_eq_true c2
  clear c2
  obtain rfl := Option.some.inj H
  go_enter Try.func115, Try.ntmps115
  go_wp2
  go_ret
  exact ⟨q15_1, q15_0⟩
 ·rw [if_neg c2] at H
  have c2b0 : decide (48 ≤ a0) = false := decide_eq_false c2
  clear c2
  obtain rfl := Option.some.inj H
  go_enter Try.func115, Try.ntmps115
  go_wp2
  go_ret
  exact ⟨q15_1, q15_0⟩
def lexis_own.l0 : Nat → ByteArray → Int → Int → Option (Int)
 | 0, _, _, _ => none
 | k + 1, x0, x1, x5 => if (wrap64 (x1 + x5)) < (x0.size : Int) then (if 0 ≤ (wrap64 (x1 + x5)) then ((lexis_letter.f (bt x0 (wrap64 (x1 + x5)))).bind fun t161 => (if t161 = true then (lexis_own.l0 k x0 x1 (wrap64 (x5 + 1))) else (if x5 > 0 then ((lexis_digit.f (bt x0 (wrap64 (x1 + x5)))).bind fun t162 => (if t162 = true then (lexis_own.l0 k x0 x1 (wrap64 (x5 + 1))) else (some x5))) else (some x5)))) else (none)) else (some x5)
def lexis_own.f (k : Nat) (a0 : ByteArray) (a1 : Int) : Option (Int) := lexis_own.l0 k a0 a1 0
theorem lexis_own.mono_l : ∀ k, (∀ y0 y1 y2, LeO (lexis_own.l0 k y0 y1 y2) (lexis_own.l0 (k + 1) y0 y1 y2))
 | 0 => fun _ _ _ r h => by simp [lexis_own.l0] at h
 | k + 1 => by
  have ih0 := lexis_own.mono_l k
  ·intro y0 y1 y2
   unfold lexis_own.l0
   repeat' first
   | (with_reducible exact ih0 _ _ _)
   | (with_reducible exact LeO.refl _)
   | (with_reducible exact LeO.none _)
   | (with_reducible refine LeO.ite ?_ ?_)
   | (with_reducible refine LeO.bind ?_ (fun _ => ?_))
   | exact ih0 _ _ _
   | exact LeO.none _
   | refine LeO.ite ?_ ?_
   | refine LeO.bind ?_ (fun _ => ?_)
theorem lexis_own.mono : ∀ a0 a1 k, LeO (lexis_own.f k a0 a1) (lexis_own.f (k + 1) a0 a1) := by
 intro a0 a1 k
 have ih0 := lexis_own.mono_l k
 unfold lexis_own.f
 repeat' first
   | (with_reducible exact ih0 _ _ _)
   | (with_reducible exact LeO.refl _)
   | (with_reducible exact LeO.none _)
   | (with_reducible refine LeO.ite ?_ ?_)
   | (with_reducible refine LeO.bind ?_ (fun _ => ?_))
   | exact ih0 _ _ _
   | exact LeO.none _
   | refine LeO.ite ?_ ?_
   | refine LeO.bind ?_ (fun _ => ?_)
set_option maxHeartbeats 8000000 in
set_option maxRecDepth 100000 in
theorem lexis_own.calls (k : Nat) (a0 : ByteArray) (a1 : Int) (r : Int) (w : World) (h : lexis_own.f k a0 a1 = some r) :
  Calls Try.prog 105 #[.string a0, .int .i64 a1] w fun e w' => e = .returned (.int .i64 r) ∧ Drawn0 w w' := by
 have H : (lexis_own.l0 k a0 a1 0) = some r := h
 clear h
 have H' := Aside0.mk H
 clear H
 go_enter Try.func105, Try.ntmps105
 go_wp2
 go_loopg [5] k (fun kq v5 w' => ∃ (x5_1 : Int), v5 = .int .i64 x5_1 ∧ Aside0 (lexis_own.l0 kq a0 a1 x5_1 = some r) ∧ Aside0 (kq ≤ k) ∧ Drawn0 w w')
 case atStart => exact ⟨(0), q15_1, H', ⟨Nat.le_refl _⟩, q15_0⟩
 case round =>
  clear H'; (try clear c1); (try clear p2)
  obtain ⟨x5_1, rfl, HA, HK1, ⟨m1, rfl⟩⟩ := hrel
  cases gk with
  | zero => exact absurd HA.out (by simp [lexis_own.l0])
  | succ k1 =>
   have H := HA.out
   clear HA
   simp only [lexis_own.l0] at H
   by_cases c3 : (wrap64 (a1 + x5_1)) < (a0.size : Int)
   ·rw [if_pos c3] at H
    have c3b0 : decide ((wrap64 (a1 + x5_1)) < (a0.size : Int)) = true := decide_eq_true c3
    clear c3
    obtain ⟨ji4, hji4⟩ : ∃ j_ : Int, (wrap64 (a1 + x5_1)) = j_ := ⟨_, rfl⟩
    replace H : (if 0 ≤ (ji4) then ((lexis_letter.f (bt a0 (ji4))).bind fun t161 => (if t161 = true then (lexis_own.l0 k1 a0 a1 (wrap64 (x5_1 + 1))) else (if x5_1 > 0 then ((lexis_digit.f (bt a0 (ji4))).bind fun t162 => (if t162 = true then (lexis_own.l0 k1 a0 a1 (wrap64 (x5_1 + 1))) else (some x5_1))) else (some x5_1)))) else (none)) = some r := by first | (rw [hji4] at H; exact H) | (simp only [hji4] at H ⊢; exact H)
    (try rw [hji4] at c3b0)
    have hji4w : (IntKind.i64.wrap (a1 + x5_1)) = ji4 := (i64_w _).trans hji4
    by_cases c5 : 0 ≤ (ji4)
    ·rw [if_pos c5] at H
     have c5b0 : decide (0 ≤ (ji4)) = true := decide_eq_true c5
     clear c5
     replace H := Option.bind_eq_some_iff.mp H
     obtain ⟨t161, A70, H⟩ := H
     replace H : (if t161 = true then (lexis_own.l0 k1 a0 a1 (wrap64 (x5_1 + 1))) else (if x5_1 > 0 then ((lexis_digit.f (bt a0 (ji4))).bind fun t162 => (if t162 = true then (lexis_own.l0 k1 a0 a1 (wrap64 (x5_1 + 1))) else (some x5_1))) else (some x5_1))) = some r := H
     have A7 := Aside0.mk A70; clear A70
     by_cases c8 : t161 = true
     ·subst c8
      have H1 : (lexis_own.l0 k1 a0 a1 (wrap64 (x5_1 + 1))) = some r := by rw [if_pos rfl] at H; exact H
      clear H
      have H := H1
      clear H1
      have H' := Aside0.mk H
      clear H
      have p6 : 0 ≤ ((ji4) : Int) := of_decide_eq_true q15_2
      have q6 : (ji4) < (a0.size : Int) := of_decide_eq_true q15_2
      have hx6 := bt_at a0 (ji4)
      replace p6 := eq_true p6
      replace q6 := eq_true q6
      go_wp2_with (first | (go_at_call 114; (with_reducible refine (lexis_letter.calls (bt a0 (ji4)) true _ A7.out).mono ?_); rintro e w' ⟨rfl, ⟨nd, rfl⟩⟩))
      go_roundg k1
      case measure => have := HK1.out; omega
      case rel => exact ⟨(wrap64 (x5_1 + 1)), q15_1, H', ⟨by have := HK1.out; omega⟩, q15_0⟩
     ·replace c8 := Bool.eq_false_iff.mpr c8
      subst c8
      have H1 : (if x5_1 > 0 then ((lexis_digit.f (bt a0 (ji4))).bind fun t162 => (if t162 = true then (lexis_own.l0 k1 a0 a1 (wrap64 (x5_1 + 1))) else (some x5_1))) else (some x5_1)) = some r := by rw [if_neg (show ¬ (false = true) by decide)] at H; exact H
      clear H
      have H := H1
      clear H1
      by_cases c9 : x5_1 > 0
      ·rw [if_pos c9] at H
       have c9b0 : decide (0 < x5_1) = true := decide_eq_true c9
       clear c9
       replace H := Option.bind_eq_some_iff.mp H
       obtain ⟨t162, A110, H⟩ := H
       replace H : (if t162 = true then (lexis_own.l0 k1 a0 a1 (wrap64 (x5_1 + 1))) else (some x5_1)) = some r := H
       have A11 := Aside0.mk A110; clear A110
       by_cases c12 : t162 = true
       ·subst c12
        have H1 : (lexis_own.l0 k1 a0 a1 (wrap64 (x5_1 + 1))) = some r := by rw [if_pos rfl] at H; exact H
        clear H
        have H := H1
        clear H1
        have H' := Aside0.mk H
        clear H
        have p6 : 0 ≤ ((ji4) : Int) := of_decide_eq_true q15_2
        have q6 : (ji4) < (a0.size : Int) := of_decide_eq_true q15_2
        have hx6 := bt_at a0 (ji4)
        replace p6 := eq_true p6
        replace q6 := eq_true q6
        go_wp2_with (first | (go_at_call 114; (with_reducible refine (lexis_letter.calls (bt a0 (ji4)) false _ A7.out).mono ?_); rintro e w' ⟨rfl, ⟨nd, rfl⟩⟩; have p10 : 0 ≤ ((ji4) : Int) := of_decide_eq_true q15_2; have q10 : (ji4) < (a0.size : Int) := of_decide_eq_true q15_2; have hx10 := bt_at a0 (ji4); replace p10 := eq_true p10; replace q10 := eq_true q10) | (go_at_call 115; (with_reducible refine (lexis_digit.calls (bt a0 (ji4)) true _ A11.out).mono ?_); rintro e w' ⟨rfl, ⟨nd, rfl⟩⟩))
        go_roundg k1
        case measure => have := HK1.out; omega
        case rel => exact ⟨(wrap64 (x5_1 + 1)), q15_1, H', ⟨by have := HK1.out; omega⟩, q15_0⟩
       ·replace c12 := Bool.eq_false_iff.mpr c12
        subst c12
        have H1 : (some x5_1) = some r := by rw [if_neg (show ¬ (false = true) by decide)] at H; exact H
        clear H
        have H := H1
        clear H1
        obtain rfl := Option.some.inj H
        have p6 : 0 ≤ ((ji4) : Int) := of_decide_eq_true q15_2
        have q6 : (ji4) < (a0.size : Int) := of_decide_eq_true q15_2
        have hx6 := bt_at a0 (ji4)
        replace p6 := eq_true p6
        replace q6 := eq_true q6
        go_wp2_with (first | (go_at_call 114; (with_reducible refine (lexis_letter.calls (bt a0 (ji4)) false _ A7.out).mono ?_); rintro e w' ⟨rfl, ⟨nd, rfl⟩⟩; have p10 : 0 ≤ ((ji4) : Int) := of_decide_eq_true q15_2; have q10 : (ji4) < (a0.size : Int) := of_decide_eq_true q15_2; have hx10 := bt_at a0 (ji4); replace p10 := eq_true p10; replace q10 := eq_true q10) | (go_at_call 115; (with_reducible refine (lexis_digit.calls (bt a0 (ji4)) false _ A11.out).mono ?_); rintro e w' ⟨rfl, ⟨nd, rfl⟩⟩))
        go_ret
        exact ⟨q15_5, q15_0⟩
      ·rw [if_neg c9] at H
       have c9b0 : decide (0 < x5_1) = false := decide_eq_false c9
       clear c9
       obtain rfl := Option.some.inj H
       have p6 : 0 ≤ ((ji4) : Int) := of_decide_eq_true q15_2
       have q6 : (ji4) < (a0.size : Int) := of_decide_eq_true q15_2
       have hx6 := bt_at a0 (ji4)
       replace p6 := eq_true p6
       replace q6 := eq_true q6
       go_wp2_with (first | (go_at_call 114; (with_reducible refine (lexis_letter.calls (bt a0 (ji4)) false _ A7.out).mono ?_); rintro e w' ⟨rfl, ⟨nd, rfl⟩⟩))
       go_ret
       exact ⟨q15_5, q15_0⟩
    ·rw [if_neg c5] at H
     exact absurd H (by simp)
   ·rw [if_neg c3] at H
    have c3b0 : decide ((wrap64 (a1 + x5_1)) < (a0.size : Int)) = false := decide_eq_false c3
    clear c3
    obtain rfl := Option.some.inj H
    go_wp2
    go_ret
    exact ⟨q15_1, q15_0⟩
def stringslite_HasPrefix.f (a0 : ByteArray) (a1 : ByteArray) : Option (Bool) := if (a0.size : Int) ≥ (a1.size : Int) then (if 0 ≤ (a1.size : Int) then (if (a1.size : Int) ≤ (a0.size : Int) then (some ((a0.extract 0 ((a1.size : Int) : Int).toNat).toList == a1.toList)) else (none)) else (none)) else (some false)
set_option maxHeartbeats 8000000 in
set_option maxRecDepth 100000 in
theorem stringslite_HasPrefix.calls (a0 : ByteArray) (a1 : ByteArray) (r : Bool) (w : World) (h : stringslite_HasPrefix.f a0 a1 = some r) :
  Calls Try.prog 116 #[.string a0, .string a1] w fun e w' => e = .returned (.bool r) ∧ Drawn0 w w' := by
 have H : (if (a0.size : Int) ≥ (a1.size : Int) then (if 0 ≤ (a1.size : Int) then (if (a1.size : Int) ≤ (a0.size : Int) then (some ((a0.extract 0 ((a1.size : Int) : Int).toNat).toList == a1.toList)) else (none)) else (none)) else (some false)) = some r := h
 clear h
 by_cases c3 : (a0.size : Int) ≥ (a1.size : Int)
 ·rw [if_pos c3] at H
  have c3b0 : decide ((a1.size : Int) ≤ (a0.size : Int)) = true := decide_eq_true c3
  have c3b1 : decide (a1.size ≤ a0.size) = true := decide_eq_true (Int.ofNat_le.mp c3)
  clear c3
  by_cases c4 : 0 ≤ (a1.size : Int)
  ·rw [if_pos c4] at H
   have c4b0 := eq_true c4
   have c4b1 : decide (0 ≤ (a1.size : Int)) = true := decide_eq_true c4
   clear c4
   by_cases c5 : (a1.size : Int) ≤ (a0.size : Int)
   ·rw [if_pos c5] at H
    have c5b0 := eq_true c5
    have c5b1 : decide ((a1.size : Int) ≤ (a0.size : Int)) = true := decide_eq_true c5
    clear c5
    obtain rfl := Option.some.inj H
    go_enter Try.func116, Try.ntmps116
    go_wp2
    go_ret
    exact ⟨q15_1, q15_0⟩
   ·rw [if_neg c5] at H
    exact absurd H (by simp)
  ·rw [if_neg c4] at H
   exact absurd H (by simp)
 ·rw [if_neg c3] at H
  have c3b0 : decide ((a1.size : Int) ≤ (a0.size : Int)) = false := decide_eq_false c3
  have c3b1 : decide (a1.size ≤ a0.size) = false := decide_eq_false (fun h => c3 (Int.ofNat_le.mpr h))
  clear c3
  obtain rfl := Option.some.inj H
  go_enter Try.func116, Try.ntmps116
  go_wp2
  go_ret
  exact ⟨q15_1, q15_0⟩
def strings_HasPrefix.f (a0 : ByteArray) (a1 : ByteArray) : Option (Bool) := (stringslite_HasPrefix.f a0 a1).bind fun t163 => (some t163)
set_option maxHeartbeats 8000000 in
set_option maxRecDepth 100000 in
theorem strings_HasPrefix.calls (a0 : ByteArray) (a1 : ByteArray) (r : Bool) (w : World) (h : strings_HasPrefix.f a0 a1 = some r) :
  Calls Try.prog 106 #[.string a0, .string a1] w fun e w' => e = .returned (.bool r) ∧ Drawn0 w w' := by
 have H : ((stringslite_HasPrefix.f a0 a1).bind fun t163 => (some t163)) = some r := h
 clear h
 replace H := Option.bind_eq_some_iff.mp H
 obtain ⟨t163, A30, H⟩ := H
 replace H : (some t163) = some r := H
 have A3 := Aside0.mk A30; clear A30
 obtain rfl := Option.some.inj H
 go_enter Try.func106, Try.ntmps106
 go_wp2_with (first | ((with_reducible refine gate_callee (f := 116) rfl ?_); refine goesL_ (some 7) rfl rfl Try.func116 (by kernel_rfl) rfl #[.string a0, .string a1] rfl (by (try simp only [List.map_toArray, List.map_cons, List.map_nil]); first | done | rfl | (simp only [List.length_drop, List.length_take]; rfl)) ?_; (with_reducible refine (stringslite_HasPrefix.calls a0 a1 t163 _ A3.out).mono ?_); rintro e w' ⟨rfl, ⟨nd, rfl⟩⟩; refine ⟨_, rfl, ?_⟩))
 go_ret
 exact ⟨q15_1, q15_0⟩
end Go.Proofs.Ytebiogaacikphaa.PAll
end
