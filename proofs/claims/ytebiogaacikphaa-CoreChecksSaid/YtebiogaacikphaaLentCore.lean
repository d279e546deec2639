/- What dowelbook.LendCore makes: a copy all through, each list with its holder's behind the end; and what stays of it. No condition beyond each lemma's own. -/
import Derived.Test.YtebiogaacikphaaRow
import Derived.Test.YtebiogaacikphaaPAllx0
namespace Go.Proofs.Ytebiogaacikphaa.Core
open Go.RowKit Go.Proofs.YtebiogaacikphaaW.PrintWords Go.Proofs.Ytebiogaacikphaa.PAll
set_option linter.unusedVariables false
def classCells (c : S76) : List Value := [.int .u64 c.f0, .int .u64 c.f1, .int .u64 c.f2, .int .u64 c.f3]
def nodeCells (x : S90) : List Value := [.int .i64 x.f0, .int .u64 x.f1.f0, .int .u64 x.f1.f1, .int .u64 x.f1.f2, .int .u64 x.f1.f3, .int .i64 x.f2, .string x.f3]
theorem flatNode : Flat k90 nodeCells := ⟨fun w x cs => ⟨fun h => k90_open h, fun h => h ▸ k90_mk w x⟩⟩
def holdNode : S90 := ⟨-77, z76, 0, ⟨#[]⟩⟩
def holder : ByteArray := ⟨#[45, 104, 111, 108, 100, 101, 114, 45]⟩
/-- A lent rule's cells: its name, its body at block g, with one place behind it. -/
def ruleCells (r : S30) (g : Nat) : List Value := [.string r.f0, .slice (some ⟨g, 0, none⟩) r.f1.length (r.f1.length + 1)]
def lentCells : List (S30) → List Nat → List Value
  | r :: l, g :: G => ruleCells r g ++ lentCells l G
  | _, _ => []
theorem lentCells_length : ∀ (l : List (S30)) (G : List Nat), G.length = l.length → (lentCells l G).length = l.length * 2
  | [], G, _ => by cases G <;> simp [lentCells]
  | r :: l, [], h => by simp at h
  | r :: l, g :: G, h => by
    rw [lentCells, List.length_append, lentCells_length l G (by simpa using h)]
    simp [ruleCells]
    omega
theorem lentCells_snoc : ∀ (l : List (S30)) (G : List Nat) (r : S30) (g : Nat), G.length = l.length → lentCells (l ++ [r]) (G ++ [g]) = lentCells l G ++ ruleCells r g
  | [], [], r, g, _ => by simp [lentCells]
  | [], _ :: _, _, _, h => by simp at h
  | _ :: _, [], _, _, h => by simp at h
  | x :: l, y :: G, r, g, h => by
    simp only [List.cons_append, lentCells]
    rw [lentCells_snoc l G r g (by simpa using h), List.append_assoc]
theorem lentCells_get : ∀ (l : List (S30)) (G : List Nat) (j i : Nat) (r : S30) (g : Nat), l[j]? = some r → G[j]? = some g → i < 2 → (lentCells l G)[j * 2 + i]? = (ruleCells r g)[i]?
  | [], _, j, _, _, _, h, _, _ => by simp at h
  | _ :: _, [], j, _, _, _, _, h, _ => by simp at h
  | x :: l, y :: G, 0, i, r, g, h1, h2, hi => by
    have e1 : x = r := by simpa using h1
    have e2 : y = g := by simpa using h2
    subst e1 e2
    rw [lentCells, Nat.zero_mul, Nat.zero_add, List.getElem?_append_left (by simpa [ruleCells] using hi)]
  | x :: l, y :: G, j + 1, i, r, g, h1, h2, hi => by
    rw [lentCells, List.getElem?_append_right (by simp [ruleCells]; omega)]
    have := lentCells_get l G j i r g (by simpa using h1) (by simpa using h2) hi
    rw [← this]
    congr 1
    simp [ruleCells]
    omega
/-- The bodies of the first rules lie at G. -/
def BodiesAt (W : World) (l : List (S30)) (G : List Nat) : Prop := G.length = l.length ∧ ∀ (j : Nat) (r : S30) (g : Nat), l[j]? = some r → G[j]? = some g → RowAt W g 90 (r.f1.flatMap nodeCells ++ nodeCells holdNode)
/-- A core grammar's rules as they were lent: at block gR, the bodies at G. -/
structure Lent (W : World) (gR : Nat) (G : List Nat) (l : List (S30)) : Prop where
  rules : RowAt W gR 30 (lentCells l G ++ [.string holder, .slice none 0 0])
  bodies : BodiesAt W l G
theorem BodiesAt.below {W W' : World} {l : List (S30)} {G : List Nat} (h : BodiesAt W l G) (hb : Below W.heap.size W W') : BodiesAt W' l G := ⟨h.1, fun j r g h1 h2 => (h.2 j r g h1 h2).below hb⟩
theorem BodiesAt.grown {W W' : World} {l : List (S30)} {G : List Nat} (h : BodiesAt W l G) {row : Nat} (hg : W.grownBy W' (some row)) (hne : row ∉ G) : BodiesAt W' l G := ⟨h.1, fun j r g h1 h2 => (h.2 j r g h1 h2).grown hg (fun e => hne (by injection e with e; rw [← e]; exact List.mem_of_getElem? h2))⟩
theorem BodiesAt.snoc {W : World} {l : List (S30)} {G : List Nat} (h : BodiesAt W l G) {r : S30} {g : Nat} (hr : RowAt W g 90 (r.f1.flatMap nodeCells ++ nodeCells holdNode)) : BodiesAt W (l ++ [r]) (G ++ [g]) := by
  refine ⟨by simp [h.1], fun j r' g' h1 h2 => ?_⟩
  rcases Nat.lt_or_ge j l.length with hj | hj
  · rw [List.getElem?_append_left hj] at h1
    rw [List.getElem?_append_left (by rw [h.1]; exact hj)] at h2
    exact h.2 j r' g' h1 h2
  · have hj' : j = l.length := by
      have := (List.getElem?_eq_some_iff.1 h1).1
      simp at this
      omega
    subst hj'
    have e1 : r = r' := by simpa using h1
    have e2 : g = g' := by rw [← h.1] at h2; simpa using h2
    subst e1 e2
    exact hr
theorem BodiesAt.lt {W : World} {l : List (S30)} {G : List Nat} (h : BodiesAt W l G) : ∀ g ∈ G, g < W.heap.size := by
  intro g hg
  obtain ⟨j, hj, rfl⟩ := List.mem_iff_getElem.1 hg
  exact (h.2 j _ _ (List.getElem?_eq_getElem (by rw [← h.1]; exact hj)) (List.getElem?_eq_getElem hj)).lt
theorem Lent.below {W W' : World} {gR : Nat} {G : List Nat} {l : List (S30)} (h : Lent W gR G l) (hb : Below W.heap.size W W') : Lent W' gR G l := ⟨h.rules.below hb, h.bodies.below hb⟩
/-- What was lent, read. -/
theorem Lent.body {W : World} {gR : Nat} {G : List Nat} {l : List (S30)} (h : Lent W gR G l) (hb : ∀ r ∈ l, r.f1.length ≤ 9223372036854775806) {j : Nat} {r : S30} {g : Nat} (h1 : l[j]? = some r) (h2 : G[j]? = some g) :
    Kd.C k90 W (some ⟨g, 0, none⟩) r.f1.length r.f1 ∧ Kd.C k90 W (some ⟨g, 0, none⟩) (r.f1 ++ [holdNode]).length (r.f1 ++ [holdNode]) := by
  have hrow := h.bodies.2 j r g h1 h2
  have hl := hb r (List.mem_of_getElem? h1)
  exact ⟨flatNode.reads hrow r.f1 _ rfl (by omega), flatNode.reads hrow (r.f1 ++ [holdNode]) [] (by simp [List.flatMap_append]) (by simp; omega)⟩
theorem Lent.reads {W : World} {gR : Nat} {G : List Nat} {l : List (S30)} (h : Lent W gR G l) (hl : l.length ≤ 9223372036854775806) (hb : ∀ r ∈ l, r.f1.length ≤ 9223372036854775806) : Kd.C k30 W (some ⟨gR, 0, none⟩) l.length l := by
  refine ⟨rfl, by omega, fun _ => ⟨_, rfl, fun j r hj => ?_⟩⟩
  have hjl : j < l.length := (List.getElem?_eq_some_iff.1 hj).1
  have hg : j < G.length := by rw [h.bodies.1]; exact hjl
  have hb' := (h.body hb hj (List.getElem?_eq_getElem hg)).1
  refine ⟨ruleCells r G[j], rfl, k30_mk W r (by omega) hb', fun i u hu => ?_⟩
  have hi : i < 2 := by have := (List.getElem?_eq_some_iff.1 hu).1; simpa [ruleCells] using this
  show W.cell? ((⟨gR, 0, none⟩ : Addr).add (j * 2 + i)) = some u
  have hlt : j * 2 + i < (lentCells l G).length := by
    rw [lentCells_length l G h.bodies.1]
    omega
  rw [add_plain, h.rules.cell, List.getElem?_append_left hlt, lentCells_get l G j i r G[j] hj (List.getElem?_eq_getElem hg) hi]
  exact hu
end Go.Proofs.Ytebiogaacikphaa.Core
