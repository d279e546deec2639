/- Parts of the proof of packForged and packDecodes and Pack and Pack and Pack: PackRefIns. -/
import Derived.Test.YtebiogaacikphaaTP16
import Derived.Test.YtebiogaacikphaaTP17
section
namespace Go.Proofs.Ytebiogaacikphaa.Pack
open Go.RowKit Go.Proofs.YtebiogaacikphaaW.PrintWords Go.Proofs.Ytebiogaacikphaa.PAll
set_option linter.unusedVariables false
set_option linter.unusedSimpArgs false
set_option linter.unnecessarySimpa false
theorem own_of_R {e : Nat} {w : World} {base : Nat} {ok : Nat → Prop} {v : Value} {xs : List ByteArray} (h : Kd.R Kd.string e w base ok v xs) : w.ownsRow base e 1 v xs.length (xs.map Value.string) := by
  obtain ⟨_, inner, ho, hlen, hr⟩ := h
  have he : inner = xs.map Value.string := by
    refine List.ext_getElem? (fun j => ?_)
    have hlen : inner.length = xs.length * 1 := hlen
    rw [Nat.mul_one] at hlen
    rcases Nat.lt_or_ge j xs.length with h | h
    · have h1 := hr j xs[j] (List.getElem?_eq_getElem h)
      have h2 : (inner.drop (j * 1)).take 1 = [Value.string xs[j]] := h1
      rw [Nat.mul_one] at h2
      rw [List.getElem?_map, List.getElem?_eq_getElem h]
      have h3 := congrArg (fun l => l[0]?) h2
      simp only [List.getElem?_take, List.getElem?_drop] at h3
      simpa using h3
    · rw [List.getElem?_eq_none (by omega), List.getElem?_eq_none (by simpa using h)]
  rw [← he]
  exact ho
theorem rkind_ev (a : Int) : Ev (fun k => dowelref20_kind.f k a) (kindOf a) := by
  unfold dowelref20_kind.f
  have j1 : ∀ b : Bool, ¬ (a = 3 ∨ a = 4 ∨ a = 5 ∨ a = 6 ∨ a = 7 ∨ a = 10 ∨ a = 15) → (b = true ↔ (a = 1 ∨ a = 2)) → Ev (fun k => dowelref20_kind.j1 k a b) (kindOf a) := by
    intro b h0 hb
    refine Ev.step (fun _ => by rw [dowelref20_kind.j1]) ?_
    unfold kindOf
    rw [if_neg h0]
    refine Ev.ite (fun h => Ev.some_ (by rw [if_pos (hb.1 h)])) (fun h => ?_)
    rw [if_neg (fun h' => h (hb.2 h'))]
    refine Ev.ite (fun h => Ev.some_ (by rw [if_pos (.inl h)])) (fun h4 => ?_)
    exact Ev.ite (fun h => Ev.some_ (by rw [if_pos (.inr h)])) (fun h5 => Ev.some_ (by rw [if_neg (by omega)]))
  have j0 : ∀ b : Bool, (b = true ↔ (a = 3 ∨ a = 4 ∨ a = 5 ∨ a = 6 ∨ a = 7 ∨ a = 10 ∨ a = 15)) → Ev (fun k => dowelref20_kind.j0 k a b) (kindOf a) := by
    intro b hb
    refine Ev.step (fun _ => by rw [dowelref20_kind.j0]) ?_
    refine Ev.ite (fun h => Ev.some_ (by rw [kindOf, if_pos (hb.1 h)])) (fun h => ?_)
    have h0 : ¬ (a = 3 ∨ a = 4 ∨ a = 5 ∨ a = 6 ∨ a = 7 ∨ a = 10 ∨ a = 15) := fun h' => h (hb.2 h')
    exact Ev.ite (fun h1 => j1 _ h0 (by simp [h1])) (fun h1 => j1 _ h0 (by simp [h1]))
  refine Ev.ite (fun h => j0 _ (by simp [h])) (fun h3 => ?_)
  refine Ev.ite (fun h => j0 _ (by simp [h])) (fun h4 => ?_)
  refine Ev.ite (fun h => j0 _ (by simp [h])) (fun h5 => ?_)
  refine Ev.ite (fun h => j0 _ (by simp [h])) (fun h6 => ?_)
  refine Ev.ite (fun h => j0 _ (by simp [h])) (fun h7 => ?_)
  exact Ev.ite (fun h => j0 _ (by simp [h])) (fun h10 => j0 _ (by simp [h3, h4, h5, h6, h7, h10]))
theorem rkind_lit (a v : Int) (hv : kindOf a = v) (w : World) : Calls Try.prog 80 #[.int .i64 a] w fun e w' => e = .returned (.int .i64 v) ∧ Below w.heap.size w w' := by
  subst hv
  obtain ⟨k, hk⟩ := rkind_ev a
  exact (dowelref20_kind.calls k a _ w (hk k (Nat.le_refl _))).mono fun e w' ⟨he, hd⟩ => ⟨he, hd.below⟩
/-- One instruction. -/
def instrL (e i size kc kn : Nat) (S : List Four) (T : List ByteArray) : List Int → Except (Int × Int) ((Ins × Nat × Nat) × List Int)
  | [] => .error (e, 200)
  | x :: r => match numL e x r with
    | .error f => .error f
    | .ok (n, r') => match putL (x % 16) i n size kc kn S T with
      | none => .error ((e - (r.length + 1) : Nat), 204)
      | some z => .ok (z, r')
theorem insL_step (e size : Nat) (S : List Four) (T : List ByteArray) (d i kc kn : Nat) (acc : List Ins) (l : List Int) : insL e size S T (d + 1) i kc kn acc l = match instrL e i size kc kn S T l with
    | .error f => .error f
    | .ok (z, r) => insL e size S T d (i + 1) z.2.1 z.2.2 (acc ++ [z.1]) r := by
  cases l with
  | nil => rfl
  | cons x r =>
    rw [insL, instrL]
    cases numL e x r with
    | error f => rfl
    | ok p =>
      obtain ⟨n, r'⟩ := p
      dsimp only
      cases putL (x % 16) i n size kc kn S T with
      | none => rfl
      | some z => rfl
/-- The tables and what was used, while the reader goes on. -/
structure TI (w0 w W : World) (g gu : Nat) (vs vt : Value) (S : List Four) (T : List ByteArray) (kc kn : Nat) : Prop where
  us : RowAt W gu 115 [.int .i64 kc, .int .i64 kn]
  s : W.ownsRow w0.heap.size 76 4 vs S.length (S.flatMap clsCells)
  t : W.ownsRow w0.heap.size 9 1 vt T.length (T.map Value.string)
  fr : OnlyTwo w W g gu
  sb : ∀ k, vs.ownBlock = some k → k < w.heap.size ∧ k ≠ g ∧ k ≠ gu
  tb : ∀ k, vt.ownBlock = some k → k < w.heap.size ∧ k ≠ g ∧ k ≠ gu
  glt : g < w.heap.size
  gult : gu < w.heap.size
  gne : gu ≠ g
section
variable {w0 w W W' : World} {g gu : Nat} {vs vt : Value} {S : List Four} {T : List ByteArray} {kc kn : Nat}
theorem TI.kept (h : TI w0 w W g gu vs vt S T kc kn) (hs : W.heap.size ≤ W'.heap.size) (hk : ∀ q, q < w.heap.size → q ≠ g → W'.heap[q]? = W.heap[q]?) : TI w0 w W' g gu vs vt S T kc kn :=
  ⟨h.us.kept (hk gu h.gult h.gne), own_kept h.s (fun k e => hk k (h.sb k e).1 (h.sb k e).2.1), own_kept h.t (fun k e => hk k (h.tb k e).1 (h.tb k e).2.1), h.fr.then_ hs (fun q h1 h2 _ => hk q h1 h2), h.sb, h.tb, h.glt, h.gult, h.gne⟩
theorem TI.below (h : TI w0 w W g gu vs vt S T kc kn) (hb : Below W.heap.size W W') : TI w0 w W' g gu vs vt S T kc kn := h.kept hb.size (fun q hq _ => hb.block q (by have := h.fr.1; omega))
theorem TI.step (h : TI w0 w W g gu vs vt S T kc kn) (ho : Only W W' g) : TI w0 w W' g gu vs vt S T kc kn := h.kept ho.1 (fun q hq hne => ho.2 q (by have := h.fr.1; omega) hne)
theorem TI.new (h : TI w0 w W g gu vs vt S T kc kn) {r : Nat} (hg : W.grownBy W' (some r)) (hr : w.heap.size ≤ r) : TI w0 w W' g gu vs vt S T kc kn := h.kept hg.size (fun q hq _ => hg.block q (by have := h.fr.1; omega) (by simp; omega))
theorem TI.used (h : TI w0 w W g gu vs vt S T kc kn) {kc' kn' : Nat} (hu : RowAt W' gu 115 [.int .i64 kc', .int .i64 kn']) (hg : W.grownBy W' (some gu)) : TI w0 w W' g gu vs vt S T kc' kn' :=
  ⟨hu, own_kept h.s (fun k e => hg.block k (own_lt h.s k e) (by have := (h.sb k e).2.2; simpa using this)), own_kept h.t (fun k e => hg.block k (own_lt h.t k e) (by have := (h.tb k e).2.2; simpa using this)), h.fr.then_ hg.size (fun q h1 _ h3 => hg.block q (by have := h.fr.1; omega) (by simpa using h3)), h.sb, h.tb, h.glt, h.gult, h.gne⟩
end
theorem ins_at {W : World} {g : Nat} {e : TypeId} {y : Ins} (h : RowAt W g e (insCells y)) : W.cell? ⟨g, 0, none⟩ = some (.int .i64 y.f0) ∧ W.cell? ⟨g, 1, none⟩ = some (.int .i64 y.f1) ∧ W.cell? ⟨g, 2, none⟩ = some (.int .u64 y.f2.f0) ∧ W.cell? ⟨g, 3, none⟩ = some (.int .u64 y.f2.f1) ∧ W.cell? ⟨g, 4, none⟩ = some (.int .u64 y.f2.f2) ∧ W.cell? ⟨g, 5, none⟩ = some (.int .u64 y.f2.f3) ∧ W.cell? ⟨g, 6, none⟩ = some (.string y.f3) :=
  ⟨h.cell 0, h.cell 1, h.cell 2, h.cell 3, h.cell 4, h.cell 5, h.cell 6⟩
theorem put_ins {P : Program} {ops : Array Oper} {Q : Exit → Act → World → Prop} {rest : List Oper} {a : Act} {o : Oper} {W : World} (hgd : o.guard = none) (hN : o.dst = none) (t : TypeId) (p x : Operand) (ho : o.op = .store t p x) {g : Nat} {e : TypeId} {z : Ins} {f0 f1 a0 a1 a2 a3 : Int} {s : ByteArray} (hp : a.eval p = .pointer (some ⟨g, 0, none⟩)) (hx : a.eval x = .agg #[.int .i64 f0, .int .i64 f1, .int .u64 a0, .int .u64 a1, .int .u64 a2, .int .u64 a3, .string s])
    (hb : RowAt W g e (insCells z)) (hi : (P.info? t).map (·.size) = some 7)
    (h : ∀ w1, RowAt w1 g e (insCells ⟨f0, f1, ⟨a0, a1, a2, a3⟩, s⟩) → W.grownBy w1 (some g) → wpList P ops Q rest a w1) : wpList P ops Q (o :: rest) a W :=
  put_event hgd hN t p x ho (off := 0) (u := .agg #[.int .i64 f0, .int .i64 f1, .int .u64 a0, .int .u64 a1, .int .u64 a2, .int .u64 a3, .string s]) (seg := insCells ⟨f0, f1, ⟨a0, a1, a2, a3⟩, s⟩) hp hx hb rfl (by rw [hi]; rfl) (by simp [insCells]) (by simp [insCells, Value.oneCell']) (fun w1 h1 h2 => h w1 h1 h2)
/-- What an instruction comes to. -/
def InsOut (w0 w w' : World) (g gu : Nat) (b : List Int) (e : Nat) (vs vt : Value) (S : List Four) (T : List ByteArray) (x : Ending) (res : Except (Int × Int) ((Ins × Nat × Nat) × List Int)) : Prop :=
  ∃ y kc' kn', x = .returned (.agg (insCells y).toArray) ∧ TI w0 w w' g gu vs vt S T kc' kn' ∧ RSt w0 w' g b e (res.map (·.2)) ∧ (∀ z r, res = .ok (z, r) → z = (y, kc', kn'))
theorem kind_cases (a : Int) : kindOf a = 0 ∨ kindOf a = 1 ∨ kindOf a = 2 ∨ kindOf a = 3 := by
  unfold kindOf
  split
  · exact .inr (.inl rfl)
  · split
    · exact .inr (.inr (.inl rfl))
    · split
      · exact .inr (.inr (.inr rfl))
      · exact .inl rfl
theorem toOf_odd (i nn : Nat) (h : nn % 2 = 1) : toOf i nn = (i : Int) + (-((nn / 2 : Nat) : Int) - 1) := by
  rw [toOf, if_pos h]; omega
theorem toOf_even (i nn : Nat) (h : ¬ nn % 2 = 1) : toOf i nn = (i : Int) + ((nn / 2 : Nat) : Int) := by
  rw [toOf, if_neg h]
section
variable (w0 w : World) (g : Nat) (b : List Int) (at_ e : Nat)
set_option maxHeartbeats 40000000 in
set_option maxRecDepth 100000 in
theorem instr_calls (gu i size : Nat) (hi : i ≤ 65536) (As At : Option Addr) (cs ct : Nat) (vn : Value) (hvn : IsSl vn) (S : List Four) (T : List ByteArray) (kc kn : Nat) (hS : S.length ≤ 65536 ∧ T.length ≤ 65536 ∧ kc ≤ 65536 ∧ kn ≤ 65536) (h : RR w0 w g b at_ e 0 0) (hby : ∀ x ∈ b, 0 ≤ x ∧ x < 256) (hgu : w0.heap.size ≤ gu) (hti : TI w0 w w g gu (.slice As S.length cs) (.slice At T.length ct) S T kc kn)
    (res : Except (Int × Int) ((Ins × Nat × Nat) × List Int)) (hres : instrL e i size kc kn S T ((b.take e).drop at_) = res) :
    Calls Try.prog 61 #[.pointer (some ⟨g, 0, none⟩), .int .i64 i, .int .i64 size, .agg #[.slice As S.length cs, .slice At T.length ct, vn], .pointer (some ⟨gu, 0, none⟩)] w fun x w' => InsOut w0 w w' g gu b e (.slice As S.length cs) (.slice At T.length ct) S T x res := by
  obtain ⟨An, nn0, cn, rfl⟩ := hvn
  generalize hvn : Value.slice An nn0 cn = vn at *
  have HVN := Aside0.mk hvn
  have HGUW := Aside0.mk hgu
  have HY := Aside0.mk hby
  have heb := h.e_
  have H := Aside0.mk h
  have HI := Aside0.mk hti
  have HS := Aside0.mk hS
  clear hvn hby h hti hS hgu
  refine (Nat.lt_or_ge at_ e).elim (fun c1 => ?A1a) (fun c1 => ?A1b)
  case' A1a =>
    have c2 : at_ < b.length := by omega
    have hl1 : ((b.take e).drop (at_ + 1)).length = e - (at_ + 1) := by rw [List.length_drop, List.length_take]; omega
    obtain ⟨X, hX⟩ : ∃ X, X = b[at_] := ⟨_, rfl⟩
    have HBY : Aside0 (∀ W, RR w0 W g b at_ e 0 0 → Calls Try.prog 93 #[.pointer (some ⟨g, 0, none⟩)] W fun z w' => z = .returned (.int .u8 X) ∧ RR w0 w' g b (at_ + 1) e 0 0 ∧ Only W w' g) := ⟨fun W hW => by rw [hX]; exact rbyte_ok w0 W g b at_ e hW c1 c2⟩
    obtain ⟨hX0, hX1⟩ := HY.out b[at_] (List.getElem_mem _)
    rw [left_cons c1 heb, ← hX, instrL, numL, hl1, show e - (e - (at_ + 1)) = at_ + 1 by omega, show e - (e - (at_ + 1) + 1) = at_ by omega] at hres
    rw [← hX] at hX0 hX1
    clear hX
    obtain ⟨hS1, hS2, hS3, hS4⟩ := HS.out
    refine (Classical.em (X / 16 = 15)).elim (fun c15 => ?A2a) (fun c15 => ?A2b)
    case' A2a =>
      rw [if_pos c15] at hres
      have hh1 : IntKind.u8.wrap 15 = 15 := by decide +kernel
      have hh3 : IntKind.i64.wrap 15 = 15 := by decide +kernel
      have hnn0 := fun n r => cntL_nonneg e (at_ + 1) ((b.take e).drop (at_ + 1)) 0 0 n r (fun x hx => HY.out x (List.mem_of_mem_take (List.mem_of_mem_drop hx))) (by omega)
      have hnn2 := fun n r => cntL_le e (at_ + 1) ((b.take e).drop (at_ + 1)) 0 0 n r
      generalize hcnt : cntL e (at_ + 1) 0 0 ((b.take e).drop (at_ + 1)) = cnt at *
      have HCNT := Aside0.mk hcnt
      clear hcnt
      rcases cnt with f | ⟨cv, r2⟩
      case' error =>
        have HRES := Aside0.mk hres
        clear hres hnn0 hnn2
        skip
      case' ok =>
        obtain ⟨cn0, hcn⟩ := Int.eq_ofNat_of_zero_le (hnn0 cv r2 rfl)
        subst hcn
        have hcn2 := hnn2 _ r2 rfl
        clear hnn0 hnn2
        have hsum : IntKind.i64.wrap (15 + (cn0 : Int)) = ((15 + cn0 : Nat) : Int) := by rw [IntWalk.i64_in _ (by omega)]; omega
        dsimp only at hres
        rw [Int.toNat_natCast] at hres
        generalize hnn : 15 + cn0 = nn at *
        have hn16 : nn ≤ 2147483700 := by omega
        clear hnn
        refine (kind_cases (X % 16)).elim (fun k0 => ?A3a ) (fun k => k.elim (fun k0 => ?A3b) (fun k => k.elim (fun k0 => ?A3c) (fun k0 => ?A3d)))
        case' A3a =>
          have HKIND := Aside0.mk k0
          rw [putL, if_neg (by rw [k0]; decide), if_neg (by rw [k0]; decide), if_neg (by rw [k0]; decide)] at hres
          refine (Classical.em (nn = 0)).elim (fun n0 => ?A4a) (fun n0 => ?A4b)
          case' A4a =>
            rw [if_pos n0] at hres
            have bn : ((nn : Int) == 0) = true := by simp; omega
            have HRES := Aside0.mk hres
            clear hres k0 n0
            skip
          case' A4b =>
            rw [if_neg n0] at hres
            have bn : ((nn : Int) == 0) = false := by simp; omega
            have HRES := Aside0.mk hres
            clear hres k0 n0
            skip
        case' A3b =>
          have HKIND := Aside0.mk k0
          rw [putL, if_pos k0] at hres
          have hh2 : IntKind.i64.wrap ((nn : Int) / 2) = ((nn / 2 : Nat) : Int) := by rw [IntWalk.i64_in _ (by omega)]; omega
          have htm : (nn : Int).tmod 2 = ((nn % 2 : Nat) : Int) := by rw [Int.tmod_eq_emod_of_nonneg (by omega)]; omega
          refine (Classical.em (nn % 2 = 1)).elim (fun odd => ?A5a) (fun odd => ?A5b)
          case' A5a =>
            have b1 : (((nn % 2 : Nat) : Int) == 1) = true := by simp; omega
            have ht := toOf_odd i nn odd
            have hr : -4294967296 ≤ toOf i nn ∧ toOf i nn ≤ 4294967296 := by rw [ht]; omega
            generalize toOf i nn = t at *
            generalize nn / 2 = h2 at *
            generalize nn % 2 = m2 at *
            have hn1 : IntKind.i64.wrap (-(h2 : Int)) = -(h2 : Int) := IntWalk.i64_in _ (by omega)
            have hn2 : IntKind.i64.wrap (-(h2 : Int) - 1) = -(h2 : Int) - 1 := IntWalk.i64_in _ (by omega)
            have hn3 : IntKind.i64.wrap ((i : Int) + (-(h2 : Int) - 1)) = t := by rw [← ht]; exact IntWalk.i64_in _ (by omega)
            have HT := Aside0.mk ht
            clear ht odd
            refine (Classical.em (0 ≤ t)).elim (fun c0 => ?A6a) (fun c0 => ?A6b)
            case' A6a =>
              have b2 : decide (t ≥ 0) = true := by simpa using c0
              refine (Classical.em (t < (size : Int))).elim (fun c9 => ?A7a) (fun c9 => ?A7b)
              case' A7a =>
                have b3 : decide (t < (size : Int)) = true := by simpa using c9
                rw [if_pos (by omega)] at hres
                have HRES := Aside0.mk hres
                clear hres k0
                skip
              case' A7b =>
                have b3 : decide (t < (size : Int)) = false := by simpa using c9
                rw [if_neg (by omega)] at hres
                have HRES := Aside0.mk hres
                clear hres k0
                skip
            case' A6b =>
              have b2 : decide (t ≥ 0) = false := by simpa using c0
              rw [if_neg (by omega)] at hres
              have HRES := Aside0.mk hres
              clear hres k0
              skip
          case' A5b =>
            have b1 : (((nn % 2 : Nat) : Int) == 1) = false := by simp; omega
            have ht := toOf_even i nn odd
            have hr : -4294967296 ≤ toOf i nn ∧ toOf i nn ≤ 4294967296 := by rw [ht]; omega
            generalize toOf i nn = t at *
            generalize nn / 2 = h2 at *
            generalize nn % 2 = m2 at *
            have hn3 : IntKind.i64.wrap ((i : Int) + (h2 : Int)) = t := by rw [← ht]; exact IntWalk.i64_in _ (by omega)
            have HT := Aside0.mk ht
            clear ht odd
            refine (Classical.em (0 ≤ t)).elim (fun c0 => ?A8a) (fun c0 => ?A8b)
            case' A8a =>
              have b2 : decide (t ≥ 0) = true := by simpa using c0
              refine (Classical.em (t < (size : Int))).elim (fun c9 => ?A9a) (fun c9 => ?A9b)
              case' A9a =>
                have b3 : decide (t < (size : Int)) = true := by simpa using c9
                rw [if_pos (by omega)] at hres
                have HRES := Aside0.mk hres
                clear hres k0
                skip
              case' A9b =>
                have b3 : decide (t < (size : Int)) = false := by simpa using c9
                rw [if_neg (by omega)] at hres
                have HRES := Aside0.mk hres
                clear hres k0
                skip
            case' A8b =>
              have b2 : decide (t ≥ 0) = false := by simpa using c0
              rw [if_neg (by omega)] at hres
              have HRES := Aside0.mk hres
              clear hres k0
              skip
        case' A3c =>
          have HKIND := Aside0.mk k0
          rw [putL, if_neg (by rw [k0]; decide), if_pos k0] at hres
          refine (Classical.em (nn ≤ kc)).elim (fun c5 => ?A10a) (fun c5 => ?A10b)
          case' A10a =>
            have b5 : decide ((nn : Int) ≤ (kc : Int)) = true := decide_eq_true (by omega)
            rw [if_pos c5] at hres
            refine (Classical.em (nn < S.length)).elim (fun c6 => ?A11a) (fun c6 => ?A11b)
            case' A11a =>
              have b6 : decide ((nn : Int) < (S.length : Int)) = true := decide_eq_true (by omega)
              obtain ⟨y, hy⟩ : ∃ y, S[nn]? = some y := ⟨_, List.getElem?_eq_getElem c6⟩
              rw [hy] at hres
              have HYY := Aside0.mk hy
              have HRES := Aside0.mk hres
              clear hres k0 hy
              obtain ⟨gS, cp, he, _⟩ := cls_at HI.out.s HYY.out
              have HE := Aside0.mk (show As = some ⟨gS, 0, none⟩ by injection he)
              clear he
              have hixS : ∀ W : World, (Instr.indexAt 85 (.slice As S.length cs) (.int .i64 (nn : Int))).run Try.prog W = .ok (.pointer (some ⟨gS, nn * 4, none⟩)) W := fun W => by
                rw [HE.out]
                exact run_indexAt_own (P := Try.prog) (t := 85) (size := 4) Try.underlying85 (fun W => by kernel_rfl) gS S.length cs nn c6 W
              have hwn : IntKind.i64.wrap ((nn : Int) + 1) = (nn : Int) + 1 := IntWalk.i64_in _ (by omega)
              have HMX := Aside0.mk (show max (kc : Int) ((nn : Int) + 1) = ((max kc (nn + 1) : Nat) : Int) by omega)
              skip
            case' A11b =>
              have b6 : decide ((nn : Int) < (S.length : Int)) = false := decide_eq_false (by omega)
              rw [List.getElem?_eq_none (by omega)] at hres
              have HRES := Aside0.mk hres
              clear hres k0
              skip
          case' A10b =>
            have b5 : decide ((nn : Int) ≤ (kc : Int)) = false := decide_eq_false (by omega)
            rw [if_neg c5] at hres
            have HRES := Aside0.mk hres
            clear hres k0
            skip
        case' A3d =>
          have HKIND := Aside0.mk k0
          rw [putL, if_neg (by rw [k0]; decide), if_neg (by rw [k0]; decide), if_pos k0] at hres
          refine (Classical.em (nn ≤ kn)).elim (fun c5 => ?A12a) (fun c5 => ?A12b)
          case' A12a =>
            have b5 : decide ((nn : Int) ≤ (kn : Int)) = true := decide_eq_true (by omega)
            rw [if_pos c5] at hres
            refine (Classical.em (nn < T.length)).elim (fun c6 => ?A13a) (fun c6 => ?A13b)
            case' A13a =>
              have b6 : decide ((nn : Int) < (T.length : Int)) = true := decide_eq_true (by omega)
              obtain ⟨y, hy⟩ : ∃ y, T[nn]? = some y := ⟨_, List.getElem?_eq_getElem c6⟩
              rw [hy] at hres
              have HYY := Aside0.mk hy
              have HRES := Aside0.mk hres
              clear hres k0 hy
              obtain ⟨gS, cp, he, _⟩ := str_at HI.out.t HYY.out
              have HE := Aside0.mk (show At = some ⟨gS, 0, none⟩ by injection he)
              clear he
              have hixS : ∀ W : World, (Instr.indexAt 86 (.slice At T.length ct) (.int .i64 (nn : Int))).run Try.prog W = .ok (.pointer (some ⟨gS, nn, none⟩)) W := fun W => by
                rw [HE.out]
                have := run_indexAt_own (P := Try.prog) (t := 86) (size := 1) Try.underlying86 (fun W => by kernel_rfl) gS T.length ct nn c6 W
                rwa [Nat.mul_one] at this
              have hwn : IntKind.i64.wrap ((nn : Int) + 1) = (nn : Int) + 1 := IntWalk.i64_in _ (by omega)
              have HMX := Aside0.mk (show max (kn : Int) ((nn : Int) + 1) = ((max kn (nn + 1) : Nat) : Int) by omega)
              skip
            case' A13b =>
              have b6 : decide ((nn : Int) < (T.length : Int)) = false := decide_eq_false (by omega)
              rw [List.getElem?_eq_none (by omega)] at hres
              have HRES := Aside0.mk hres
              clear hres k0
              skip
          case' A12b =>
            have b5 : decide ((nn : Int) ≤ (kn : Int)) = false := decide_eq_false (by omega)
            rw [if_neg c5] at hres
            have HRES := Aside0.mk hres
            clear hres k0
            skip
    case' A2b =>
      rw [if_neg c15] at hres
      dsimp only at hres
      obtain ⟨nn, hnn⟩ : ∃ nn : Nat, X / 16 = nn := ⟨(X / 16).toNat, by omega⟩
      have hn16 : nn < 16 := by omega
      have b15 : ((nn : Int) == 15) = false := by simp; omega
      have hh1 : IntKind.u8.wrap (nn : Int) = nn := IntWalk.u8_in _ (by omega)
      have hh3 : IntKind.i64.wrap (nn : Int) = nn := IntWalk.i64_in _ (by omega)
      rw [show (X / 16).toNat = nn by omega] at hres
      clear c15
      refine (kind_cases (X % 16)).elim (fun k0 => ?A14a ) (fun k => k.elim (fun k0 => ?A14b) (fun k => k.elim (fun k0 => ?A14c) (fun k0 => ?A14d)))
      case' A14a =>
        have HKIND := Aside0.mk k0
        rw [putL, if_neg (by rw [k0]; decide), if_neg (by rw [k0]; decide), if_neg (by rw [k0]; decide)] at hres
        refine (Classical.em (nn = 0)).elim (fun n0 => ?A15a) (fun n0 => ?A15b)
        case' A15a =>
          rw [if_pos n0] at hres
          have bn : ((nn : Int) == 0) = true := by simp; omega
          have HRES := Aside0.mk hres
          clear hres k0 n0
          skip
        case' A15b =>
          rw [if_neg n0] at hres
          have bn : ((nn : Int) == 0) = false := by simp; omega
          have HRES := Aside0.mk hres
          clear hres k0 n0
          skip
      case' A14b =>
        have HKIND := Aside0.mk k0
        rw [putL, if_pos k0] at hres
        have hh2 : IntKind.i64.wrap ((nn : Int) / 2) = ((nn / 2 : Nat) : Int) := by rw [IntWalk.i64_in _ (by omega)]; omega
        have htm : (nn : Int).tmod 2 = ((nn % 2 : Nat) : Int) := by rw [Int.tmod_eq_emod_of_nonneg (by omega)]; omega
        refine (Classical.em (nn % 2 = 1)).elim (fun odd => ?A16a) (fun odd => ?A16b)
        case' A16a =>
          have b1 : (((nn % 2 : Nat) : Int) == 1) = true := by simp; omega
          have ht := toOf_odd i nn odd
          have hr : -4294967296 ≤ toOf i nn ∧ toOf i nn ≤ 4294967296 := by rw [ht]; omega
          generalize toOf i nn = t at *
          generalize nn / 2 = h2 at *
          generalize nn % 2 = m2 at *
          have hn1 : IntKind.i64.wrap (-(h2 : Int)) = -(h2 : Int) := IntWalk.i64_in _ (by omega)
          have hn2 : IntKind.i64.wrap (-(h2 : Int) - 1) = -(h2 : Int) - 1 := IntWalk.i64_in _ (by omega)
          have hn3 : IntKind.i64.wrap ((i : Int) + (-(h2 : Int) - 1)) = t := by rw [← ht]; exact IntWalk.i64_in _ (by omega)
          have HT := Aside0.mk ht
          clear ht odd
          refine (Classical.em (0 ≤ t)).elim (fun c0 => ?A17a) (fun c0 => ?A17b)
          case' A17a =>
            have b2 : decide (t ≥ 0) = true := by simpa using c0
            refine (Classical.em (t < (size : Int))).elim (fun c9 => ?A18a) (fun c9 => ?A18b)
            case' A18a =>
              have b3 : decide (t < (size : Int)) = true := by simpa using c9
              rw [if_pos (by omega)] at hres
              have HRES := Aside0.mk hres
              clear hres k0
              skip
            case' A18b =>
              have b3 : decide (t < (size : Int)) = false := by simpa using c9
              rw [if_neg (by omega)] at hres
              have HRES := Aside0.mk hres
              clear hres k0
              skip
          case' A17b =>
            have b2 : decide (t ≥ 0) = false := by simpa using c0
            rw [if_neg (by omega)] at hres
            have HRES := Aside0.mk hres
            clear hres k0
            skip
        case' A16b =>
          have b1 : (((nn % 2 : Nat) : Int) == 1) = false := by simp; omega
          have ht := toOf_even i nn odd
          have hr : -4294967296 ≤ toOf i nn ∧ toOf i nn ≤ 4294967296 := by rw [ht]; omega
          generalize toOf i nn = t at *
          generalize nn / 2 = h2 at *
          generalize nn % 2 = m2 at *
          have hn3 : IntKind.i64.wrap ((i : Int) + (h2 : Int)) = t := by rw [← ht]; exact IntWalk.i64_in _ (by omega)
          have HT := Aside0.mk ht
          clear ht odd
          refine (Classical.em (0 ≤ t)).elim (fun c0 => ?A19a) (fun c0 => ?A19b)
          case' A19a =>
            have b2 : decide (t ≥ 0) = true := by simpa using c0
            refine (Classical.em (t < (size : Int))).elim (fun c9 => ?A20a) (fun c9 => ?A20b)
            case' A20a =>
              have b3 : decide (t < (size : Int)) = true := by simpa using c9
              rw [if_pos (by omega)] at hres
              have HRES := Aside0.mk hres
              clear hres k0
              skip
            case' A20b =>
              have b3 : decide (t < (size : Int)) = false := by simpa using c9
              rw [if_neg (by omega)] at hres
              have HRES := Aside0.mk hres
              clear hres k0
              skip
          case' A19b =>
            have b2 : decide (t ≥ 0) = false := by simpa using c0
            rw [if_neg (by omega)] at hres
            have HRES := Aside0.mk hres
            clear hres k0
            skip
      case' A14c =>
        have HKIND := Aside0.mk k0
        rw [putL, if_neg (by rw [k0]; decide), if_pos k0] at hres
        refine (Classical.em (nn ≤ kc)).elim (fun c5 => ?A21a) (fun c5 => ?A21b)
        case' A21a =>
          have b5 : decide ((nn : Int) ≤ (kc : Int)) = true := decide_eq_true (by omega)
          rw [if_pos c5] at hres
          refine (Classical.em (nn < S.length)).elim (fun c6 => ?A22a) (fun c6 => ?A22b)
          case' A22a =>
            have b6 : decide ((nn : Int) < (S.length : Int)) = true := decide_eq_true (by omega)
            obtain ⟨y, hy⟩ : ∃ y, S[nn]? = some y := ⟨_, List.getElem?_eq_getElem c6⟩
            rw [hy] at hres
            have HYY := Aside0.mk hy
            have HRES := Aside0.mk hres
            clear hres k0 hy
            obtain ⟨gS, cp, he, _⟩ := cls_at HI.out.s HYY.out
            have HE := Aside0.mk (show As = some ⟨gS, 0, none⟩ by injection he)
            clear he
            have hixS : ∀ W : World, (Instr.indexAt 85 (.slice As S.length cs) (.int .i64 (nn : Int))).run Try.prog W = .ok (.pointer (some ⟨gS, nn * 4, none⟩)) W := fun W => by
              rw [HE.out]
              exact run_indexAt_own (P := Try.prog) (t := 85) (size := 4) Try.underlying85 (fun W => by kernel_rfl) gS S.length cs nn c6 W
            have hwn : IntKind.i64.wrap ((nn : Int) + 1) = (nn : Int) + 1 := IntWalk.i64_in _ (by omega)
            have HMX := Aside0.mk (show max (kc : Int) ((nn : Int) + 1) = ((max kc (nn + 1) : Nat) : Int) by omega)
            skip
          case' A22b =>
            have b6 : decide ((nn : Int) < (S.length : Int)) = false := decide_eq_false (by omega)
            rw [List.getElem?_eq_none (by omega)] at hres
            have HRES := Aside0.mk hres
            clear hres k0
            skip
        case' A21b =>
          have b5 : decide ((nn : Int) ≤ (kc : Int)) = false := decide_eq_false (by omega)
          rw [if_neg c5] at hres
          have HRES := Aside0.mk hres
          clear hres k0
          skip
      case' A14d =>
        have HKIND := Aside0.mk k0
        rw [putL, if_neg (by rw [k0]; decide), if_neg (by rw [k0]; decide), if_pos k0] at hres
        refine (Classical.em (nn ≤ kn)).elim (fun c5 => ?A23a) (fun c5 => ?A23b)
        case' A23a =>
          have b5 : decide ((nn : Int) ≤ (kn : Int)) = true := decide_eq_true (by omega)
          rw [if_pos c5] at hres
          refine (Classical.em (nn < T.length)).elim (fun c6 => ?A24a) (fun c6 => ?A24b)
          case' A24a =>
            have b6 : decide ((nn : Int) < (T.length : Int)) = true := decide_eq_true (by omega)
            obtain ⟨y, hy⟩ : ∃ y, T[nn]? = some y := ⟨_, List.getElem?_eq_getElem c6⟩
            rw [hy] at hres
            have HYY := Aside0.mk hy
            have HRES := Aside0.mk hres
            clear hres k0 hy
            obtain ⟨gS, cp, he, _⟩ := str_at HI.out.t HYY.out
            have HE := Aside0.mk (show At = some ⟨gS, 0, none⟩ by injection he)
            clear he
            have hixS : ∀ W : World, (Instr.indexAt 86 (.slice At T.length ct) (.int .i64 (nn : Int))).run Try.prog W = .ok (.pointer (some ⟨gS, nn, none⟩)) W := fun W => by
              rw [HE.out]
              have := run_indexAt_own (P := Try.prog) (t := 86) (size := 1) Try.underlying86 (fun W => by kernel_rfl) gS T.length ct nn c6 W
              rwa [Nat.mul_one] at this
            have hwn : IntKind.i64.wrap ((nn : Int) + 1) = (nn : Int) + 1 := IntWalk.i64_in _ (by omega)
            have HMX := Aside0.mk (show max (kn : Int) ((nn : Int) + 1) = ((max kn (nn + 1) : Nat) : Int) by omega)
            skip
          case' A24b =>
            have b6 : decide ((nn : Int) < (T.length : Int)) = false := decide_eq_false (by omega)
            rw [List.getElem?_eq_none (by omega)] at hres
            have HRES := Aside0.mk hres
            clear hres k0
            skip
        case' A23b =>
          have b5 : decide ((nn : Int) ≤ (kn : Int)) = false := decide_eq_false (by omega)
          rw [if_neg c5] at hres
          have HRES := Aside0.mk hres
          clear hres k0
          skip
  case' A1b =>
    rw [left_nil c1, instrL] at hres
    have HRES := Aside0.mk hres
    have HF := Aside0.mk (show ((200 : Int) == 0) = false by decide)
    clear hres
    skip
  all_goals
    as_aux_lemma =>
      go_enter Try.func61, Try.ntmps61
      go_wp2_with (first
        | ((with_reducible refine gate_dst (N := 8) rfl ?_); refine box_event (N := 8) rfl rfl (cs := #[.slice As S.length cs, .slice At T.length ct, vn]) (t := 112) ?hr2 ?_; (case hr2 => first | (go_simp; done) | (go_simp; rfl)); intro g8 hg8 w1 hbox hb1; have H8 := Aside0.mk (show RowAt w1 g8 112 [.slice As S.length cs, .slice At T.length ct, vn] from ⟨_, hbox, rfl⟩); have HG8 := Aside0.mk (show w.heap.size ≤ g8 by have := HI.out.fr.1; omega); have n1_ := Aside0.mk (HI.out.below hb1); have n2_ := Aside0.mk (H.out.below hb1); clear HI H; have HI := n1_; have H := n2_; clear n1_ n2_; clear hbox hb1 hg8)
        | ((with_reducible refine gate_dst (N := 10) rfl ?_); refine box_event (N := 10) rfl rfl (cs := #[.int .i64 0, .int .i64 0, .int .u64 0, .int .u64 0, .int .u64 0, .int .u64 0, .string (⟨#[]⟩ : ByteArray)]) (t := 78) ?hr2 ?_; (case hr2 => first | (go_simp; done) | (go_simp; rfl)); intro g10 hg10 w1 hbox hb1; have H10 := Aside0.mk (show RowAt w1 g10 78 (insCells zIns) from ⟨_, hbox, rfl⟩); have n3_ := Aside0.mk (H8.out.below hb1); have HG10 := Aside0.mk (show g8 < g10 by have := H8.out.lt; omega); clear H8; have H8 := n3_; clear n3_; have n1_ := Aside0.mk (HI.out.below hb1); have n2_ := Aside0.mk (H.out.below hb1); clear HI H; have HI := n1_; have H := n2_; clear n1_ n2_; clear hbox hb1 hg10; have h1 := H.out.c1)
        | (go_at_call 93; refine (HBY.out _ H.out).mono ?_; rintro xx w2 ⟨rfl, hq1, hq2⟩; clear h1 H; have H := Aside0.mk hq1; have n1_ := Aside0.mk (HI.out.step hq2); have n3_ := Aside0.mk (H8.out.kept (hq2.2 g8 H8.out.lt (by have := HG8.out; have := HI.out.glt; omega))); have n4_ := Aside0.mk (H10.out.kept (hq2.2 g10 H10.out.lt (by have := HG8.out; have := HG10.out; have := HI.out.glt; omega))); clear HI H8 H10; have HI := n1_; have H8 := n3_; have H10 := n4_; clear n1_ n3_ n4_; clear hq1 hq2)
        | (go_at_call 93; refine (rbyte_short w0 _ g b at_ e H.out c1).mono ?_; rintro xx w2 ⟨rfl, hq1, hq2⟩; clear h1 H; have H := Aside0.mk hq1; have n1_ := Aside0.mk (HI.out.step hq2); have n3_ := Aside0.mk (H8.out.kept (hq2.2 g8 H8.out.lt (by have := HG8.out; have := HI.out.glt; omega))); have n4_ := Aside0.mk (H10.out.kept (hq2.2 g10 H10.out.lt (by have := HG8.out; have := HG10.out; have := HI.out.glt; omega))); clear HI H8 H10; have HI := n1_; have H8 := n3_; have H10 := n4_; clear n1_ n3_ n4_; clear hq1 hq2)
        | (go_at_call 58; refine (rcount_ok w0 _ g b (at_ + 1) e H.out HY.out).mono ?_; rintro xx w3 ⟨v, rfl, hq1, hq2, hq3⟩; rw [HCNT.out] at hq1 hq3; obtain rfl := hq3 _ r2 rfl; obtain ⟨j, hrs, hr⟩ := hq1; have HR2 := Aside0.mk (show r2 = (b.take e).drop j from hr); clear H; have H := Aside0.mk hrs; have n1_ := Aside0.mk (HI.out.step hq2); have n3_ := Aside0.mk (H8.out.kept (hq2.2 g8 H8.out.lt (by have := HG8.out; have := HI.out.glt; omega))); have n4_ := Aside0.mk (H10.out.kept (hq2.2 g10 H10.out.lt (by have := HG8.out; have := HG10.out; have := HI.out.glt; omega))); clear HI H8 H10; have HI := n1_; have H8 := n3_; have H10 := n4_; clear n1_ n3_ n4_; clear hq2 hq3 hrs hr)
        | (go_at_call 58; refine (rcount_ok w0 _ g b (at_ + 1) e H.out HY.out).mono ?_; rintro xx w3 ⟨v, rfl, hq1, hq2, hq3⟩; rw [HCNT.out] at hq1 hq3; obtain ⟨j, hf, hrs⟩ := hq1; have HF := Aside0.mk (show (f.2 == 0) = false by simpa using hf); clear H; have H := Aside0.mk hrs; have n1_ := Aside0.mk (HI.out.step hq2); have n3_ := Aside0.mk (H8.out.kept (hq2.2 g8 H8.out.lt (by have := HG8.out; have := HI.out.glt; omega))); have n4_ := Aside0.mk (H10.out.kept (hq2.2 g10 H10.out.lt (by have := HG8.out; have := HG10.out; have := HI.out.glt; omega))); clear HI H8 H10; have HI := n1_; have H8 := n3_; have H10 := n4_; clear n1_ n3_ n4_; clear hq2 hq3 hrs hf)
        | ((with_reducible refine gate_dst (N := 14) rfl ?_); refine box_event (N := 14) rfl rfl (cs := #[.int .i64 0, .int .i64 0, .int .u64 0, .int .u64 0, .int .u64 0, .int .u64 0, .string (⟨#[]⟩ : ByteArray)]) (t := 78) ?hr2 ?_; (case hr2 => first | (go_simp; done) | (go_simp; rfl)); intro g14 hg14 w1 hbox hb1; have H14 := Aside0.mk (show RowAt w1 g14 78 (insCells zIns) from ⟨_, hbox, rfl⟩); have HG14 := Aside0.mk (show g10 < g14 by have := H10.out.lt; omega); have n3_ := Aside0.mk (H8.out.below hb1); have n4_ := Aside0.mk (H10.out.below hb1); clear H8 H10; have H8 := n3_; have H10 := n4_; clear n3_ n4_; have n1_ := Aside0.mk (HI.out.below hb1); have n2_ := Aside0.mk (H.out.below hb1); clear HI H; have HI := n1_; have H := n2_; clear n1_ n2_; clear hbox hb1 hg14)
        | ((with_reducible refine gate_store (t := 78) (p := 14) rfl ?_); refine put_ins rfl rfl 78 (.tmp 14) (.tmp 35) rfl rfl rfl H14.out (by kernel_rfl) ?_; intro w5 hrow hgr; have n1_ := Aside0.mk (HI.out.new hgr (by have := HG8.out; have := HG10.out; have := HG14.out; omega)); have n2_ := Aside0.mk (H.out.through hgr (fun k hk => by injection hk with hk; have := HG8.out; have := HG10.out; have := HG14.out; have := HI.out.glt; have := H.out.ge; omega)); have n3_ := Aside0.mk (H8.out.grown hgr (by have := HG10.out; have := HG14.out; simp; omega)); have n4_ := Aside0.mk (H10.out.grown hgr (by have := HG14.out; simp; omega)); clear HI H H8 H10 H14; have HI := n1_; have H := n2_; have H8 := n3_; have H10 := n4_; clear n1_ n2_ n3_ n4_; have H14 := Aside0.mk hrow; clear hrow hgr; obtain ⟨q0, q1, q2, q3, q4, q5, q6⟩ := ins_at H14.out)
        | (go_at_call 60; refine (rok_same w0 _ g b _ e _ _ true H.out rfl).mono ?_; rintro xx w8 ⟨rfl, hq1, hq2⟩; clear H q0 q1 q2 q3 q4 q5 q6; have H := Aside0.mk hq1; have n1_ := Aside0.mk (HI.out.step hq2); have n3_ := Aside0.mk (H8.out.kept (hq2.2 g8 H8.out.lt (by have := HG8.out; have := HI.out.glt; omega))); have n4_ := Aside0.mk (H10.out.kept (hq2.2 g10 H10.out.lt (by have := HG8.out; have := HG10.out; have := HI.out.glt; omega))); clear HI H8 H10; have HI := n1_; have H8 := n3_; have H10 := n4_; clear n1_ n3_ n4_; have n5_ := Aside0.mk (H14.out.kept (hq2.2 g14 H14.out.lt (by have := HG14.out; have := HG8.out; have := HG10.out; have := HI.out.glt; omega))); clear H14; have H14 := n5_; clear n5_; clear hq1 hq2; obtain ⟨q0, q1, q2, q3, q4, q5, q6⟩ := ins_at H14.out)
        | (go_at_call 60; refine (rok_same w0 _ g b _ e _ _ false H.out HF.out).mono ?_; rintro xx w8 ⟨rfl, hq1, hq2⟩; clear H q0 q1 q2 q3 q4 q5 q6; have H := Aside0.mk hq1; have n1_ := Aside0.mk (HI.out.step hq2); have n3_ := Aside0.mk (H8.out.kept (hq2.2 g8 H8.out.lt (by have := HG8.out; have := HI.out.glt; omega))); have n4_ := Aside0.mk (H10.out.kept (hq2.2 g10 H10.out.lt (by have := HG8.out; have := HG10.out; have := HI.out.glt; omega))); clear HI H8 H10; have HI := n1_; have H8 := n3_; have H10 := n4_; clear n1_ n3_ n4_; have n5_ := Aside0.mk (H14.out.kept (hq2.2 g14 H14.out.lt (by have := HG14.out; have := HG8.out; have := HG10.out; have := HI.out.glt; omega))); clear H14; have H14 := n5_; clear n5_; clear hq1 hq2; obtain ⟨q0, q1, q2, q3, q4, q5, q6⟩ := ins_at H14.out)
        | ((go_at_call 80; refine (rkind_lit _ _ HKIND.out _).mono ?_; rintro xx w9 ⟨rfl, hb1⟩; have n3_ := Aside0.mk (H8.out.below hb1); have n4_ := Aside0.mk (H10.out.below hb1); have n5_ := Aside0.mk (H14.out.below hb1); clear H8 H10 H14 q0 q1 q2 q3 q4 q5 q6; have H8 := n3_; have H10 := n4_; have H14 := n5_; clear n3_ n4_ n5_; have n1_ := Aside0.mk (HI.out.below hb1); have n2_ := Aside0.mk (H.out.below hb1); clear HI H; have HI := n1_; have H := n2_; clear n1_ n2_; clear hb1; obtain ⟨q0, q1, q2, q3, q4, q5, q6⟩ := ins_at H14.out; have t0 := (H8.out.cell 0).trans (show _ = some (.slice As S.length cs) from rfl); have t1 := (H8.out.cell 1).trans (show _ = some (.slice At T.length ct) from rfl); have s0 := (HI.out.us.cell 0).trans (show _ = some (.int .i64 (kc : Int)) from rfl); have s1 := (HI.out.us.cell 1).trans (show _ = some (.int .i64 (kn : Int)) from rfl)); (first | (obtain ⟨g', cp', he', hcl⟩ := cls_at HI.out.s HYY.out; have he2 : As = some ⟨g', 0, none⟩ := (by injection he'); rw [HE.out] at he2; cases he2; clear he'; have y0 := hcl 0 _ rfl; rw [Nat.add_zero] at y0; have y1 := hcl 1 _ rfl; have y2 := hcl 2 _ rfl; have y3 := hcl 3 _ rfl; clear hcl) | (obtain ⟨g', cp', he', hcl⟩ := str_at HI.out.t HYY.out; have he2 : At = some ⟨g', 0, none⟩ := (by injection he'); rw [HE.out] at he2; cases he2; clear he') | skip))
        | ((with_reducible refine gate_store (t := 3) (p := 60) rfl ?_); refine put_event rfl rfl 3 (.tmp 60) (.tmp 59) rfl (off := 1) (u := .int .i64 t) (seg := [.int .i64 t]) rfl rfl H14.out rfl (by kernel_rfl) (by simp [insCells]) (by simp [Value.oneCell']) ?_; intro w5 hrow hgr; clear q0 q1 q2 q3 q4 q5 q6 t0 t1 s0 s1; have n1_ := Aside0.mk (HI.out.new hgr (by have := HG8.out; have := HG10.out; have := HG14.out; omega)); have n2_ := Aside0.mk (H.out.through hgr (fun k hk => by injection hk with hk; have := HG8.out; have := HG10.out; have := HG14.out; have := HI.out.glt; have := H.out.ge; omega)); have n3_ := Aside0.mk (H8.out.grown hgr (by have := HG10.out; have := HG14.out; simp; omega)); have n4_ := Aside0.mk (H10.out.grown hgr (by have := HG14.out; simp; omega)); clear HI H H8 H10 H14; have HI := n1_; have H := n2_; have H8 := n3_; have H10 := n4_; clear n1_ n2_ n3_ n4_; have H14 := Aside0.mk (show RowAt w5 g14 78 (insCells { zIns with f0 := X % 16, f1 := t }) from hrow); clear hrow hgr; obtain ⟨q0, q1, q2, q3, q4, q5, q6⟩ := ins_at H14.out)
        | ((with_reducible refine gate_store (t := 76) (p := 91) rfl ?_); refine put_event rfl rfl 76 (.tmp 91) (.tmp 90) rfl (off := 2) (u := .agg #[.int .u64 y.1, .int .u64 y.2.1, .int .u64 y.2.2.1, .int .u64 y.2.2.2]) (seg := [.int .u64 y.1, .int .u64 y.2.1, .int .u64 y.2.2.1, .int .u64 y.2.2.2]) rfl rfl H14.out rfl (by kernel_rfl) (by simp [insCells]) (by simp [Value.oneCell']) ?_; intro w5 hrow hgr; clear q0 q1 q2 q3 q4 q5 q6 t0 t1 s0 s1 y0 y1 y2 y3; have n1_ := Aside0.mk (HI.out.new hgr (by have := HG8.out; have := HG10.out; have := HG14.out; omega)); have n2_ := Aside0.mk (H.out.through hgr (fun k hk => by injection hk with hk; have := HG8.out; have := HG10.out; have := HG14.out; have := HI.out.glt; have := H.out.ge; omega)); have n3_ := Aside0.mk (H8.out.grown hgr (by have := HG10.out; have := HG14.out; simp; omega)); have n4_ := Aside0.mk (H10.out.grown hgr (by have := HG14.out; simp; omega)); clear HI H H8 H10 H14; have HI := n1_; have H := n2_; have H8 := n3_; have H10 := n4_; clear n1_ n2_ n3_ n4_; have H14 := Aside0.mk (show RowAt w5 g14 78 (insCells { zIns with f0 := X % 16, f2 := ⟨y.1, y.2.1, y.2.2.1, y.2.2.2⟩ }) from hrow); clear hrow hgr; have s0 := (HI.out.us.cell 0).trans (show _ = some (.int .i64 (kc : Int)) from rfl))
        | ((with_reducible refine gate_store (t := 9) (p := 123) rfl ?_); refine put_event rfl rfl 9 (.tmp 123) (.tmp 122) rfl (off := 6) (u := .string y) (seg := [.string y]) rfl rfl H14.out rfl (by kernel_rfl) (by simp [insCells]) (by simp [Value.oneCell']) ?_; intro w5 hrow hgr; clear q0 q1 q2 q3 q4 q5 q6 t0 t1 s0 s1 hcl; have n1_ := Aside0.mk (HI.out.new hgr (by have := HG8.out; have := HG10.out; have := HG14.out; omega)); have n2_ := Aside0.mk (H.out.through hgr (fun k hk => by injection hk with hk; have := HG8.out; have := HG10.out; have := HG14.out; have := HI.out.glt; have := H.out.ge; omega)); have n3_ := Aside0.mk (H8.out.grown hgr (by have := HG10.out; have := HG14.out; simp; omega)); have n4_ := Aside0.mk (H10.out.grown hgr (by have := HG14.out; simp; omega)); clear HI H H8 H10 H14; have HI := n1_; have H := n2_; have H8 := n3_; have H10 := n4_; clear n1_ n2_ n3_ n4_; have H14 := Aside0.mk (show RowAt w5 g14 78 (insCells { zIns with f0 := X % 16, f3 := y }) from hrow); clear hrow hgr; have s0 := (HI.out.us.cell 1).trans (show _ = some (.int .i64 (kn : Int)) from rfl))
        | (go_at_call 59; refine (wrong_ok w0 _ g b _ e _ _ H.out).mono ?_; rintro xx w8 ⟨rfl, hq1, hq2⟩; clear H q0 q1 q2 q3 q4 q5 q6; have H := Aside0.mk hq1; have n1_ := Aside0.mk (HI.out.step hq2); have n3_ := Aside0.mk (H8.out.kept (hq2.2 g8 H8.out.lt (by have := HG8.out; have := HI.out.glt; omega))); have n4_ := Aside0.mk (H10.out.kept (hq2.2 g10 H10.out.lt (by have := HG8.out; have := HG10.out; have := HI.out.glt; omega))); clear HI H8 H10; have HI := n1_; have H8 := n3_; have H10 := n4_; clear n1_ n3_ n4_; have n5_ := Aside0.mk (H14.out.kept (hq2.2 g14 H14.out.lt (by have := HG14.out; have := HG8.out; have := HG10.out; have := HI.out.glt; omega))); clear H14; have H14 := n5_; clear n5_; clear hq1 hq2; obtain ⟨q0, q1, q2, q3, q4, q5, q6⟩ := ins_at H14.out)
        | ((with_reducible refine gate_store (t := 78) (p := 10) rfl ?_); refine put_ins rfl rfl 78 (.tmp 10) (.tmp 39) rfl rfl rfl H10.out (by kernel_rfl) ?_; intro w7 hrow hgr; have n1_ := Aside0.mk (HI.out.new hgr (by have := HG8.out; have := HG10.out; omega)); have n2_ := Aside0.mk (H.out.through hgr (fun k hk => by injection hk with hk; have := HG8.out; have := HG10.out; have := HI.out.glt; have := H.out.ge; omega)); clear HI H H10; have HI := n1_; have H := n2_; clear n1_ n2_; have H10 := Aside0.mk hrow; clear hrow hgr)
        | ((with_reducible refine gate_store (t := 78) (p := 10) rfl ?_); refine put_ins rfl rfl 78 (.tmp 10) (.tmp 139) rfl rfl rfl H10.out (by kernel_rfl) ?_; intro w7 hrow hgr; have n1_ := Aside0.mk (HI.out.new hgr (by have := HG8.out; have := HG10.out; omega)); have n2_ := Aside0.mk (H.out.through hgr (fun k hk => by injection hk with hk; have := HG8.out; have := HG10.out; have := HI.out.glt; have := H.out.ge; omega)); clear HI H H10; have HI := n1_; have H := n2_; clear n1_ n2_; have H10 := Aside0.mk hrow; clear hrow hgr))
      first
        | (go_still_tail 10, (by kernel_rfl); change wpList _ _ _ _ _ w5.drew; have n1_ := Aside0.mk (HI.out.below (below_drew (Below.refl w5.heap.size w5))); have n2_ := Aside0.mk (H.out.below (below_drew (Below.refl w5.heap.size w5))); have n4_ := Aside0.mk (H10.out.below (below_drew (Below.refl w5.heap.size w5))); have n5_ := Aside0.mk (H14.out.below (below_drew (Below.refl w5.heap.size w5))); clear HI H H8 H10 H14 s0; have HI := n1_; have H := n2_; have H10 := n4_; have H14 := n5_; clear n1_ n2_ n4_ n5_; generalize w5.drew = w6 at *; obtain ⟨q0, q1, q2, q3, q4, q5, q6⟩ := ins_at H14.out; go_wp2_with (first | ((with_reducible refine gate_store (t := 3) (p := 101) rfl ?_); refine put_event rfl rfl 3 (.tmp 101) (.tmp 99) rfl (off := 0) (u := .int .i64 (max (kc : Int) ((nn : Int) + 1))) (seg := [.int .i64 (max (kc : Int) ((nn : Int) + 1))]) rfl rfl HI.out.us rfl (by kernel_rfl) (by simp) (by simp [Value.oneCell']) ?_; intro w7 hrow hgr; rw [HMX.out] at hrow; have n1_ := Aside0.mk (HI.out.used (kc' := max kc (nn + 1)) (kn' := kn) hrow hgr); have n2_ := Aside0.mk (H.out.through hgr (fun k hk => by injection hk with hk; have h1 := HI.out.gne; have h2 := HGUW.out; omega)); have n4_ := Aside0.mk (H10.out.grown hgr (by have := HG8.out; have := HG10.out; have := HI.out.gult; simp; omega)); have n5_ := Aside0.mk (H14.out.grown hgr (by have := HG8.out; have := HG10.out; have := HG14.out; have := HI.out.gult; simp; omega)); clear HI H H10 H14 hrow hgr q0 q1 q2 q3 q4 q5 q6; have HI := n1_; have H := n2_; have H10 := n4_; have H14 := n5_; clear n1_ n2_ n4_ n5_; obtain ⟨q0, q1, q2, q3, q4, q5, q6⟩ := ins_at H14.out) | ((with_reducible refine gate_store (t := 3) (p := 133) rfl ?_); refine put_event rfl rfl 3 (.tmp 133) (.tmp 131) rfl (off := 1) (u := .int .i64 (max (kn : Int) ((nn : Int) + 1))) (seg := [.int .i64 (max (kn : Int) ((nn : Int) + 1))]) rfl rfl HI.out.us rfl (by kernel_rfl) (by simp) (by simp [Value.oneCell']) ?_; intro w7 hrow hgr; rw [HMX.out] at hrow; have n1_ := Aside0.mk (HI.out.used (kc' := kc) (kn' := max kn (nn + 1)) hrow hgr); have n2_ := Aside0.mk (H.out.through hgr (fun k hk => by injection hk with hk; have h1 := HI.out.gne; have h2 := HGUW.out; omega)); have n4_ := Aside0.mk (H10.out.grown hgr (by have := HG8.out; have := HG10.out; have := HI.out.gult; simp; omega)); have n5_ := Aside0.mk (H14.out.grown hgr (by have := HG8.out; have := HG10.out; have := HG14.out; have := HI.out.gult; simp; omega)); clear HI H H10 H14 hrow hgr q0 q1 q2 q3 q4 q5 q6; have HI := n1_; have H := n2_; have H10 := n4_; have H14 := n5_; clear n1_ n2_ n4_ n5_; obtain ⟨q0, q1, q2, q3, q4, q5, q6⟩ := ins_at H14.out) | ((with_reducible refine gate_store (t := 78) (p := 10) rfl ?_); refine put_ins rfl rfl 78 (.tmp 10) (.tmp 139) rfl rfl rfl H10.out (by kernel_rfl) ?_; intro w7 hrow hgr; have n1_ := Aside0.mk (HI.out.new hgr (by have := HG8.out; have := HG10.out; omega)); have n2_ := Aside0.mk (H.out.through hgr (fun k hk => by injection hk with hk; have := HG8.out; have := HG10.out; have := HI.out.glt; have := H.out.ge; omega)); clear HI H H10; have HI := n1_; have H := n2_; clear n1_ n2_; have H10 := Aside0.mk hrow; clear hrow hgr)))
        | skip
      refine bodyPost_ret (results_cell_row rfl _ _ g10 78 (insCells _).toArray (0, 0) _ rfl (by obtain ⟨cur, h1, h2⟩ := H10.out; rw [h1, ← h2]) Try.underlying78 rfl (by kernel_rfl)) rfl ?_
      rw [← HRES.out]
      first
        | exact ⟨_, kc, kn, rfl, HI.out, ⟨_, H.out, HR2.out⟩, fun z r h => by injection h with h; injection h with h1 h2; exact h1.symm⟩
        | exact ⟨_, kc, kn, rfl, HI.out, ⟨at_ + 1, H.out, rfl⟩, fun z r h => by injection h with h; injection h with h1 h2; exact h1.symm⟩
        | exact ⟨_, (max kc (nn + 1)), kn, rfl, HI.out, ⟨_, H.out, HR2.out⟩, fun z r h => by injection h with h; injection h with h1 h2; exact h1.symm⟩
        | exact ⟨_, (max kc (nn + 1)), kn, rfl, HI.out, ⟨at_ + 1, H.out, rfl⟩, fun z r h => by injection h with h; injection h with h1 h2; exact h1.symm⟩
        | exact ⟨_, kc, (max kn (nn + 1)), rfl, HI.out, ⟨_, H.out, HR2.out⟩, fun z r h => by injection h with h; injection h with h1 h2; exact h1.symm⟩
        | exact ⟨_, kc, (max kn (nn + 1)), rfl, HI.out, ⟨at_ + 1, H.out, rfl⟩, fun z r h => by injection h with h; injection h with h1 h2; exact h1.symm⟩
        | exact ⟨_, _, _, rfl, HI.out, ⟨_, by simpa using HF.out, H.out⟩, fun _ _ h => by cases h⟩
        | exact ⟨_, _, _, rfl, HI.out, ⟨_, by simp, H.out⟩, fun _ _ h => by cases h⟩
end
end Go.Proofs.Ytebiogaacikphaa.Pack
end
