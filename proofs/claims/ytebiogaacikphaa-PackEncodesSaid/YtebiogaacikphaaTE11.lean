/- Parts of the proof of packEncodes: PackSum, Region, PackFramed, EncodeSpec, Gather, RightOk. No condition beyond each lemma's own. -/
import Derived.BigQuiet
import Derived.Deep.QuietTactic
import Derived.Deep.RegionHeld3
import Derived.IntWalk
import Derived.Outline
import Derived.StillTailTactics
import Derived.WalkKit
import Derived.Test.YtebiogaacikphaaTE2
import Derived.Test.YtebiogaacikphaaTE3
import Derived.Test.YtebiogaacikphaaTE6
import Derived.Test.YtebiogaacikphaaTE9
import Derived.Test.YtebiogaacikphaaTE10
section
namespace Go.Proofs.Ytebiogaacikphaa.Pack
open Go.RowKit Go.Proofs.YtebiogaacikphaaW.PrintWords Go.Proofs.Ytebiogaacikphaa.PAll
set_option linter.unusedVariables false
set_option linter.unusedSimpArgs false
def crcBit (s : Int) : Int := if Go.bits .and .u32 s 1 = 1 then Go.bits .xor .u32 (s / 2) 3988292384 else s / 2
def crcN : Nat → Int → Int
  | 0, s => s
  | n + 1, s => crcN n (crcBit s)
def crcRaw (s : Int) (l : List Int) : Int := l.foldl (fun s x => crcN 8 (Go.bits .xor .u32 s (x % 4294967296))) s
/-- The sum of bytes. -/
def crcL (l : List Int) : Int := Go.bits .xor .u32 4294967295 (crcRaw 4294967295 l)
theorem rd_nat (l : List Int) (i : Nat) (h : i < l.length) : rd l (i : Int) = l[i] := by
  unfold rd
  rw [Int.toNat_natCast, List.getD_eq_getElem?_getD, List.getElem?_eq_getElem h, Option.getD_some]
theorem sum_in (l : List Int) (s : Int) (i : Nat) (R : Int) : ∀ d j : Nat, j + d = 8 → ∀ s, Ev (fun k => pack_sum.l0 k (crcN d s) l (l.length : Int) (wrap64 ((i : Int) + 1))) R → Ev (fun k => pack_sum.l1 k s l (l.length : Int) (i : Int) (j : Int)) R
  | 0, j, h, s, hr => by
    refine Ev.step (fun _ => by rw [pack_sum.l1]) ?_
    exact Ev.neg (by omega) hr
  | d + 1, j, h, s, hr => by
    have ih := sum_in l s i R d (j + 1) (by omega)
    refine Ev.step (fun _ => by rw [pack_sum.l1]) ?_
    refine Ev.pos (by omega) ?_
    have hw : wrap64 ((j : Int) + 1) = ((j + 1 : Nat) : Int) := by rw [w64] <;> omega
    rw [hw]
    rw [crcN] at hr
    refine Ev.ite (fun h1 => ih _ ?_) (fun h1 => ih _ ?_)
    · rw [crcBit, if_pos h1] at hr; exact hr
    · rw [crcBit, if_neg h1] at hr; exact hr
theorem sum_out (l : List Int) (hl : l.length ≤ 140737488351232) : ∀ d i : Nat, i + d = l.length → ∀ s, Ev (fun k => pack_sum.l0 k s l (l.length : Int) (i : Int)) (Go.bits .xor .u32 4294967295 (crcRaw s (l.drop i)))
  | 0, i, h, s => by
    refine Ev.step (fun _ => by rw [pack_sum.l0]) ?_
    refine Ev.neg (by omega) (Ev.some_ ?_)
    rw [List.drop_of_length_le (by omega)]
    rfl
  | d + 1, i, h, s => by
    have ih := sum_out l hl d (i + 1) (by omega)
    refine Ev.step (fun _ => by rw [pack_sum.l0]) ?_
    refine Ev.pos (by omega) (Ev.pos (by omega) (Ev.pos (by omega) ?_))
    rw [rd_nat l i (by omega)]
    refine sum_in l s i _ 8 0 rfl _ ?_
    have hw : wrap64 ((i : Int) + 1) = ((i + 1 : Nat) : Int) := by rw [w64] <;> omega
    rw [hw]
    refine (ih _).to ?_
    rw [List.drop_eq_getElem_cons (show i < l.length by omega)]
    rfl
theorem sum_ev (l : List Int) (hl : l.length ≤ 140737488351232) : Ev (fun k => pack_sum.f k l) (crcL l) := by
  unfold pack_sum.f
  exact (sum_out l hl l.length 0 (by omega) _).to rfl
theorem refsum_in (l : List Int) (s : Int) (i : Nat) (R : Int) : ∀ d j : Nat, j + d = 8 → ∀ s, Ev (fun k => dowelref20_Sum.l0 k l (crcN d s) (wrap64 ((i : Int) + 1))) R → Ev (fun k => dowelref20_Sum.l1 k l s (i : Int) (j : Int)) R
  | 0, j, h, s, hr => by
    refine Ev.step (fun _ => by rw [dowelref20_Sum.l1]) ?_
    exact Ev.neg (by omega) hr
  | d + 1, j, h, s, hr => by
    have ih := refsum_in l s i R d (j + 1) (by omega)
    refine Ev.step (fun _ => by rw [dowelref20_Sum.l1]) ?_
    refine Ev.pos (by omega) ?_
    have hw : wrap64 ((j : Int) + 1) = ((j + 1 : Nat) : Int) := by rw [w64] <;> omega
    rw [hw]
    rw [crcN] at hr
    refine Ev.ite (fun h1 => ih _ ?_) (fun h1 => ih _ ?_)
    · rw [crcBit, if_pos h1] at hr; exact hr
    · rw [crcBit, if_neg h1] at hr; exact hr
theorem refsum_out (l : List Int) (hl : l.length ≤ 140737488351232) : ∀ d i : Nat, i + d = l.length → ∀ s, Ev (fun k => dowelref20_Sum.l0 k l s (i : Int)) (Go.bits .xor .u32 4294967295 (crcRaw s (l.drop i)))
  | 0, i, h, s => by
    refine Ev.step (fun _ => by rw [dowelref20_Sum.l0]) ?_
    refine Ev.neg (by omega) (Ev.some_ ?_)
    rw [List.drop_of_length_le (by omega)]
    rfl
  | d + 1, i, h, s => by
    have ih := refsum_out l hl d (i + 1) (by omega)
    refine Ev.step (fun _ => by rw [dowelref20_Sum.l0]) ?_
    refine Ev.pos (by omega) (Ev.pos (by omega) ?_)
    rw [rd_nat l i (by omega)]
    refine refsum_in l s i _ 8 0 rfl _ ?_
    have hw : wrap64 ((i : Int) + 1) = ((i + 1 : Nat) : Int) := by rw [w64] <;> omega
    rw [hw]
    refine (ih _).to ?_
    rw [List.drop_eq_getElem_cons (show i < l.length by omega)]
    rfl
theorem refsum_ev (l : List Int) (hl : l.length ≤ 140737488351232) : Ev (fun k => dowelref20_Sum.f k l) (crcL l) := by
  unfold dowelref20_Sum.f
  exact (refsum_out l hl l.length 0 (by omega) _).to rfl
theorem sum_lit (A : Option Addr) (c : Nat) (l : List Int) (w : World) (hr : Kd.C (Kd.int .u8) w A l.length l) (hc : l.length ≤ c) (hl : l.length ≤ 140737488351232) :
    Calls Try.prog 76 #[.slice A l.length c] w fun e w' => e = .returned (.int .u32 (crcL l)) ∧ Drawn0 w w' := by
  obtain ⟨k, hk⟩ := sum_ev l hl
  exact pack_sum.calls k A c l _ w hr hc (hk k (Nat.le_refl _))
theorem refsum_lit (A : Option Addr) (c : Nat) (l : List Int) (w : World) (hr : Kd.C (Kd.int .u8) w A l.length l) (hc : l.length ≤ c) (hl : l.length ≤ 140737488351232) :
    Calls Try.prog 29 #[.slice A l.length c] w fun e w' => e = .returned (.int .u32 (crcL l)) ∧ Drawn0 w w' := by
  obtain ⟨k, hk⟩ := refsum_ev l hl
  exact dowelref20_Sum.calls k A c l _ w hr hc (hk k (Nat.le_refl _))
/-- So many bytes of a number, the lowest first. -/
def leN : Nat → Int → List Int
  | 0, _ => []
  | n + 1, s => s % 256 :: leN n (s / 256)
theorem leN_length : ∀ n s, (leN n s).length = n
  | 0, _ => rfl
  | n + 1, s => by rw [leN, List.length_cons, leN_length n]
theorem fixed_in (m : Nat) (hm : m ≤ 8) (l : List Int) (i : Nat) (R : List Int) : ∀ (d j : Nat) (x0 : List Int) (s : Int), j + d = m → x0.length + d ≤ 140737488355328 →
    Ev (fun k => pack_fixed.l0 k (x0 ++ leN d s) (m : Int) l (l.length : Int) (wrap64 ((i : Int) + 1))) R → Ev (fun k => pack_fixed.l1 k x0 (m : Int) s l (l.length : Int) (i : Int) (m : Int) (j : Int)) R
  | 0, j, x0, s, h, hx, hr => by
    refine Ev.step (fun _ => by rw [pack_fixed.l1]) ?_
    rw [leN, List.append_nil] at hr
    exact Ev.neg (by omega) hr
  | d + 1, j, x0, s, h, hx, hr => by
    have ih := fixed_in m hm l i R d (j + 1) (x0 ++ [s % 256]) (s / 256) (by omega) (by simp; omega)
    refine Ev.step (fun _ => by rw [pack_fixed.l1]) ?_
    refine Ev.pos (by omega) (Ev.pos (by omega) ?_)
    have hw : wrap64 ((j : Int) + 1) = ((j + 1 : Nat) : Int) := by rw [w64] <;> omega
    rw [hw]
    refine ih ?_
    rw [leN] at hr
    simpa using hr
theorem fixed_out (m : Nat) (hm : m ≤ 8) (l : List Int) (hl : l.length ≤ 4) : ∀ (d i : Nat) (x0 : List Int), i + d = l.length → x0.length + 8 * d ≤ 140737488355328 →
    Ev (fun k => pack_fixed.l0 k x0 (m : Int) l (l.length : Int) (i : Int)) (x0 ++ (l.drop i).flatMap (leN m))
  | 0, i, x0, h, hx => by
    refine Ev.step (fun _ => by rw [pack_fixed.l0]) ?_
    refine Ev.neg (by omega) (Ev.some_ ?_)
    rw [List.drop_of_length_le (by omega)]
    simp
  | d + 1, i, x0, h, hx => by
    have ih := fixed_out m hm l hl d (i + 1) (x0 ++ leN m l[i]) (by omega) (by simp [leN_length]; omega)
    refine Ev.step (fun _ => by rw [pack_fixed.l0]) ?_
    refine Ev.pos (by omega) (Ev.pos (by omega) (Ev.pos (by omega) ?_))
    rw [rd_nat l i (by omega)]
    refine fixed_in m hm l i _ m 0 x0 _ (by omega) (by omega) ?_
    have hw : wrap64 ((i : Int) + 1) = ((i + 1 : Nat) : Int) := by rw [w64] <;> omega
    rw [hw]
    refine ih.to ?_
    rw [List.drop_eq_getElem_cons (show i < l.length by omega), List.flatMap_cons, List.append_assoc]
theorem fixed_ev (l0 : List Int) (m : Nat) (hm : m ≤ 8) (l : List Int) (hl : l.length ≤ 4) (h0 : l0.length ≤ 140737488351232) : Ev (fun k => pack_fixed.f k l0 (m : Int) l) (l0 ++ l.flatMap (leN m)) := by
  unfold pack_fixed.f
  exact (fixed_out m hm l hl l.length 0 l0 (by omega) (by omega)).to (by rw [List.drop_zero])
theorem bits_u32 (op : BinOp) (x y : Int) : 0 ≤ Go.bits op .u32 x y ∧ Go.bits op .u32 x y < 4294967296 := by
  have h : ∀ z : Int, 0 ≤ IntKind.u32.wrap z ∧ IntKind.u32.wrap z < 4294967296 := by
    intro z
    rw [IntKind.wrap_u32]
    omega
  unfold Go.bits
  exact h _
theorem crc_range (l : List Int) : 0 ≤ crcL l ∧ crcL l < 4294967296 := bits_u32 _ _ _
end Go.Proofs.Ytebiogaacikphaa.Pack
end
section
namespace Go.Proofs.YtebiogaacikphaaW.PrintWords
open Go.RowKit
section
variable {P : Program} {ops : Array Oper} {o : Oper} {a : Act} {Q : Exit → Act → World → Prop} {Kc : Act → World → Prop}
theorem rstep_call {w w1 : World} {f : FuncId} {args : Array Value} {R : Ending → World → Prop} (hw : Region.wanted o (yielded ops a.tmps) = true) (hr : (execOp a.eval o).run P w = .ok (.enter f args) w1) (hc : Calls P f args w1 R) (h : ∀ e w', R e w' → ∃ v, e = .returned v ∧ Kc (a.put o.dst v) w') :
    if Region.wanted o (yielded ops a.tmps) = true then Oper.wp P o a w Kc Q else Kc (a.put o.dst undef) w := by
  rw [if_pos hw]
  unfold Oper.wp
  rw [hr]
  refine hc.mono (fun e w' hR => ?_)
  obtain ⟨v, rfl, hk⟩ := h e w' hR
  exact hk
theorem rstep_store {W : World} (hw : Region.wanted o (yielded ops a.tmps) = true) (t : TypeId) (p x : Operand) (ho : o.op = .store t p x) {g off : Nat} {u : Value} {e : TypeId} {cs seg : List Value} (hp : a.eval p = .pointer (some ⟨g, off, none⟩)) (hx : a.eval x = u)
    (hb : RowAt W g e cs) (hu : u.cells.toList = seg) (hi : (P.info? t).map (·.size) = some seg.length) (hfit : off + seg.length ≤ cs.length) (hone : ∀ q ∈ seg, q.oneCell' = true)
    (h : ∀ w1, RowAt w1 g e (cs.take off ++ seg ++ cs.drop (off + seg.length)) → W.grownBy w1 (some g) → Kc (a.put o.dst undef) w1) :
    if Region.wanted o (yielded ops a.tmps) = true then Oper.wp P o a W Kc Q else Kc (a.put o.dst undef) W := by
  obtain ⟨cur, hh, rfl⟩ := hb
  have hrun := run_store_run (P := P) (w := W) (g := g) (o := off) (e := e) (cur := cur) t u seg hh hu hi (by simpa using hfit) hone
  obtain ⟨cur', h1, h2, h3⟩ := setCells_row seg off W cur hh (by simpa using hfit)
  obtain ⟨s1, s2, s3, s4⟩ := setCells_same g seg off W
  rw [if_pos hw]
  unfold Oper.wp execOp
  simp only [ho, hp, hx]
  simp only [Sem.run_bind, hrun, Result.andThen_ok]
  have := h _ ⟨cur', h1, h3⟩ ⟨s1, s2, s3, by rw [s4]; exact Nat.le_refl _, fun i _ hne => setCells_far _ off i (fun e => hne (by rw [e]))⟩
  simpa [Oper.upon] using this
end
/-- A row of numbers that is a block's head. -/
theorem C_row {W : World} {g : Nat} {t : TypeId} {k : IntKind} {xs : List Int} {cs : List Value} (h : RowAt W g t (xs.map (Value.int k) ++ cs)) (hl : xs.length ≤ 9223372036854775807) : Kd.C (Kd.int k) W (some ⟨g, 0, none⟩) xs.length xs := by
  refine Kd.C_of_reads (d := (0 : Int)) (enc := Value.int k) (h1 := fun _ => rfl) ⟨rfl, hl, fun _ => ⟨_, rfl, fun j hj => ?_⟩⟩
  rw [add_plain, h.cell j, List.getElem?_append_left (by simpa using hj), List.getElem?_map, List.getElem?_eq_getElem hj, List.getD_eq_getElem?_getD, List.getElem?_eq_getElem hj]
  rfl
theorem C_row' {W : World} {g : Nat} {t : TypeId} {k : IntKind} {xs : List Int} (h : RowAt W g t (xs.map (Value.int k))) (hl : xs.length ≤ 9223372036854775807) : Kd.C (Kd.int k) W (some ⟨g, 0, none⟩) xs.length xs :=
  C_row (cs := []) (by rw [List.append_nil]; exact h) hl
theorem RowAt.kept_ {W W' : World} {g : Nat} {e : TypeId} {cs : List Value} (h : RowAt W g e cs) {S : Nat → Prop} (hk : Kept W W' S) (hs : ¬ S g) : RowAt W' g e cs := h.kept (hk.2 g h.lt hs)
end Go.Proofs.YtebiogaacikphaaW.PrintWords
end
section
namespace Go.Proofs.Ytebiogaacikphaa.Pack
open Go.RowKit Go.Proofs.YtebiogaacikphaaW.PrintWords Go.Proofs.Ytebiogaacikphaa.PAll
set_option linter.unusedVariables false
set_option linter.unusedSimpArgs false
def magicL : List Int := [100, 111, 119, 108, 1]
end Go.Proofs.Ytebiogaacikphaa.Pack
end
section
namespace Go.Proofs.Ytebiogaacikphaa.Pack
open Go.RowKit Go.Proofs.YtebiogaacikphaaW.PrintWords Go.Proofs.Ytebiogaacikphaa.PAll Go.Proofs.Ytebiogaacikphaa.Names
set_option linter.unusedVariables false
/-- A count's bytes. -/
def cntE (n : Nat) : List Int := if h : n < 128 then [(n : Int)] else (((n % 128 : Nat) : Int) + 128) :: cntE (n / 128)
  termination_by n
  decreasing_by omega
theorem cnt_back (e fr : Nat) (r : List Int) : ∀ (m n : Nat), n ≤ m → ∀ (k : Nat) (a : Int), 0 ≤ a → (k = 0 ∨ 0 < n) → k ≤ 4 → a + (n : Int) * 128 ^ k ≤ 2147483647 → cntL e fr k a (cntE n ++ r) = .ok (a + (n : Int) * 128 ^ k, r) := by
  intro m
  induction m with
  | zero =>
    intro n hn k a ha hk h4 hle
    obtain rfl : n = 0 := by omega
    obtain rfl : k = 0 := by omega
    rw [cntE, dif_pos (by omega)]
    simp [cntL]
    omega
  | succ m ih =>
    intro n hn k a ha hk h4 hle
    by_cases c : n < 128
    · have hm : ((n : Int) % 128) = (n : Int) := by omega
      have h5 : k < 5 := by omega
      rw [cntE, dif_pos c, List.singleton_append, cntL, if_neg (by omega)]
      simp only [hm, if_pos h5]
      rw [if_neg (by rintro (h | ⟨h1, h2⟩ | h) <;> omega)]
    · have e1 : (((n % 128 : Nat) : Int) + 128) % 128 = ((n % 128 : Nat) : Int) := by omega
      have hstep : a + ((n % 128 : Nat) : Int) * 128 ^ k + ((n / 128 : Nat) : Int) * 128 ^ (k + 1) = a + (n : Int) * 128 ^ k := by
        have e2 : (n : Int) = ((n % 128 : Nat) : Int) + 128 * ((n / 128 : Nat) : Int) := by omega
        rw [Int.pow_succ, ← Int.mul_assoc, show ((n / 128 : Nat) : Int) * 128 ^ k * 128 = 128 * ((n / 128 : Nat) : Int) * 128 ^ k by rw [Int.mul_right_comm, Int.mul_comm _ 128], Int.add_assoc, ← Int.add_mul, ← e2]
      have hk3 : k + 1 ≤ 4 := by
        obtain rfl | rfl | rfl | rfl | rfl : k = 0 ∨ k = 1 ∨ k = 2 ∨ k = 3 ∨ k = 4 := by omega
        all_goals omega
      have hp : (0 : Int) ≤ 128 ^ k := Int.pow_nonneg (by decide)
      have h0 : 0 ≤ ((n % 128 : Nat) : Int) * 128 ^ k := Int.mul_nonneg (by omega) hp
      have := ih (n / 128) (by omega) (k + 1) (a + ((n % 128 : Nat) : Int) * 128 ^ k) (by omega) (.inr (by omega)) hk3 (by rw [hstep]; exact hle)
      rw [cntE, dif_neg c, List.cons_append, cntL, if_pos (by omega), if_pos (by omega), e1, this, hstep]
theorem cntE_back (e fr n : Nat) (r : List Int) (h : n ≤ 2147483647) : cntL e fr 0 0 (cntE n ++ r) = .ok ((n : Int), r) := by
  have := cnt_back e fr r n n (Nat.le_refl _) 0 0 (by omega) (.inl rfl) (by omega) (by omega)
  simpa using this
/-- A class of four words that may be. -/
def FourOk (c : Four) : Prop := (0 ≤ c.1 ∧ c.1 < 18446744073709551616) ∧ (0 ≤ c.2.1 ∧ c.2.1 < 18446744073709551616) ∧ (0 ≤ c.2.2.1 ∧ c.2.2.1 < 18446744073709551616) ∧ (0 ≤ c.2.2.2 ∧ c.2.2.2 < 18446744073709551616)
/-- A class's bytes. -/
def clsE (c : Four) : List Int := leN 8 c.1 ++ (leN 8 c.2.1 ++ (leN 8 c.2.2.1 ++ leN 8 c.2.2.2))
theorem clsE_length (c : Four) : (clsE c).length = 32 := by simp [clsE, leN_length]
/-- A name's bytes as numbers. -/
def numsOf (s : ByteArray) : List Int := s.data.toList.map fun b => (b.toNat : Int)
theorem numsOf_length (s : ByteArray) : (numsOf s).length = s.size := by rw [numsOf, List.length_map, Array.length_toList]; rfl
/-- A name's bytes. -/
def nameE (s : ByteArray) : List Int := cntE s.size ++ numsOf s
theorem okName_size {s : ByteArray} (h : okName s = true) : 0 < s.size ∧ s.size ≤ 64 := by
  have h2 : isName s.data.toList = true := by rw [okName, Bool.and_eq_true] at h; exact h.2
  rw [isName, Bool.and_eq_true, Bool.and_eq_true, decide_eq_true_eq, decide_eq_true_eq] at h2
  have hl : s.data.toList.length = s.size := Array.length_toList
  have := List.length_pos_iff.2 h2.1.1
  omega
/-- An instruction's bytes: its kind, and its operand's number. -/
def insE (op : Int) (n : Nat) : List Int := if n < 15 then [op + (n : Int) * 16] else (op + 240) :: cntE (n - 15)
theorem ins_head (op : Int) (n : Nat) (h : 0 ≤ op ∧ op ≤ 15) : ∃ x l, insE op n = x :: l ∧ x % 16 = op ∧ 0 ≤ x ∧ x < 256 := by
  unfold insE
  split
  · exact ⟨_, _, rfl, by omega, by omega, by omega⟩
  · exact ⟨_, _, rfl, by omega, by omega, by omega⟩
theorem num_back (e : Nat) (op : Int) (n : Nat) (r : List Int) (h : 0 ≤ op ∧ op ≤ 15) (hn : n ≤ 2147483647) : ∃ x l, insE op n = x :: l ∧ x % 16 = op ∧ numL e x (l ++ r) = .ok (n, r) := by
  unfold insE
  split
  · refine ⟨_, _, rfl, by omega, ?_⟩
    rw [numL, if_neg (by omega), List.nil_append, show ((op + (n : Int) * 16) / 16).toNat = n by omega]
  · refine ⟨_, _, rfl, by omega, ?_⟩
    rw [numL, if_pos (by omega), cntE_back e _ (n - 15) r (by omega)]
    dsimp only
    rw [show 15 + ((n - 15 : Nat) : Int).toNat = n by omega]
/-- A place's number: how far it lies from here. -/
def farN (i : Nat) (t : Int) : Nat := if t - (i : Int) < 0 then (-2 * (t - (i : Int)) - 1).toNat else (2 * (t - (i : Int))).toNat
theorem far_back (i : Nat) (t : Int) : toOf i (farN i t) = t := by
  unfold farN
  split
  · rw [toOf, if_pos (by omega)]; omega
  · rw [toOf, if_neg (by omega)]; omega
theorem place_back {op : Int} (hk : kindOf op = 1) (i size kc kn : Nat) (S : List Four) (T : List ByteArray) (t : Int) (h : 0 ≤ t ∧ t < size) : putL op i (farN i t) size kc kn S T = some ({ zIns with f0 := op, f1 := t }, kc, kn) := by
  rw [putL, if_pos hk, far_back, if_pos h]
theorem class_back {op : Int} (hk : kindOf op = 2) (i n size kc kn : Nat) (S : List Four) (T : List ByteArray) (c : Four) (hn : n ≤ kc) (hc : S[n]? = some c) : putL op i n size kc kn S T = some ({ zIns with f0 := op, f2 := ⟨c.1, c.2.1, c.2.2.1, c.2.2.2⟩ }, max kc (n + 1), kn) := by
  rw [putL, if_neg (by omega), if_pos hk, if_pos hn, hc]
theorem name_back {op : Int} (hk : kindOf op = 3) (i n size kc kn : Nat) (S : List Four) (T : List ByteArray) (s : ByteArray) (hn : n ≤ kn) (hs : T[n]? = some s) : putL op i n size kc kn S T = some ({ zIns with f0 := op, f3 := s }, kc, max kn (n + 1)) := by
  rw [putL, if_neg (by omega), if_neg (by omega), if_pos hk, if_pos hn, hs]
theorem none_back {op : Int} (hk : kindOf op = 0) (i size kc kn : Nat) (S : List Four) (T : List ByteArray) : putL op i 0 size kc kn S T = some ({ zIns with f0 := op }, kc, kn) := by
  rw [putL, if_neg (by omega), if_neg (by omega), if_neg (by omega), if_pos rfl]
end Go.Proofs.Ytebiogaacikphaa.Pack
end
section
namespace Go.Proofs.Ytebiogaacikphaa.Pack
open Go.RowKit Go.Proofs.YtebiogaacikphaaW.PrintWords Go.Proofs.Ytebiogaacikphaa.PAll Go.Proofs.Ytebiogaacikphaa.Names
set_option linter.unusedVariables false
section
variable {α : Type} [DecidableEq α]
/-- One more, if it isn't there. -/
def once (S : List α) (x : α) : List α := if x ∈ S then S else S ++ [x]
theorem once_prefix (S : List α) (x : α) : S <+: once S x := by
  unfold once
  split
  · exact List.prefix_rfl
  · exact List.prefix_append _ _
theorem once_nodup {S : List α} (h : S.Nodup) (x : α) : (once S x).Nodup := by
  unfold once
  split
  · exact h
  · rename_i hx
    exact List.nodup_append.2 ⟨h, by simp, fun a ha b hb => by
      rw [List.mem_singleton] at hb
      subst hb
      intro e
      exact hx (e ▸ ha)⟩
theorem once_mem (S : List α) (x : α) : x ∈ once S x := by
  unfold once
  split
  · assumption
  · simp
/-- Where it stands. -/
def placeOf (L : List α) (x : α) : Nat := L.idxOf x
/-- Where it stands in all, and how many there are behind it. -/
theorem once_idx {S L : List α} (h : S.Nodup) (x : α) (hp : once S x <+: L) : placeOf L x ≤ S.length ∧ L[placeOf L x]? = some x ∧ max S.length (placeOf L x + 1) = (once S x).length := by
  unfold placeOf
  obtain ⟨R, rfl⟩ := hp
  have hm := once_mem S x
  have hi : (once S x ++ R).idxOf x = (once S x).idxOf x := by rw [List.idxOf_append, if_pos hm]
  have hlt := List.idxOf_lt_length_of_mem hm
  have hget : (once S x ++ R)[(once S x).idxOf x]? = some x := by
    rw [List.getElem?_append_left hlt, List.getElem?_eq_getElem hlt, List.getElem_idxOf]
  rw [hi]
  refine ⟨?_, hget, ?_⟩
  · unfold once at *
    split
    · rename_i hx
      have := List.idxOf_lt_length_of_mem hx
      omega
    · rename_i hx
      rw [if_neg hx] at hlt
      rw [List.length_append, List.length_singleton] at hlt
      omega
  · unfold once at *
    split
    · rename_i hx
      have := List.idxOf_lt_length_of_mem hx
      omega
    · rename_i hx
      rw [List.idxOf_append, if_neg hx, List.length_append, List.length_singleton]
      simp
end
def clsI (x : Ins) : Four := (x.f2.f0, x.f2.f1, x.f2.f2, x.f2.f3)
def addC (S : List Four) (x : Ins) : List Four := if kindOf x.f0 = 2 then once S (clsI x) else S
def addN (T : List ByteArray) (x : Ins) : List ByteArray := if kindOf x.f0 = 3 then once T x.f3 else T
theorem addC_prefix (S : List Four) (x : Ins) : S <+: addC S x := by
  unfold addC
  split
  · exact once_prefix S _
  · exact List.prefix_rfl
theorem addN_prefix (S : List ByteArray) (x : Ins) : S <+: addN S x := by
  unfold addN
  split
  · exact once_prefix S _
  · exact List.prefix_rfl
theorem foldC_prefix : ∀ (l : List Ins) (S : List Four), S <+: l.foldl addC S
  | [], S => List.prefix_rfl
  | x :: l, S => (addC_prefix S x).trans (foldC_prefix l _)
theorem foldN_prefix : ∀ (l : List Ins) (S : List ByteArray), S <+: l.foldl addN S
  | [], S => List.prefix_rfl
  | x :: l, S => (addN_prefix S x).trans (foldN_prefix l _)
theorem addC_nodup {S : List Four} (h : S.Nodup) (x : Ins) : (addC S x).Nodup := by
  unfold addC
  split
  · exact once_nodup h _
  · exact h
theorem addN_nodup {S : List ByteArray} (h : S.Nodup) (x : Ins) : (addN S x).Nodup := by
  unfold addN
  split
  · exact once_nodup h _
  · exact h
/-- An instruction of a program of so many, as it may be. -/
structure InsOk (size : Nat) (x : Ins) : Prop where
  op : 0 ≤ x.f0 ∧ x.f0 ≤ 15
  k0 : kindOf x.f0 = 0 → x = { zIns with f0 := x.f0 }
  k1 : kindOf x.f0 = 1 → x = { zIns with f0 := x.f0, f1 := x.f1 } ∧ 0 ≤ x.f1 ∧ x.f1 < size
  k2 : kindOf x.f0 = 2 → x = { zIns with f0 := x.f0, f2 := x.f2 }
  k3 : kindOf x.f0 = 3 → x = { zIns with f0 := x.f0, f3 := x.f3 }
def operN (i : Nat) (x : Ins) (S : List Four) (T : List ByteArray) : Nat := if kindOf x.f0 = 1 then farN i x.f1 else if kindOf x.f0 = 2 then placeOf S (clsI x) else if kindOf x.f0 = 3 then placeOf T x.f3 else 0
theorem kind4 (a : Int) : kindOf a = 0 ∨ kindOf a = 1 ∨ kindOf a = 2 ∨ kindOf a = 3 := by
  unfold kindOf
  split
  · exact .inr (.inl rfl)
  · split
    · exact .inr (.inr (.inl rfl))
    · split
      · exact .inr (.inr (.inr rfl))
      · exact .inl rfl
theorem oper_back {size i : Nat} {x : Ins} {S C : List Four} {T N : List ByteArray} (h : InsOk size x) (hC : C.Nodup) (hN : N.Nodup) (hS : addC C x <+: S) (hT : addN N x <+: T) :
    putL x.f0 i (operN i x S T) size C.length N.length S T = some (x, (addC C x).length, (addN N x).length) := by
  rcases kind4 x.f0 with k | k | k | k
  · rw [operN, if_neg (by omega), if_neg (by omega), if_neg (by omega), none_back k, addC, if_neg (by omega), addN, if_neg (by omega), ← h.k0 k]
  · obtain ⟨e, h1⟩ := h.k1 k
    rw [operN, if_pos k, place_back k i size _ _ S T x.f1 h1, addC, if_neg (by omega), addN, if_neg (by omega), ← e]
  · rw [addC, if_pos k] at hS
    obtain ⟨a1, a2, a3⟩ := once_idx hC (clsI x) hS
    rw [operN, if_neg (by omega), if_pos k, class_back k i _ size _ _ S T (clsI x) a1 a2, a3, addC, if_pos k, addN, if_neg (by omega)]
    have e := h.k2 k
    rw [show ({ zIns with f0 := x.f0, f2 := ⟨(clsI x).1, (clsI x).2.1, (clsI x).2.2.1, (clsI x).2.2.2⟩ } : Ins) = { zIns with f0 := x.f0, f2 := x.f2 } from rfl, ← e]
  · rw [addN, if_pos k] at hT
    obtain ⟨a1, a2, a3⟩ := once_idx hN x.f3 hT
    rw [operN, if_neg (by omega), if_neg (by omega), if_pos k, name_back k i _ size _ _ S T x.f3 a1 a2, a3, addC, if_neg (by omega), addN, if_pos k, ← h.k3 k]
def progE (S : List Four) (T : List ByteArray) : Nat → List Ins → List Int
  | _, [] => []
  | i, x :: l => insE x.f0 (operN i x S T) ++ progE S T (i + 1) l
theorem operN_le {size i : Nat} {x : Ins} {S C : List Four} {T N : List ByteArray} (h : InsOk size x) (hC : C.Nodup) (hN : N.Nodup) (hS : addC C x <+: S) (hT : addN N x <+: T) (hi : i ≤ 65536) (hz : size ≤ 65536) (hSl : S.length ≤ 65536) (hTl : T.length ≤ 65536) : operN i x S T ≤ 131072 := by
  have c1 := ((addC_prefix C x).trans hS).length_le
  have c2 := ((addN_prefix N x).trans hT).length_le
  rcases kind4 x.f0 with k | k | k | k
  · rw [operN, if_neg (by omega), if_neg (by omega), if_neg (by omega)]
    omega
  · obtain ⟨e, h1⟩ := h.k1 k
    rw [operN, if_pos k]
    unfold farN
    split <;> omega
  · rw [addC, if_pos k] at hS
    have := (once_idx hC (clsI x) hS).1
    rw [operN, if_neg (by omega), if_pos k]
    omega
  · rw [addN, if_pos k] at hT
    have := (once_idx hN x.f3 hT).1
    rw [operN, if_neg (by omega), if_neg (by omega), if_pos k]
    omega
theorem prog_back (e size : Nat) (S : List Four) (T : List ByteArray) (r : List Int) (hz : size ≤ 65536) (hSl : S.length ≤ 65536) (hTl : T.length ≤ 65536) : ∀ (l : List Ins) (i : Nat) (C : List Four) (N : List ByteArray) (acc : List Ins), C.Nodup → N.Nodup → l.foldl addC C <+: S → l.foldl addN N <+: T → (∀ x ∈ l, InsOk size x) → i + l.length ≤ 65536 →
    insL e size S T l.length i C.length N.length acc (progE S T i l ++ r) = .ok (acc ++ l, (l.foldl addC C).length, (l.foldl addN N).length, r)
  | [], i, C, N, acc, hC, hN, hS, hT, hok, hi => by simp [insL, progE]
  | x :: l, i, C, N, acc, hC, hN, hS, hT, hok, hi => by
    have hx := hok x List.mem_cons_self
    have hS1 : addC C x <+: S := (foldC_prefix l _).trans hS
    have hT1 : addN N x <+: T := (foldN_prefix l _).trans hT
    rw [List.length_cons] at hi
    have hle := operN_le (i := i) hx hC hN hS1 hT1 (by omega) hz hSl hTl
    obtain ⟨b, lb, hb, hb2, hb3⟩ := num_back e x.f0 (operN i x S T) (progE S T (i + 1) l ++ r) hx.op (by omega)
    have ih := prog_back e size S T r hz hSl hTl l (i + 1) (addC C x) (addN N x) (acc ++ [x]) (addC_nodup hC x) (addN_nodup hN x) hS hT (fun y hy => hok y (List.mem_cons_of_mem _ hy)) (by omega)
    rw [progE, List.append_assoc, hb, List.cons_append, List.length_cons, insL, hb3]
    dsimp only
    rw [hb2, oper_back hx hC hN hS1 hT1]
    dsimp only
    rw [ih, List.append_assoc]
    rfl
theorem foldN_mem : ∀ (l : List Ins) (S : List ByteArray) (c : ByteArray), c ∈ l.foldl addN S → c ∈ S ∨ ∃ x ∈ l, kindOf x.f0 = 3 ∧ x.f3 = c
  | [], S, c, h => .inl h
  | x :: l, S, c, h => by
    rcases foldN_mem l (addN S x) c h with h | ⟨y, hy, h⟩
    · unfold addN at h
      split at h
      · rename_i hk
        unfold once at h
        split at h
        · exact .inl h
        · rcases List.mem_append.1 h with h | h
          · exact .inl h
          · exact .inr ⟨x, List.mem_cons_self, hk, (List.mem_singleton.1 h).symm⟩
      · exact .inl h
    · exact .inr ⟨y, List.mem_cons_of_mem _ hy, h⟩
theorem once_length {α : Type} [DecidableEq α] (S : List α) (x : α) : (once S x).length ≤ S.length + 1 := by
  unfold once
  split
  · omega
  · rw [List.length_append]; exact Nat.le_refl _
theorem foldC_length : ∀ (l : List Ins) (S : List Four), (l.foldl addC S).length ≤ S.length + l.length
  | [], S => Nat.le_refl _
  | x :: l, S => by
    have h1 := foldC_length l (addC S x)
    have h2 : (addC S x).length ≤ S.length + 1 := by
      unfold addC
      split
      · exact once_length _ _
      · omega
    rw [List.foldl_cons, List.length_cons]
    omega
theorem foldN_length : ∀ (l : List Ins) (S : List ByteArray), (l.foldl addN S).length ≤ S.length + l.length
  | [], S => Nat.le_refl _
  | x :: l, S => by
    have h1 := foldN_length l (addN S x)
    have h2 : (addN S x).length ≤ S.length + 1 := by
      unfold addN
      split
      · exact once_length _ _
      · omega
    rw [List.foldl_cons, List.length_cons]
    omega
/-- What stands between the first five bytes and the sum, of a program. -/
def insideE (l : List Ins) : List Int := cntE (l.foldl addC []).length ++ ((l.foldl addC []).flatMap clsE ++ (cntE (l.foldl addN []).length ++ ((l.foldl addN []).flatMap nameE ++ (cntE l.length ++ progE (l.foldl addC []) (l.foldl addN []) 0 l))))
/-- A program's bytes. -/
def encodeE (l : List Ins) : List Int := (magicL ++ insideE l) ++ leN 4 (crcL (magicL ++ insideE l))
theorem cntE_pos (n : Nat) : 1 ≤ (cntE n).length := by
  rw [cntE]
  split
  · exact Nat.le_refl _
  · rw [List.length_cons]; omega
theorem cntE_three (n : Nat) (h : n < 2097152) : (cntE n).length ≤ 3 := by
  rw [cntE]
  split
  · simp
  · rw [List.length_cons, cntE]
    split
    · simp
    · rw [List.length_cons, cntE, dif_pos (by omega)]
      simp
theorem insE_len (op : Int) (n : Nat) (h : n ≤ 131072) : 1 ≤ (insE op n).length ∧ (insE op n).length ≤ 4 := by
  unfold insE
  split
  · simp
  · have h1 := cntE_pos (n - 15)
    have h2 := cntE_three (n - 15) (by omega)
    rw [List.length_cons]
    omega
theorem progE_len (size : Nat) (S : List Four) (T : List ByteArray) (hz : size ≤ 65536) (hSl : S.length ≤ 65536) (hTl : T.length ≤ 65536) : ∀ (l : List Ins) (i : Nat) (C : List Four) (N : List ByteArray), C.Nodup → N.Nodup → l.foldl addC C <+: S → l.foldl addN N <+: T → (∀ x ∈ l, InsOk size x) → i + l.length ≤ 65536 → l.length ≤ (progE S T i l).length ∧ (progE S T i l).length ≤ 4 * l.length
  | [], i, C, N, hC, hN, hS, hT, hok, hi => by simp [progE]
  | x :: l, i, C, N, hC, hN, hS, hT, hok, hi => by
    have hx := hok x List.mem_cons_self
    have hS1 : addC C x <+: S := (foldC_prefix l _).trans hS
    have hT1 : addN N x <+: T := (foldN_prefix l _).trans hT
    rw [List.length_cons] at hi
    have h1 := insE_len x.f0 (operN i x S T) (operN_le (i := i) hx hC hN hS1 hT1 (by omega) hz hSl hTl)
    have ih := progE_len size S T hz hSl hTl l (i + 1) (addC C x) (addN N x) (addC_nodup hC x) (addN_nodup hN x) hS hT (fun y hy => hok y (List.mem_cons_of_mem _ hy)) (by omega)
    rw [progE, List.length_append, List.length_cons]
    omega
theorem namesE_len : ∀ T : List ByteArray, (∀ s ∈ T, okName s = true) → (T.flatMap nameE).length ≤ 65 * T.length
  | [], _ => by simp
  | s :: T, h => by
    have h1 := okName_size (h s List.mem_cons_self)
    have ih := namesE_len T (fun x hx => h x (List.mem_cons_of_mem _ hx))
    have h2 : (cntE s.size).length = 1 := by rw [cntE, dif_pos (by omega)]; rfl
    rw [List.flatMap_cons, List.length_append, nameE, List.length_append, numsOf_length, h2, List.length_cons]
    omega
theorem clsE_len : ∀ S : List Four, (S.flatMap clsE).length = 32 * S.length
  | [] => rfl
  | c :: S => by rw [List.flatMap_cons, List.length_append, clsE_length, clsE_len S, List.length_cons]; omega
end Go.Proofs.Ytebiogaacikphaa.Pack
end
section
namespace Go.Proofs.Ytebiogaacikphaa.Pack
open Go.RowKit Go.Proofs.YtebiogaacikphaaW.PrintWords Go.Proofs.Ytebiogaacikphaa.PAll Go.Proofs.Ytebiogaacikphaa.Names
set_option linter.unusedVariables false
theorem rightB_ok {x : Ins} {n : Nat} (h : rightB x n = true) : InsOk n x ∧ (kindOf x.f0 = 3 → okName x.f3 = true) := by
  unfold rightB at h
  split at h
  · cases h
  · rename_i hr
    split at h
    · cases h
    · rename_i he
      have hx : x = bareI x := (eqI_iff x (bareI x)).1 (by simpa using he)
      refine ⟨⟨by omega, fun k => hx.trans (by rw [bareI, if_neg (by omega), if_neg (by omega), if_neg (by omega)]), fun k => ⟨hx.trans (by rw [bareI, if_pos k]), ?_⟩, fun k => hx.trans (by rw [bareI, if_neg (by omega), if_pos k]), fun k => hx.trans (by rw [bareI, if_neg (by omega), if_neg (by omega), if_pos k])⟩, fun k => ?_⟩
      · rw [if_pos k] at h
        exact of_decide_eq_true h
      · rw [if_neg (by omega), if_pos k] at h
        exact h
theorem right_of_ok {x : Ins} {n : Nat} (h : InsOk n x) (hn : kindOf x.f0 = 3 → okName x.f3 = true) : rightB x n = true := by
  have hx : x = bareI x := by
    rcases kind4 x.f0 with k | k | k | k
    · exact (h.k0 k).trans (by rw [bareI, if_neg (by omega), if_neg (by omega), if_neg (by omega)])
    · exact (h.k1 k).1.trans (by rw [bareI, if_pos k])
    · exact (h.k2 k).trans (by rw [bareI, if_neg (by omega), if_pos k])
    · exact (h.k3 k).trans (by rw [bareI, if_neg (by omega), if_neg (by omega), if_pos k])
  have hop := h.op
  unfold rightB
  rw [if_neg (by omega), if_neg (by rw [(eqI_iff x (bareI x)).2 hx]; decide)]
  split
  · rename_i k
    exact decide_eq_true (h.k1 k).2
  · split
    · rename_i k
      exact hn k
    · rfl
theorem checkAt_none (n : Nat) : ∀ (l : List Ins) (i : Nat), checkAt n i l = none ↔ ∀ x ∈ l, rightB x n = true
  | [], i => by simp [checkAt]
  | x :: l, i => by
    rw [checkAt]
    split
    · rename_i h
      rw [checkAt_none n l (i + 1)]
      simp [h]
    · rename_i h
      simp [h]
theorem checkL_ok (l : List Ins) : checkL l = (0, 0) ↔ 0 < l.length ∧ l.length ≤ 65536 ∧ ∀ x ∈ l, rightB x l.length = true := by
  rw [← checkAt_none l.length l 0]
  unfold checkL
  by_cases c0 : 65536 < l.length
  · rw [if_pos c0]
    constructor
    · intro h; simp at h
    · intro h; omega
  · rw [if_neg c0]
    by_cases c1 : l.length = 0
    · rw [if_pos c1]
      constructor
      · intro h; simp at h
      · intro h; omega
    · rw [if_neg c1]
      cases hc : checkAt l.length 0 l with
      | some i => simp
      | none => simp; omega
end Go.Proofs.Ytebiogaacikphaa.Pack
end
