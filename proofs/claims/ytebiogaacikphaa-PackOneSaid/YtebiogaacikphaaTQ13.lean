/- Parts of the proof of packBack and packOne and packCuts and packSpoilt and packSmall: PackSum, Region, PackFramed. No condition beyond each lemma's own. -/
import Derived.Deep.RegionHeld3
import Derived.StillTailTactics
import Derived.Test.YtebiogaacikphaaTQ2
import Derived.Test.YtebiogaacikphaaTQ3
import Derived.Test.YtebiogaacikphaaTQ4
import Derived.Test.YtebiogaacikphaaTQ7
import Derived.Test.YtebiogaacikphaaTQ8
import Derived.Test.YtebiogaacikphaaTQ12
section
namespace Go.Proofs.Ytebiogaacikphaa.Pack
open Go.RowKit Go.Proofs.YtebiogaacikphaaW.PrintWords Go.Proofs.Ytebiogaacikphaa.PAll
set_option linter.unusedVariables false
set_option linter.unusedSimpArgs false
def crcBit (s : Int) : Int := if Go.bits .and .u32 s 1 = 1 then Go.bits .xor .u32 (s / 2) 3988292384 else s / 2
def crcN : Nat → Int → Int
  | 0, s => s
  | n + 1, s => crcN n (crcBit s)
def crcRaw (s : Int) (l : List Int) : Int := l.foldl (fun s x => crcN 8 (Go.bits .xor .u32 s (x % 4294967296))) s
/-- The sum of bytes. -/
def crcL (l : List Int) : Int := Go.bits .xor .u32 4294967295 (crcRaw 4294967295 l)
theorem rd_nat (l : List Int) (i : Nat) (h : i < l.length) : rd l (i : Int) = l[i] := by
  unfold rd
  rw [Int.toNat_natCast, List.getD_eq_getElem?_getD, List.getElem?_eq_getElem h, Option.getD_some]
theorem sum_in (l : List Int) (s : Int) (i : Nat) (R : Int) : ∀ d j : Nat, j + d = 8 → ∀ s, Ev (fun k => pack_sum.l0 k (crcN d s) l (l.length : Int) (wrap64 ((i : Int) + 1))) R → Ev (fun k => pack_sum.l1 k s l (l.length : Int) (i : Int) (j : Int)) R
  | 0, j, h, s, hr => by
    refine Ev.step (fun _ => by rw [pack_sum.l1]) ?_
    exact Ev.neg (by omega) hr
  | d + 1, j, h, s, hr => by
    have ih := sum_in l s i R d (j + 1) (by omega)
    refine Ev.step (fun _ => by rw [pack_sum.l1]) ?_
    refine Ev.pos (by omega) ?_
    have hw : wrap64 ((j : Int) + 1) = ((j + 1 : Nat) : Int) := by rw [w64] <;> omega
    rw [hw]
    rw [crcN] at hr
    refine Ev.ite (fun h1 => ih _ ?_) (fun h1 => ih _ ?_)
    · rw [crcBit, if_pos h1] at hr; exact hr
    · rw [crcBit, if_neg h1] at hr; exact hr
theorem sum_out (l : List Int) (hl : l.length ≤ 140737488351232) : ∀ d i : Nat, i + d = l.length → ∀ s, Ev (fun k => pack_sum.l0 k s l (l.length : Int) (i : Int)) (Go.bits .xor .u32 4294967295 (crcRaw s (l.drop i)))
  | 0, i, h, s => by
    refine Ev.step (fun _ => by rw [pack_sum.l0]) ?_
    refine Ev.neg (by omega) (Ev.some_ ?_)
    rw [List.drop_of_length_le (by omega)]
    rfl
  | d + 1, i, h, s => by
    have ih := sum_out l hl d (i + 1) (by omega)
    refine Ev.step (fun _ => by rw [pack_sum.l0]) ?_
    refine Ev.pos (by omega) (Ev.pos (by omega) (Ev.pos (by omega) ?_))
    rw [rd_nat l i (by omega)]
    refine sum_in l s i _ 8 0 rfl _ ?_
    have hw : wrap64 ((i : Int) + 1) = ((i + 1 : Nat) : Int) := by rw [w64] <;> omega
    rw [hw]
    refine (ih _).to ?_
    rw [List.drop_eq_getElem_cons (show i < l.length by omega)]
    rfl
theorem sum_ev (l : List Int) (hl : l.length ≤ 140737488351232) : Ev (fun k => pack_sum.f k l) (crcL l) := by
  unfold pack_sum.f
  exact (sum_out l hl l.length 0 (by omega) _).to rfl
theorem refsum_in (l : List Int) (s : Int) (i : Nat) (R : Int) : ∀ d j : Nat, j + d = 8 → ∀ s, Ev (fun k => dowelref20_Sum.l0 k l (crcN d s) (wrap64 ((i : Int) + 1))) R → Ev (fun k => dowelref20_Sum.l1 k l s (i : Int) (j : Int)) R
  | 0, j, h, s, hr => by
    refine Ev.step (fun _ => by rw [dowelref20_Sum.l1]) ?_
    exact Ev.neg (by omega) hr
  | d + 1, j, h, s, hr => by
    have ih := refsum_in l s i R d (j + 1) (by omega)
    refine Ev.step (fun _ => by rw [dowelref20_Sum.l1]) ?_
    refine Ev.pos (by omega) ?_
    have hw : wrap64 ((j : Int) + 1) = ((j + 1 : Nat) : Int) := by rw [w64] <;> omega
    rw [hw]
    rw [crcN] at hr
    refine Ev.ite (fun h1 => ih _ ?_) (fun h1 => ih _ ?_)
    · rw [crcBit, if_pos h1] at hr; exact hr
    · rw [crcBit, if_neg h1] at hr; exact hr
theorem refsum_out (l : List Int) (hl : l.length ≤ 140737488351232) : ∀ d i : Nat, i + d = l.length → ∀ s, Ev (fun k => dowelref20_Sum.l0 k l s (i : Int)) (Go.bits .xor .u32 4294967295 (crcRaw s (l.drop i)))
  | 0, i, h, s => by
    refine Ev.step (fun _ => by rw [dowelref20_Sum.l0]) ?_
    refine Ev.neg (by omega) (Ev.some_ ?_)
    rw [List.drop_of_length_le (by omega)]
    rfl
  | d + 1, i, h, s => by
    have ih := refsum_out l hl d (i + 1) (by omega)
    refine Ev.step (fun _ => by rw [dowelref20_Sum.l0]) ?_
    refine Ev.pos (by omega) (Ev.pos (by omega) ?_)
    rw [rd_nat l i (by omega)]
    refine refsum_in l s i _ 8 0 rfl _ ?_
    have hw : wrap64 ((i : Int) + 1) = ((i + 1 : Nat) : Int) := by rw [w64] <;> omega
    rw [hw]
    refine (ih _).to ?_
    rw [List.drop_eq_getElem_cons (show i < l.length by omega)]
    rfl
theorem refsum_ev (l : List Int) (hl : l.length ≤ 140737488351232) : Ev (fun k => dowelref20_Sum.f k l) (crcL l) := by
  unfold dowelref20_Sum.f
  exact (refsum_out l hl l.length 0 (by omega) _).to rfl
theorem sum_lit (A : Option Addr) (c : Nat) (l : List Int) (w : World) (hr : Kd.C (Kd.int .u8) w A l.length l) (hc : l.length ≤ c) (hl : l.length ≤ 140737488351232) :
    Calls Try.prog 76 #[.slice A l.length c] w fun e w' => e = .returned (.int .u32 (crcL l)) ∧ Drawn0 w w' := by
  obtain ⟨k, hk⟩ := sum_ev l hl
  exact pack_sum.calls k A c l _ w hr hc (hk k (Nat.le_refl _))
theorem refsum_lit (A : Option Addr) (c : Nat) (l : List Int) (w : World) (hr : Kd.C (Kd.int .u8) w A l.length l) (hc : l.length ≤ c) (hl : l.length ≤ 140737488351232) :
    Calls Try.prog 29 #[.slice A l.length c] w fun e w' => e = .returned (.int .u32 (crcL l)) ∧ Drawn0 w w' := by
  obtain ⟨k, hk⟩ := refsum_ev l hl
  exact dowelref20_Sum.calls k A c l _ w hr hc (hk k (Nat.le_refl _))
/-- So many bytes of a number, the lowest first. -/
def leN : Nat → Int → List Int
  | 0, _ => []
  | n + 1, s => s % 256 :: leN n (s / 256)
theorem leN_length : ∀ n s, (leN n s).length = n
  | 0, _ => rfl
  | n + 1, s => by rw [leN, List.length_cons, leN_length n]
theorem fixed_in (m : Nat) (hm : m ≤ 8) (l : List Int) (i : Nat) (R : List Int) : ∀ (d j : Nat) (x0 : List Int) (s : Int), j + d = m → x0.length + d ≤ 140737488355328 →
    Ev (fun k => pack_fixed.l0 k (x0 ++ leN d s) (m : Int) l (l.length : Int) (wrap64 ((i : Int) + 1))) R → Ev (fun k => pack_fixed.l1 k x0 (m : Int) s l (l.length : Int) (i : Int) (m : Int) (j : Int)) R
  | 0, j, x0, s, h, hx, hr => by
    refine Ev.step (fun _ => by rw [pack_fixed.l1]) ?_
    rw [leN, List.append_nil] at hr
    exact Ev.neg (by omega) hr
  | d + 1, j, x0, s, h, hx, hr => by
    have ih := fixed_in m hm l i R d (j + 1) (x0 ++ [s % 256]) (s / 256) (by omega) (by simp; omega)
    refine Ev.step (fun _ => by rw [pack_fixed.l1]) ?_
    refine Ev.pos (by omega) (Ev.pos (by omega) ?_)
    have hw : wrap64 ((j : Int) + 1) = ((j + 1 : Nat) : Int) := by rw [w64] <;> omega
    rw [hw]
    refine ih ?_
    rw [leN] at hr
    simpa using hr
theorem fixed_out (m : Nat) (hm : m ≤ 8) (l : List Int) (hl : l.length ≤ 4) : ∀ (d i : Nat) (x0 : List Int), i + d = l.length → x0.length + 8 * d ≤ 140737488355328 →
    Ev (fun k => pack_fixed.l0 k x0 (m : Int) l (l.length : Int) (i : Int)) (x0 ++ (l.drop i).flatMap (leN m))
  | 0, i, x0, h, hx => by
    refine Ev.step (fun _ => by rw [pack_fixed.l0]) ?_
    refine Ev.neg (by omega) (Ev.some_ ?_)
    rw [List.drop_of_length_le (by omega)]
    simp
  | d + 1, i, x0, h, hx => by
    have ih := fixed_out m hm l hl d (i + 1) (x0 ++ leN m l[i]) (by omega) (by simp [leN_length]; omega)
    refine Ev.step (fun _ => by rw [pack_fixed.l0]) ?_
    refine Ev.pos (by omega) (Ev.pos (by omega) (Ev.pos (by omega) ?_))
    rw [rd_nat l i (by omega)]
    refine fixed_in m hm l i _ m 0 x0 _ (by omega) (by omega) ?_
    have hw : wrap64 ((i : Int) + 1) = ((i + 1 : Nat) : Int) := by rw [w64] <;> omega
    rw [hw]
    refine ih.to ?_
    rw [List.drop_eq_getElem_cons (show i < l.length by omega), List.flatMap_cons, List.append_assoc]
theorem fixed_ev (l0 : List Int) (m : Nat) (hm : m ≤ 8) (l : List Int) (hl : l.length ≤ 4) (h0 : l0.length ≤ 140737488351232) : Ev (fun k => pack_fixed.f k l0 (m : Int) l) (l0 ++ l.flatMap (leN m)) := by
  unfold pack_fixed.f
  exact (fixed_out m hm l hl l.length 0 l0 (by omega) (by omega)).to (by rw [List.drop_zero])
theorem bits_u32 (op : BinOp) (x y : Int) : 0 ≤ Go.bits op .u32 x y ∧ Go.bits op .u32 x y < 4294967296 := by
  have h : ∀ z : Int, 0 ≤ IntKind.u32.wrap z ∧ IntKind.u32.wrap z < 4294967296 := by
    intro z
    rw [IntKind.wrap_u32]
    omega
  unfold Go.bits
  exact h _
theorem crc_range (l : List Int) : 0 ≤ crcL l ∧ crcL l < 4294967296 := bits_u32 _ _ _
theorem leN_bytes : ∀ n s, ∀ x ∈ leN n s, 0 ≤ x ∧ x < 256
  | 0, _, x, h => by cases h
  | n + 1, s, x, h => by
    rw [leN, List.mem_cons] at h
    rcases h with rfl | h
    · omega
    · exact leN_bytes n _ x h
theorem nums_of_str {l : List Int} (h : ∀ x ∈ l, 0 ≤ x ∧ x < 256) : (strOfNums l).data.toList.map (fun u => (u.toNat : Int)) = l := by
  unfold strOfNums
  rw [List.map_map]
  refine (List.map_congr_left (g := id) fun x hx => ?_).trans (List.map_id l)
  have := h x hx
  show ((UInt8.ofNat x.toNat).toNat : Int) = x
  rw [UInt8.toNat_ofNat']
  omega
/-- Lists of bytes, as texts. -/
theorem strOfNums_inj {a b : List Int} (ha : ∀ x ∈ a, 0 ≤ x ∧ x < 256) (hb : ∀ x ∈ b, 0 ≤ x ∧ x < 256) (h : strOfNums a = strOfNums b) : a = b := by
  rw [← nums_of_str ha, ← nums_of_str hb, h]
end Go.Proofs.Ytebiogaacikphaa.Pack
end
section
namespace Go.Proofs.YtebiogaacikphaaW.PrintWords
open Go.RowKit
section
variable {P : Program} {ops : Array Oper} {o : Oper} {a : Act} {Q : Exit → Act → World → Prop} {Kc : Act → World → Prop}
theorem rstep_call {w w1 : World} {f : FuncId} {args : Array Value} {R : Ending → World → Prop} (hw : Region.wanted o (yielded ops a.tmps) = true) (hr : (execOp a.eval o).run P w = .ok (.enter f args) w1) (hc : Calls P f args w1 R) (h : ∀ e w', R e w' → ∃ v, e = .returned v ∧ Kc (a.put o.dst v) w') :
    if Region.wanted o (yielded ops a.tmps) = true then Oper.wp P o a w Kc Q else Kc (a.put o.dst undef) w := by
  rw [if_pos hw]
  unfold Oper.wp
  rw [hr]
  refine hc.mono (fun e w' hR => ?_)
  obtain ⟨v, rfl, hk⟩ := h e w' hR
  exact hk
theorem rstep_store {W : World} (hw : Region.wanted o (yielded ops a.tmps) = true) (t : TypeId) (p x : Operand) (ho : o.op = .store t p x) {g off : Nat} {u : Value} {e : TypeId} {cs seg : List Value} (hp : a.eval p = .pointer (some ⟨g, off, none⟩)) (hx : a.eval x = u)
    (hb : RowAt W g e cs) (hu : u.cells.toList = seg) (hi : (P.info? t).map (·.size) = some seg.length) (hfit : off + seg.length ≤ cs.length) (hone : ∀ q ∈ seg, q.oneCell' = true)
    (h : ∀ w1, RowAt w1 g e (cs.take off ++ seg ++ cs.drop (off + seg.length)) → W.grownBy w1 (some g) → Kc (a.put o.dst undef) w1) :
    if Region.wanted o (yielded ops a.tmps) = true then Oper.wp P o a W Kc Q else Kc (a.put o.dst undef) W := by
  obtain ⟨cur, hh, rfl⟩ := hb
  have hrun := run_store_run (P := P) (w := W) (g := g) (o := off) (e := e) (cur := cur) t u seg hh hu hi (by simpa using hfit) hone
  obtain ⟨cur', h1, h2, h3⟩ := setCells_row seg off W cur hh (by simpa using hfit)
  obtain ⟨s1, s2, s3, s4⟩ := setCells_same g seg off W
  rw [if_pos hw]
  unfold Oper.wp execOp
  simp only [ho, hp, hx]
  simp only [Sem.run_bind, hrun, Result.andThen_ok]
  have := h _ ⟨cur', h1, h3⟩ ⟨s1, s2, s3, by rw [s4]; exact Nat.le_refl _, fun i _ hne => setCells_far _ off i (fun e => hne (by rw [e]))⟩
  simpa [Oper.upon] using this
end
/-- A row of numbers that is a block's head. -/
theorem C_row {W : World} {g : Nat} {t : TypeId} {k : IntKind} {xs : List Int} {cs : List Value} (h : RowAt W g t (xs.map (Value.int k) ++ cs)) (hl : xs.length ≤ 9223372036854775807) : Kd.C (Kd.int k) W (some ⟨g, 0, none⟩) xs.length xs := by
  refine Kd.C_of_reads (d := (0 : Int)) (enc := Value.int k) (h1 := fun _ => rfl) ⟨rfl, hl, fun _ => ⟨_, rfl, fun j hj => ?_⟩⟩
  rw [add_plain, h.cell j, List.getElem?_append_left (by simpa using hj), List.getElem?_map, List.getElem?_eq_getElem hj, List.getD_eq_getElem?_getD, List.getElem?_eq_getElem hj]
  rfl
theorem C_row' {W : World} {g : Nat} {t : TypeId} {k : IntKind} {xs : List Int} (h : RowAt W g t (xs.map (Value.int k))) (hl : xs.length ≤ 9223372036854775807) : Kd.C (Kd.int k) W (some ⟨g, 0, none⟩) xs.length xs :=
  C_row (cs := []) (by rw [List.append_nil]; exact h) hl
theorem RowAt.kept_ {W W' : World} {g : Nat} {e : TypeId} {cs : List Value} (h : RowAt W g e cs) {S : Nat → Prop} (hk : Kept W W' S) (hs : ¬ S g) : RowAt W' g e cs := h.kept (hk.2 g h.lt hs)
end Go.Proofs.YtebiogaacikphaaW.PrintWords
end
section
namespace Go.Proofs.Ytebiogaacikphaa.Pack
open Go.RowKit Go.Proofs.YtebiogaacikphaaW.PrintWords Go.Proofs.Ytebiogaacikphaa.PAll
set_option linter.unusedVariables false
set_option linter.unusedSimpArgs false
def magicL : List Int := [100, 111, 119, 108, 1]
/-- The first place at which two lists part. -/
def missL : Nat → List Int → List Int → Option Nat
  | i, x :: m, y :: b => if y = x then missL (i + 1) m b else some i
  | _, _, _ => none
/-- What a frame comes to. -/
def framedL (b : List Int) : Int × Int :=
  if 4194304 < b.length then (0, 1) else match missL 0 magicL b with
  | some i => (i, 202)
  | none => if b.length < 9 then (b.length, 200) else if leN 4 (crcL (b.take (b.length - 4))) = b.drop (b.length - 4) then (0, 0) else ((b.length - 4 : Nat), 203)
theorem missL_drop (m b : List Int) (q i : Nat) (h1 : q < m.length) (h2 : q < b.length) : missL i (m.drop q) (b.drop q) = if b[q] = m[q] then missL (i + 1) (m.drop (q + 1)) (b.drop (q + 1)) else some i := by
  rw [List.drop_eq_getElem_cons h1, List.drop_eq_getElem_cons h2, missL]
theorem missL_nil (m b : List Int) (q i : Nat) (h : m.length ≤ q ∨ b.length ≤ q) : missL i (m.drop q) (b.drop q) = none := by
  rcases h with h | h
  · rw [List.drop_of_length_le h]; unfold missL; rfl
  · rw [List.drop_of_length_le h]; unfold missL; cases m.drop q <;> rfl
section
variable (w : World) (A : Option Addr) (c : Nat) (b : List Int)
set_option maxHeartbeats 4000000 in
set_option maxRecDepth 100000 in
theorem framed_calls (hr : Kd.C (Kd.int .u8) w A b.length b) (hc : b.length ≤ c) (hl : b.length ≤ 140737488351232) (hby : ∀ x ∈ b, 0 ≤ x ∧ x < 256) (f : Int × Int) (hf : framedL b = f) :
    Calls Try.prog 50 #[.slice A b.length c] w fun x w' => x = .returned (.agg #[.int .i64 f.1, .int .i64 f.2]) ∧ Below w.heap.size w w' := by
  have HR := Aside0.mk hr
  have HC := Aside0.mk hc
  have HY := Aside0.mk hby
  have hl' := hl
  clear hr hc hby
  rw [framedL] at hf
  by_cases big : 4194304 < b.length
  · rw [if_pos big] at hf
    have HF := Aside0.mk hf
    have b1 : decide ((b.length : Int) > 4194304) = true := decide_eq_true (by omega)
    clear hf
    go_enter Try.func50, Try.ntmps50
    go_wp2_with (first
      | ((with_reducible refine gate_dst (N := 2) rfl ?_); refine box_event (N := 2) rfl rfl (cs := #[.int .i64 0, .int .i64 0]) (t := 42) ?hr2 ?_; (case hr2 => first | (go_simp; done) | (go_simp; rfl)); intro g2 hg2 w1 hbox hb1; have HB := Aside0.mk hb1; have H2 := Aside0.mk (show RowAt w1 g2 42 [.int .i64 0, .int .i64 0] from ⟨_, hbox, rfl⟩); have HG2 := Aside0.mk (show w.heap.size ≤ g2 by omega); clear hbox hb1 hg2)
      | ((with_reducible refine gate_store (t := 42) (p := 2) rfl ?_); refine put_event rfl rfl 42 (.tmp 2) (.tmp 9) rfl (off := 0) (u := .agg #[.int .i64 (0), .int .i64 1]) (seg := [.int .i64 (0), .int .i64 1]) rfl rfl H2.out rfl (by kernel_rfl) (by simp) (by simp [Value.oneCell']) ?_; intro w5 hrow hgr; have n1_ := Aside0.mk (pw_below_grown HB.out (some g2) HB.out.size hgr (fun k hk => by injection hk with hk; have := HG2.out; omega)); have H5 := Aside0.mk (show RowAt w5 g2 42 [.int .i64 (0), .int .i64 1] from hrow); clear H2 HB hrow hgr; have HB := n1_; clear n1_))
    refine bodyPost_ret (results_cell_row rfl _ _ g2 42 #[.int .i64 (0), .int .i64 1] (0, 0) _ rfl (by obtain ⟨cur, h1, h2⟩ := H5.out; rw [h1, ← h2]) Try.underlying42 rfl (by kernel_rfl)) rfl ?_
    rw [← HF.out]
    exact ⟨rfl, HB.out⟩
  · rw [if_neg big] at hf
    have b1 : decide ((b.length : Int) > 4194304) = false := decide_eq_false (by omega)
    have HF := Aside0.mk hf
    clear hf
    go_enter Try.func50, Try.ntmps50
    go_wp2_with (first
      | ((with_reducible refine gate_dst (N := 2) rfl ?_); refine box_event (N := 2) rfl rfl (cs := #[.int .i64 0, .int .i64 0]) (t := 42) ?hr2 ?_; (case hr2 => first | (go_simp; done) | (go_simp; rfl)); intro g2 hg2 w1 hbox hb1; have HB := Aside0.mk hb1; have H2 := Aside0.mk (show RowAt w1 g2 42 [.int .i64 0, .int .i64 0] from ⟨_, hbox, rfl⟩); have HG2 := Aside0.mk (show w.heap.size ≤ g2 by omega); clear hbox hb1 hg2)
      | (go_at_call 72; refine (pack_magic.calls 100 111 119 108 1 _ rfl).mono ?_; rintro xx w3 ⟨rfl, hb3⟩; have n1_ := Aside0.mk (below_step HB.out hb3); have n2_ := Aside0.mk (H2.out.below hb3); clear HB H2 hb3; have HB := n1_; have H2 := n2_; clear n1_ n2_)
      | ((with_reducible refine gate_dst (N := 3) rfl ?_); refine box_event (N := 3) rfl rfl (cs := #[.int .u8 0, .int .u8 0, .int .u8 0, .int .u8 0, .int .u8 0]) (t := 137) ?hr2 ?_; (case hr2 => first | (go_simp; done) | (go_simp; rfl)); intro g3 hg3 w1 hbox hb1; have HG3 := Aside0.mk (show w.heap.size ≤ g3 ∧ g2 < g3 by have := HB.out.size; have := H2.out.lt; omega); have n1_ := Aside0.mk (below_step HB.out hb1); have H3 := Aside0.mk (show RowAt w1 g3 137 [.int .u8 0, .int .u8 0, .int .u8 0, .int .u8 0, .int .u8 0] from ⟨_, hbox, rfl⟩); have n2_ := Aside0.mk (H2.out.below hb1); clear HB H2 hbox hb1 hg3; have HB := n1_; have H2 := n2_; clear n1_ n2_)
      | ((with_reducible refine gate_store (t := 137) (p := 3) rfl ?_); refine put_event rfl rfl 137 (.tmp 3) (.tmp 10) rfl (off := 0) (u := .agg #[.int .u8 100, .int .u8 111, .int .u8 119, .int .u8 108, .int .u8 1]) (seg := [.int .u8 100, .int .u8 111, .int .u8 119, .int .u8 108, .int .u8 1]) rfl rfl H3.out rfl (by kernel_rfl) (by simp) (by simp [Value.oneCell']) ?_; intro w5 hrow hgr; have n1_ := Aside0.mk (pw_below_grown HB.out (some g3) HB.out.size hgr (fun k hk => by injection hk with hk; have := HG3.out; omega)); have n2_ := Aside0.mk (H2.out.grown hgr (by have := HG3.out; simp; omega)); have n3_ := Aside0.mk (show RowAt w5 g3 137 (magicL.map (Value.int .u8)) from hrow); clear H2 H3 HB hrow hgr; have HB := n1_; have H2 := n2_; have H3 := n3_; clear n1_ n2_ n3_))
    go_loopw [4] (fun v4 wr => ∃ (q : Nat), v4 = .int .i64 q ∧ q ≤ 5 ∧ q ≤ b.length ∧ Aside0 (missL 0 magicL b = missL q (magicL.drop q) (b.drop q)) ∧ Aside0 (Below w.heap.size w wr) ∧ Aside0 (RowAt wr g2 42 [.int .i64 0, .int .i64 0]) ∧ Aside0 (RowAt wr g3 137 (magicL.map (Value.int .u8)))) (fun v4 _ => 5 - (intOf v4).toNat)
    case atStart => exact ⟨0, rfl, by omega, by omega, ⟨rfl⟩, HB, H2, H3⟩
    case round =>
      clear HB H2 H3
      obtain ⟨q, rfl, hq5, hqb, HM, HB, H2, H3⟩ := hrel
      by_cases c5 : q < 5
      · have b5 : decide ((q : Int) < 5) = true := decide_eq_true (by omega)
        by_cases cb : q < b.length
        · have b6 : decide ((q : Int) < (b.length : Int)) = true := decide_eq_true (by omega)
          have hq5' : q < magicL.length := c5
          obtain ⟨ad, rfl, hcb⟩ := Kd.at_int (Kd.C_below HR.out HB.out) (q : Int) (by omega) (by omega)
          rw [Int.toNat_natCast, rd_nat b q cb] at hcb
          have hcm : wr.cell? ⟨g3, q, none⟩ = some (.int .u8 magicL[q]) := (H3.out.cell q).trans (by rw [List.getElem?_map, List.getElem?_eq_getElem hq5']; rfl)
          have hix : ∀ W : World, (Instr.indexAt 137 (.pointer (some ⟨g3, 0, none⟩)) (.int .i64 (q : Int))).run Try.prog W = .ok (.pointer (some ⟨g3, q, none⟩)) W := by
            intro W
            have hb0 : (0 : Int) ≤ (q : Int) ∧ (q : Int) < 5 := by omega
            simp [Instr.indexAt, go_sem, hb0, Try.underlying137]
            omega
          have hmd := HM.out
          rw [missL_drop magicL b q q hq5' cb] at hmd
          have hbq : decide ((q : Int) < (b.length : Int)) = true := b6
          generalize b[q] = x at *
          generalize magicL[q] = y at *
          clear HM
          by_cases e : x = y
          · rw [if_pos e] at hmd
            have b7 : (x != y) = false := by simp [e]
            have HM := Aside0.mk hmd
            clear hmd e
            go_wp2
            go_quiet (fail)
            have n1_ := Aside0.mk (pw_below_drewN HB.out nq)
            have n2_ := Aside0.mk (H2.out.below (pw_below_drewN (Below.refl wr.heap.size wr) nq))
            have n3_ := Aside0.mk (H3.out.below (pw_below_drewN (Below.refl wr.heap.size wr) nq))
            clear HB H2 H3 hcm hcb
            have HB := n1_
            have H2 := n2_
            have H3 := n3_
            clear n1_ n2_ n3_
            generalize wr.drewN nq = w8 at *
            try simp only [b7]
            go_wp2
            go_roundw
            case measure => simp [intOf]; omega
            case rel => exact ⟨q + 1, by go_num, by omega, by omega, HM, HB, H2, H3⟩
          · rw [if_neg e] at hmd
            have b7 : (x != y) = true := by simp [e]
            have hf := HF.out
            rw [hmd] at hf
            have HF2 := Aside0.mk hf
            clear hmd e HF hf
            go_wp2
            go_quiet (fail)
            have n1_ := Aside0.mk (pw_below_drewN HB.out nq)
            have n2_ := Aside0.mk (H2.out.below (pw_below_drewN (Below.refl wr.heap.size wr) nq))
            clear HB H2 H3 hcm hcb
            have HB := n1_
            have H2 := n2_
            clear n1_ n2_
            generalize wr.drewN nq = w8 at *
            try simp only [b7]
            go_wp2_with (first
              | ((with_reducible refine gate_store (t := 42) (p := 2) rfl ?_); refine put_event rfl rfl 42 (.tmp 2) (.tmp 30) rfl (off := 0) (u := .agg #[.int .i64 ((q : Int)), .int .i64 202]) (seg := [.int .i64 ((q : Int)), .int .i64 202]) rfl rfl H2.out rfl (by kernel_rfl) (by simp) (by simp [Value.oneCell']) ?_; intro w5 hrow hgr; have n1_ := Aside0.mk (pw_below_grown HB.out (some g2) HB.out.size hgr (fun k hk => by injection hk with hk; have := HG2.out; omega)); have H5 := Aside0.mk (show RowAt w5 g2 42 [.int .i64 ((q : Int)), .int .i64 202] from hrow); clear H2 HB hrow hgr; have HB := n1_; clear n1_))
            refine bodyPost_ret (results_cell_row rfl _ _ g2 42 #[.int .i64 ((q : Int)), .int .i64 202] (0, 0) _ rfl (by obtain ⟨cur, h1, h2⟩ := H5.out; rw [h1, ← h2]) Try.underlying42 rfl (by kernel_rfl)) rfl ?_
            rw [← HF2.out]
            exact ⟨rfl, HB.out⟩
        · have b6 : decide ((q : Int) < (b.length : Int)) = false := decide_eq_false (by omega)
          have b9 : decide ((b.length : Int) < 9) = true := decide_eq_true (by omega)
          have hf := HF.out
          rw [HM.out, missL_nil magicL b q q (.inr (by omega))] at hf
          dsimp only at hf
          rw [if_pos (by omega)] at hf
          have HF2 := Aside0.mk hf
          clear hf
          go_wp2_with (first
            | ((with_reducible refine gate_store (t := 42) (p := 2) rfl ?_); refine put_event rfl rfl 42 (.tmp 2) (.tmp 36) rfl (off := 0) (u := .agg #[.int .i64 ((b.length : Int)), .int .i64 200]) (seg := [.int .i64 ((b.length : Int)), .int .i64 200]) rfl rfl H2.out rfl (by kernel_rfl) (by simp) (by simp [Value.oneCell']) ?_; intro w5 hrow hgr; have n1_ := Aside0.mk (pw_below_grown HB.out (some g2) HB.out.size hgr (fun k hk => by injection hk with hk; have := HG2.out; omega)); have H5 := Aside0.mk (show RowAt w5 g2 42 [.int .i64 ((b.length : Int)), .int .i64 200] from hrow); clear H2 HB hrow hgr; have HB := n1_; clear n1_))
          refine bodyPost_ret (results_cell_row rfl _ _ g2 42 #[.int .i64 ((b.length : Int)), .int .i64 200] (0, 0) _ rfl (by obtain ⟨cur, h1, h2⟩ := H5.out; rw [h1, ← h2]) Try.underlying42 rfl (by kernel_rfl)) rfl ?_
          rw [← HF2.out]
          exact ⟨rfl, HB.out⟩
      · have b5 : decide ((q : Int) < 5) = false := decide_eq_false (by omega)
        have hf := HF.out
        rw [HM.out, missL_nil magicL b q q (.inl (by show 5 ≤ q; omega))] at hf
        dsimp only at hf
        by_cases c9 : b.length < 9
        · have b9 : decide ((b.length : Int) < 9) = true := decide_eq_true (by omega)
          rw [if_pos c9] at hf
          have HF2 := Aside0.mk hf
          clear hf
          go_wp2_with (first
            | ((with_reducible refine gate_store (t := 42) (p := 2) rfl ?_); refine put_event rfl rfl 42 (.tmp 2) (.tmp 36) rfl (off := 0) (u := .agg #[.int .i64 ((b.length : Int)), .int .i64 200]) (seg := [.int .i64 ((b.length : Int)), .int .i64 200]) rfl rfl H2.out rfl (by kernel_rfl) (by simp) (by simp [Value.oneCell']) ?_; intro w5 hrow hgr; have n1_ := Aside0.mk (pw_below_grown HB.out (some g2) HB.out.size hgr (fun k hk => by injection hk with hk; have := HG2.out; omega)); have H5 := Aside0.mk (show RowAt w5 g2 42 [.int .i64 ((b.length : Int)), .int .i64 200] from hrow); clear H2 HB hrow hgr; have HB := n1_; clear n1_))
          refine bodyPost_ret (results_cell_row rfl _ _ g2 42 #[.int .i64 ((b.length : Int)), .int .i64 200] (0, 0) _ rfl (by obtain ⟨cur, h1, h2⟩ := H5.out; rw [h1, ← h2]) Try.underlying42 rfl (by kernel_rfl)) rfl ?_
          rw [← HF2.out]
          exact ⟨rfl, HB.out⟩
        · have b9 : decide ((b.length : Int) < 9) = false := decide_eq_false (by omega)
          rw [if_neg c9] at hf
          have hw4 : IntKind.i64.wrap ((b.length : Int) - 4) = ((b.length - 4 : Nat) : Int) := by rw [IntWalk.i64_in _ (by omega)]; omega
          have hle : (b.take (b.length - 4)).length = b.length - 4 := by rw [List.length_take]; omega
          have hld : (b.drop (b.length - 4)).length = 4 := by rw [List.length_drop]; omega
          have hsz : (Try.prog.info? 5).map (fun i => i.size) = some 1 := by kernel_rfl
          obtain ⟨i5, hi5, hs5⟩ := Option.map_eq_some_iff.1 hsz
          have hto := cut_to (P := Try.prog) 37 5 .i64 Try.underlying37 hi5 A b.length c ((b.length - 4 : Nat) : Int) (by omega) (by omega) HC.out
          have hfrom := cut_from (P := Try.prog) 37 5 .i64 Try.underlying37 hi5 1 hs5 A b.length c ((b.length - 4 : Nat) : Int) (by omega) (by omega)
          rw [Int.toNat_natCast] at hto hfrom
          have hdrop := fun W (h : Kd.C (Kd.int .u8) W A b.length b) => Kd.C_drop (c := c) (m := b.length - 4) h (by omega) HC.out
          have htake := fun W (h : Kd.C (Kd.int .u8) W A b.length b) => Kd.C_take (m := b.length - 4) h (by omega)
          have hsum := fun W h => sum_lit A c (b.take (b.length - 4)) W h (by have := HC.out; omega) (by omega)
          rw [hle] at htake hsum
          rw [hld] at hdrop
          have hdl : b.length - (b.length - 4) = 4 := by omega
          rw [hdl] at hfrom
          change ∀ W, Kd.C (Kd.int .u8) W A b.length b → Kd.C (Kd.int .u8) W (if c = b.length - 4 then A else A.map (·.add ((b.length - 4) * 1))) 4 _ at hdrop
          generalize (if c = b.length - 4 then A else A.map (·.add ((b.length - 4) * 1))) = A2 at hdrop hfrom
          have hby1 : ∀ x ∈ b.drop (b.length - 4), 0 ≤ x ∧ x < 256 := fun x hx => HY.out x (List.mem_of_mem_drop hx)
          have hcr := crc_range (b.take (b.length - 4))
          generalize crcL (b.take (b.length - 4)) = s at *
          generalize b.take (b.length - 4) = l1 at *
          generalize b.drop (b.length - 4) = l2 at *
          generalize b.length - 4 = e at *
          generalize c - e = c2 at *
          have HTO := Aside0.mk hto
          have HFROM := Aside0.mk hfrom
          have HDROP := Aside0.mk hdrop
          have HTAKE := Aside0.mk htake
          have HSUM := Aside0.mk hsum
          have HF2 := Aside0.mk hf
          clear hto hfrom hdrop htake hsum hf HF
          go_wp2
          refine wp_region_held_drew (S := fun W => Below w.heap.size w W ∧ RowAt W g2 42 [.int .i64 0, .int .i64 0]) (by kernel_rfl) ⟨below_drew HB.out, H2.out.below (below_drew (Below.refl wr.heap.size wr))⟩ (fun hH => ?_)
          clear HB H2 H3
          generalize wr.drew = w5 at *
          refine wpAnyH_take (i := 0) (oi := _) (v := .slice A b.length c) rfl (by kernel_rfl) (by kernel_rfl) (by kernel_rfl) (fun _ _ _ h => h) (Or.inl ⟨by rfl, fun w hw => by go_simp⟩) hH ?_; simp only [List.getElem_toArray, List.getElem_cons_zero, List.getElem_cons_succ, Act.put, List.setIfInBounds_toArray, List.set_cons_zero, List.set_cons_succ]
          refine wpAnyH_take (i := 1) (oi := _) (v := .int .i64 (e : Int)) rfl (by kernel_rfl) (by kernel_rfl) (by kernel_rfl) (fun _ _ _ h => h) (Or.inl ⟨by rfl, fun w hw => by go_simp⟩) hH ?_; simp only [List.getElem_toArray, List.getElem_cons_zero, List.getElem_cons_succ, Act.put, List.setIfInBounds_toArray, List.set_cons_zero, List.set_cons_succ]
          refine wpAnyH_take (i := 2) (oi := _) (v := .slice A e c) rfl (by kernel_rfl) (by kernel_rfl) (by kernel_rfl) (fun _ _ _ h => h) (Or.inl ⟨by rfl, fun w hw => by have := HTO.out w; go_simp⟩) hH ?_; simp only [List.getElem_toArray, List.getElem_cons_zero, List.getElem_cons_succ, Act.put, List.setIfInBounds_toArray, List.set_cons_zero, List.set_cons_succ]
          refine wpAnyH_take (i := 8) (oi := _) (v := .slice A b.length c) rfl (by kernel_rfl) (by kernel_rfl) (by kernel_rfl) (fun _ _ _ h => h) (Or.inl ⟨by rfl, fun w hw => by go_simp⟩) hH ?_; simp only [List.getElem_toArray, List.getElem_cons_zero, List.getElem_cons_succ, Act.put, List.setIfInBounds_toArray, List.set_cons_zero, List.set_cons_succ]
          refine wpAnyH_take (i := 9) (oi := _) (v := .int .i64 (e : Int)) rfl (by kernel_rfl) (by kernel_rfl) (by kernel_rfl) (fun _ _ _ h => h) (Or.inl ⟨by rfl, fun w hw => by go_simp⟩) hH ?_; simp only [List.getElem_toArray, List.getElem_cons_zero, List.getElem_cons_succ, Act.put, List.setIfInBounds_toArray, List.set_cons_zero, List.set_cons_succ]
          refine wpAnyH_take (i := 10) (oi := _) (v := .slice A2 4 c2) rfl (by kernel_rfl) (by kernel_rfl) (by kernel_rfl) (fun _ _ _ h => h) (Or.inl ⟨by rfl, fun w hw => by have := HFROM.out w; go_simp⟩) hH ?_; simp only [List.getElem_toArray, List.getElem_cons_zero, List.getElem_cons_succ, Act.put, List.setIfInBounds_toArray, List.set_cons_zero, List.set_cons_succ]
          refine wpAnyH_take (i := 11) (oi := _) (v := .string (strOfNums l2)) rfl (by kernel_rfl) (by kernel_rfl) (by kernel_rfl) (fun _ _ _ h => h) (Or.inl ⟨by rfl, fun w hw => by have hcv := Kd.C_string (P := Try.prog) (src := 37) (dst := 9) (c := c2) Try.underlying37 Try.underlying5 Try.underlying9 (HDROP.out w (Kd.C_below HR.out hw.1)); go_simp⟩) hH ?_; simp only [List.getElem_toArray, List.getElem_cons_zero, List.getElem_cons_succ, Act.put, List.setIfInBounds_toArray, List.set_cons_zero, List.set_cons_succ]
          refine wpAnyH_ready (rs := [3]) (by kernel_rfl) (by simp) ?_; refine AllReadyH.cons (o := _) rfl (fun K hK => ?_) AllReadyH.nil
          refine rstep_call (w1 := w5) (by rfl) (by go_simp) (HSUM.out w5 (HTAKE.out w5 (Kd.C_below HR.out hH.1))) ?_
          rintro _ w6 ⟨rfl, hd⟩
          refine ⟨_, rfl, ?_⟩
          have hH6 : Below w.heap.size w w6 ∧ RowAt w6 g2 42 [.int .i64 0, .int .i64 0] := ⟨below_step hH.1 hd.below, hH.2.below hd.below⟩
          refine hK.out _ _ hH6 (fun _ => ?_)
          clear hK K hH hd
          simp only [List.getElem_toArray, List.getElem_cons_zero, List.getElem_cons_succ, Act.put, List.setIfInBounds_toArray, List.set_cons_zero, List.set_cons_succ]
          have hH := hH6
          clear hH6
          have hsw : IntKind.u64.wrap s = s := Bits.wrap_u64 s hcr.1 (by omega)
          refine wpAnyH_take (i := 4) (oi := _) (v := .int .u64 s) rfl (by kernel_rfl) (by kernel_rfl) (by kernel_rfl) (fun _ _ _ h => h) (Or.inl ⟨by rfl, fun w hw => by go_simp⟩) hH ?_; simp only [List.getElem_toArray, List.getElem_cons_zero, List.getElem_cons_succ, Act.put, List.setIfInBounds_toArray, List.set_cons_zero, List.set_cons_succ]
          refine wpAnyH_ready (rs := [5]) (by kernel_rfl) (by simp) ?_; refine AllReadyH.cons (o := _) rfl (fun K hK => ?_) AllReadyH.nil
          refine rstep_value (v := .slice (some ⟨w6.heap.size, 0, none⟩) 1 1) (w' := w6.alloc (.cells #[.int .u64 s] 74 (0, 0))) (by rfl) (by go_simp) ?_
          have hb7 := below_alloc (Below.refl w6.heap.size w6) (.cells #[.int .u64 s] 74 (0, 0))
          have hx7 := blk_new w6 (.cells #[.int .u64 s] 74 (0, 0))
          generalize w6.alloc (.cells #[.int .u64 s] 74 (0, 0)) = w7 at *
          have hH7 : Below w.heap.size w w7 ∧ RowAt w7 g2 42 [.int .i64 0, .int .i64 0] := ⟨below_step hH.1 hb7, hH.2.below hb7⟩
          refine hK.out _ _ hH7 (fun _ => ?_)
          clear hK K
          simp only [List.getElem_toArray, List.getElem_cons_zero, List.getElem_cons_succ, Act.put, List.setIfInBounds_toArray, List.set_cons_zero, List.set_cons_succ]
          generalize w6.heap.size = g7 at *
          have hR7 : RowAt w7 g7 74 ([s].map (Value.int .u64)) := ⟨_, hx7, rfl⟩
          clear hH hb7 hx7
          have hH := hH7
          clear hH7
          obtain ⟨kf, hkf⟩ := fixed_ev [] 4 (by omega) [s] (by simp) (by simp)
          have hfx := pack_fixed.calls kf (fun _ => False) (.slice none 0 0) [] 4 (some ⟨g7, 0, none⟩) 1 [s] _ w7 w7 (Below.refl _ _) (Kd.R_nil _ _ _ _ _) (fun W hk => C_row' (hR7.kept_ hk (fun h => h)) (by simp)) (by simp) (hkf kf (Nat.le_refl _))
          refine wpAnyH_ready (rs := [6]) (by kernel_rfl) (by simp) ?_; refine AllReadyH.cons (o := _) rfl (fun K hK => ?_) AllReadyH.nil
          refine rstep_call (w1 := w7) (by rfl) (by go_simp) hfx ?_
          rintro _ w8 ⟨v8, rfl, hR8, hb8, _⟩
          refine ⟨_, rfl, ?_⟩
          have hH8 : Below w.heap.size w w8 ∧ RowAt w8 g2 42 [.int .i64 0, .int .i64 0] := ⟨below_step hH.1 hb8, hH.2.below hb8⟩
          refine hK.out _ _ hH8 (fun _ => ?_)
          clear hK K hH hb8 hfx
          simp only [List.getElem_toArray, List.getElem_cons_zero, List.getElem_cons_succ, Act.put, List.setIfInBounds_toArray, List.set_cons_zero, List.set_cons_succ]
          have hH := hH8
          clear hH8
          obtain ⟨A8, c8, rfl, hc8, hr8⟩ := Kd.R_reads hR8
          rw [show [] ++ [s].flatMap (leN 4) = leN 4 s by simp] at *
          have hcv8 := Kd.C_string (P := Try.prog) (src := 37) (dst := 9) (c := c8) Try.underlying37 Try.underlying5 Try.underlying9 hr8
          refine wpAnyH_ready (rs := [7]) (by kernel_rfl) (by simp) ?_; refine AllReadyH.cons (o := _) rfl (fun K hK => ?_) AllReadyH.nil
          refine rstep_value (v := .string (strOfNums (leN 4 s))) (w' := w8) (by rfl) (by go_simp) ?_
          refine hK.out _ _ hH (fun _ => ?_); clear hK K; simp only [List.getElem_toArray, List.getElem_cons_zero, List.getElem_cons_succ, Act.put, List.setIfInBounds_toArray, List.set_cons_zero, List.set_cons_succ]
          refine wpAnyH_ready (rs := [12]) (by kernel_rfl) (by simp) ?_; refine AllReadyH.cons (o := _) rfl (fun K hK => ?_) AllReadyH.nil
          refine rstep_value (v := .bool (!((strOfNums (leN 4 s)).toList == (strOfNums l2).toList))) (w' := w8) (by rfl) (by go_simp) ?_
          refine hK.out _ _ hH (fun _ => ?_); clear hK K; simp only [List.getElem_toArray, List.getElem_cons_zero, List.getElem_cons_succ, Act.put, List.setIfInBounds_toArray, List.set_cons_zero, List.set_cons_succ]
          refine wpAnyH_done (by kernel_rfl) ?_ _
          have HB := Aside0.mk hH.1
          have H2 := Aside0.mk hH.2
          clear hH hcv8 hr8 hR8
          generalize hbb : ((strOfNums (leN 4 s)).toList == (strOfNums l2).toList) = bb
          cases bb with
          | true =>
            have he : leN 4 s = l2 := strOfNums_inj (leN_bytes 4 s) hby1 (ByteArray.ext (Array.toList_inj.mp (by rw [← ByteArray.toList_eq, ← ByteArray.toList_eq]; simpa using hbb)))
            have hf := HF2.out
            rw [if_pos he] at hf
            have HF3 := Aside0.mk hf
            clear hf HF2 he hbb
            go_wp2_with (first
              | ((with_reducible refine gate_store (t := 42) (p := 2) rfl ?_); refine put_event rfl rfl 42 (.tmp 2) (.tmp 55) rfl (off := 0) (u := .agg #[.int .i64 (0), .int .i64 0]) (seg := [.int .i64 (0), .int .i64 0]) rfl rfl H2.out rfl (by kernel_rfl) (by simp) (by simp [Value.oneCell']) ?_; intro w5 hrow hgr; have n1_ := Aside0.mk (pw_below_grown HB.out (some g2) HB.out.size hgr (fun k hk => by injection hk with hk; have := HG2.out; omega)); have H5 := Aside0.mk (show RowAt w5 g2 42 [.int .i64 (0), .int .i64 0] from hrow); clear H2 HB hrow hgr; have HB := n1_; clear n1_))
            refine bodyPost_ret (results_cell_row rfl _ _ g2 42 #[.int .i64 (0), .int .i64 0] (0, 0) _ rfl (by obtain ⟨cur, h1, h2⟩ := H5.out; rw [h1, ← h2]) Try.underlying42 rfl (by kernel_rfl)) rfl ?_
            rw [← HF3.out]
            exact ⟨rfl, HB.out⟩
          | false =>
            have he : leN 4 s ≠ l2 := fun h => by rw [h] at hbb; simp at hbb
            have hf := HF2.out
            rw [if_neg he] at hf
            have HF3 := Aside0.mk hf
            clear hf HF2 he hbb
            go_wp2_with (first
              | ((with_reducible refine gate_store (t := 42) (p := 2) rfl ?_); refine put_event rfl rfl 42 (.tmp 2) (.tmp 54) rfl (off := 0) (u := .agg #[.int .i64 ((e : Int)), .int .i64 203]) (seg := [.int .i64 ((e : Int)), .int .i64 203]) rfl rfl H2.out rfl (by kernel_rfl) (by simp) (by simp [Value.oneCell']) ?_; intro w5 hrow hgr; have n1_ := Aside0.mk (pw_below_grown HB.out (some g2) HB.out.size hgr (fun k hk => by injection hk with hk; have := HG2.out; omega)); have H5 := Aside0.mk (show RowAt w5 g2 42 [.int .i64 ((e : Int)), .int .i64 203] from hrow); clear H2 HB hrow hgr; have HB := n1_; clear n1_))
            refine bodyPost_ret (results_cell_row rfl _ _ g2 42 #[.int .i64 ((e : Int)), .int .i64 203] (0, 0) _ rfl (by obtain ⟨cur, h1, h2⟩ := H5.out; rw [h1, ← h2]) Try.underlying42 rfl (by kernel_rfl)) rfl ?_
            rw [← HF3.out]
            exact ⟨rfl, HB.out⟩
end
end Go.Proofs.Ytebiogaacikphaa.Pack
end
