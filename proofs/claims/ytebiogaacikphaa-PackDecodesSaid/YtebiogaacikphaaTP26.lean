/- Proves that the Go function dowellaw20.PackDecodes returns true for every input, and leaves its arguments as they read. No condition beyond the row's own. -/
import Derived.Below
import Derived.Carry
import Derived.ChangeOld
import Derived.OpenShut
import Derived.ProofKit
import Derived.ShutString
import Derived.SizedLaws
import Derived.Test.YtebiogaacikphaaRows
import Derived.WalkKit
import Derived.Test.YtebiogaacikphaaTP23
import Derived.Test.YtebiogaacikphaaTP25
section
namespace Go.Proofs.Ytebiogaacikphaa.Pack
open Go.RowKit Go.Proofs.YtebiogaacikphaaW.PrintWords Go.Proofs.Ytebiogaacikphaa.PAll
set_option linter.unusedVariables false
set_option linter.unusedSimpArgs false
set_option linter.unnecessarySimpa false
/-- What holds, and stays while elder blocks stay. -/
structure Held (p : World → Prop) (W : World) : Prop where
  at_ : p W
  st : ∀ W1 W2, p W1 → Below W1.heap.size W1 W2 → p W2
theorem Held.below {p : World → Prop} {W W' : World} (h : Held p W) (hb : Below W.heap.size W W') : Held p W' := ⟨h.st _ _ h.at_ hb, h.st⟩
theorem Held.and {p q : World → Prop} {W : World} (h : Held p W) (k : Held q W) : Held (fun W => p W ∧ q W) W := ⟨⟨h.at_, k.at_⟩, fun W1 W2 h1 hb => ⟨h.st _ _ h1.1 hb, k.st _ _ h1.2 hb⟩⟩
theorem Held.row {W : World} {g : Nat} {e : TypeId} {cs : List Value} (h : RowAt W g e cs) : Held (fun W => RowAt W g e cs) W := ⟨h, fun _ _ h hb => h.below hb⟩
theorem Held.own {W : World} {base : Nat} {e : TypeId} {size n : Nat} {v : Value} {xs : List Value} (h : W.ownsRow base e size v n xs) : Held (fun W => W.ownsRow base e size v n xs) W := ⟨h, fun _ _ h hb => own_kept h (fun k e => hb.block k (own_lt h k e))⟩
theorem Held.old {w W : World} (h : Below w.heap.size w W) : Held (fun W => Below w.heap.size w W) W := ⟨h, fun _ _ h hb => below_step h hb⟩
theorem Held.size {n : Nat} {W : World} (h : n ≤ W.heap.size) : Held (fun W => n ≤ W.heap.size) W := ⟨h, fun _ _ h hb => Nat.le_trans h hb.size⟩
theorem ins_C {W : World} {base : Nat} {A : Option Addr} {c : Nat} {l : List Ins} (h : W.ownsRow base 78 7 (.slice A l.length c) l.length (l.flatMap insCells)) (hl : l.length ≤ 9223372036854775807) : l.length ≤ c ∧ Kd.C k78 W A l.length l := by
  obtain ⟨A1, c1, h1, h2, h3⟩ := ins_reads h hl
  cases h1
  exact ⟨h2, h3⟩
def pick3 {α : Type} (a b c : α) : Nat → α
  | 0 => a
  | 1 => b
  | _ => c
theorem pick3_le {a b c n : Nat} (ha : a ≤ n) (hb : b ≤ n) (hc : c ≤ n) : ∀ j, j < 3 → pick3 a b c j ≤ n := fun j hj => by
  obtain rfl | rfl | rfl : j = 0 ∨ j = 1 ∨ j = 2 := by omega
  · exact ha
  · exact hb
  · exact hc
theorem F1.start {base gl s1 s2 : Nat} {W : World} {Aa Ab Ac : Option Addr} {na nb nc ca cb cc : Nat} {la lb lc : List Ins} (hbs : base ≤ W.heap.size) (hrow : RowAt W gl 39 [.slice Aa na ca, .slice Ab nb cb, .slice Ac nc cc])
    (ha : W.ownsRow base 78 7 (.slice Aa na ca) na (la.flatMap insCells)) (hb : W.ownsRow base 78 7 (.slice Ab nb cb) nb (lb.flatMap insCells)) (hc : W.ownsRow base 78 7 (.slice Ac nc cc) nc (lc.flatMap insCells))
    (hla : la.length = na) (hlb : lb.length = nb) (hlc : lc.length = nc) (h12 : s1 ≤ s2) (h2g : s2 ≤ gl)
    (h1 : ∀ k, (Value.slice Aa na ca).ownBlock = some k → k < s1) (h2 : ∀ k, (Value.slice Ab nb cb).ownBlock = some k → s1 ≤ k ∧ k < s2) (h3 : ∀ k, (Value.slice Ac nc cc).ownBlock = some k → s2 ≤ k ∧ k < gl) :
    F1 base W W (fun k => if k < s1 then 0 else if k < s2 then 1 else if k < gl then 2 else 3) gl (pick3 Aa Ab Ac) (pick3 na nb nc) (pick3 ca cb cc) (pick3 la lb lc) := by
  refine ⟨Below.refl _ _, hbs, hrow, by rw [if_neg (by omega), if_neg (by omega), if_neg (by omega)], fun j hj => ?_, fun j hj k hk => ?_, fun j hj => ?_⟩
  · obtain rfl | rfl | rfl : j = 0 ∨ j = 1 ∨ j = 2 := by omega
    · exact ha
    · exact hb
    · exact hc
  · obtain rfl | rfl | rfl : j = 0 ∨ j = 1 ∨ j = 2 := by omega
    · exact ⟨own_lt ha k hk, by have := h1 k hk; simp only [if_pos this]⟩
    · have := h2 k hk
      exact ⟨own_lt hb k hk, by rw [if_neg (by omega), if_pos this.2]⟩
    · have := h3 k hk
      exact ⟨own_lt hc k hk, by rw [if_neg (by omega), if_neg (by omega), if_pos this.2]⟩
  · obtain rfl | rfl | rfl : j = 0 ∨ j = 1 ∨ j = 2 := by omega
    · exact hla
    · exact hlb
    · exact hlc
/-- While the argument is written over. -/
structure PL (w : World) (g1 n sa sb sc sp : Nat) (va vb vc vp : Value) (l1 l2 : List Ins) (W : World) : Prop where
  old : Below w.heap.size w W
  row : ∃ cs, RowAt W g1 5 cs ∧ cs.length = n + 2
  a : W.ownsRow sa 78 7 va l1.length (l1.flatMap insCells)
  b : W.ownsRow sb 78 7 vb l2.length (l2.flatMap insCells)
  c : W.ownsRow sc 78 7 vc l1.length (l1.flatMap insCells)
  p : W.ownsRow sp 78 7 vp l1.length (l1.flatMap insCells)
  sz : sc ≤ W.heap.size
section
variable {w W W' : World} {g1 n sa sb sc sp : Nat} {va vb vc vp : Value} {l1 l2 : List Ins}
theorem PL.below (h : PL w g1 n sa sb sc sp va vb vc vp l1 l2 W) (hb : Below W.heap.size W W') : PL w g1 n sa sb sc sp va vb vc vp l1 l2 W' := by
  obtain ⟨cs, h1, h2⟩ := h.row
  exact ⟨below_step h.old hb, ⟨cs, h1.below hb, h2⟩, own_kept h.a (fun k e => hb.block k (own_lt h.a k e)), own_kept h.b (fun k e => hb.block k (own_lt h.b k e)), own_kept h.c (fun k e => hb.block k (own_lt h.c k e)), own_kept h.p (fun k e => hb.block k (own_lt h.p k e)), Nat.le_trans h.sz hb.size⟩
theorem PL.put (h : PL w g1 n sa sb sc sp va vb vc vp l1 l2 W) (hg : w.heap.size ≤ g1) (hs : g1 < sa ∧ g1 < sb ∧ g1 < sc ∧ g1 < sp) {cs : List Value} (h1 : RowAt W' g1 5 cs) (hl : cs.length = n + 2) (hgr : W.grownBy W' (some g1)) : PL w g1 n sa sb sc sp va vb vc vp l1 l2 W' :=
  ⟨pw_below_grown h.old (some g1) h.old.size hgr (fun k hk => by injection hk with hk; omega), ⟨cs, h1, hl⟩, own_kept h.a (fun k e => hgr.block k (own_lt h.a k e) (by have := own_base h.a k e; simp; omega)), own_kept h.b (fun k e => hgr.block k (own_lt h.b k e) (by have := own_base h.b k e; simp; omega)), own_kept h.c (fun k e => hgr.block k (own_lt h.c k e) (by have := own_base h.c k e; simp; omega)), own_kept h.p (fun k e => hgr.block k (own_lt h.p k e) (by have := own_base h.p k e; simp; omega)), Nat.le_trans h.sz hgr.size⟩
end
section
variable (w : World) (A1 A2 : Option Addr) (c1 c2 : Nat) (b1 b2 : List Int)
set_option maxHeartbeats 8000000 in
set_option maxRecDepth 100000 in
theorem decodes_calls (hr1 : Kd.C (Kd.int .u8) w A1 b1.length b1) (hc1 : b1.length ≤ c1) (hl1 : b1.length ≤ 140737488351232) (hy1 : ∀ x ∈ b1, 0 ≤ x ∧ x < 256) (hr2 : Kd.C (Kd.int .u8) w A2 b2.length b2) (hc2 : b2.length ≤ c2) (hl2 : b2.length ≤ 140737488351232) (hy2 : ∀ x ∈ b2, 0 ≤ x ∧ x < 256) :
    Calls Try.prog 5 #[.slice A1 b1.length c1, .slice A2 b2.length c2] w fun x w' => x = .returned (.bool true) ∧ Below w.heap.size w w' := by
  obtain ⟨r1, hd1⟩ : ∃ r, decodeL b1 = r := ⟨_, rfl⟩
  obtain ⟨r2, hd2⟩ : ∃ r, decodeL b2 = r := ⟨_, rfl⟩
  have HN1 := Aside0.mk (show (insOf r1).length ≤ 65536 from hd1 ▸ insOf_len hy1)
  have HN2 := Aside0.mk (show (insOf r2).length ≤ 65536 from hd2 ▸ insOf_len hy2)
  have HR1 := Aside0.mk hr1
  have HR2 := Aside0.mk hr2
  have HC1 := Aside0.mk hc1
  have HC2 := Aside0.mk hc2
  have HY1 := Aside0.mk hy1
  have HY2 := Aside0.mk hy2
  have HD1 := Aside0.mk hd1
  have HD2 := Aside0.mk hd2
  clear hr1 hr2 hc1 hc2 hy1 hy2 hd1 hd2
  by_cases big1 : 8388608 < b1.length
  · have k1 : decide ((b1.length : Int) > 8388608) = true := decide_eq_true (by omega)
    go_enter Try.func5, Try.ntmps5
    go_wp2
    go_ret
    exact ⟨rfl, Below.refl _ _⟩
  · have k1 : decide ((b1.length : Int) > 8388608) = false := decide_eq_false (by omega)
    by_cases big2 : 8388608 < b2.length
    · have k2 : decide ((b2.length : Int) > 8388608) = true := decide_eq_true (by omega)
      go_enter Try.func5, Try.ntmps5
      go_wp2
      go_ret
      exact ⟨rfl, Below.refl _ _⟩
    · have k2 : decide ((b2.length : Int) > 8388608) = false := decide_eq_false (by omega)
      have HL1 := Aside0.mk (show b1.length ≤ 8388608 by omega)
      have HL2 := Aside0.mk (show b2.length ≤ 8388608 by omega)
      clear hl1 hl2
      go_enter Try.func5, Try.ntmps5
      go_wp2_with (first
        | (go_at_call 22; have hcall := (lend_calls w A1 c1 b1 HR1.out HC1.out (by have := HL1.out; omega)); (with_reducible refine hcall.mono ?_); clear hcall; rintro xx w1 ⟨g1, rfl, hrow, hb, hg⟩; have HS := Aside0.mk ((Held.old hb).and (Held.row hrow)); have HG1 := Aside0.mk hg; clear hrow hb hg)
        | (go_at_call 22; have hcall := (lend_calls w1 A2 c2 b2 (Kd.C_below HR2.out HS.out.at_.1) HC2.out (by have := HL2.out; omega)); (with_reducible refine hcall.mono ?_); clear hcall; rintro xx w2 ⟨g2, rfl, hrow, hb, hg⟩; have n1_ := Aside0.mk ((HS.out.below hb).and (Held.row hrow)); clear HS hrow hb hg; have HS := n1_; clear n1_)
        | (go_at_call 23; have hcall := (decode_calls w2 (some ⟨g1, 0, none⟩) (b1.length + 2) b1 (lent_C (r := [171, 172]) HS.out.at_.1.2 (by have := HL1.out; omega)) (by omega) (by have := HL1.out; omega) HY1.out r1 HD1.out); (with_reducible refine hcall.mono ?_); clear hcall; rintro xx w3 ⟨hdec, hb⟩; obtain ⟨va, rfl, hva⟩ := hdec.one; obtain ⟨Aa, ca, rfl⟩ := own_len hva; have HSA := Aside0.mk (show g1 < w2.heap.size from HS.out.at_.1.2.lt); have n1_ := Aside0.mk ((HS.out.below hb).and (Held.own hva)); clear HS hdec hva hb; have HS := n1_; clear n1_)
        | ((with_reducible refine gate_dst (N := 8) rfl ?_); refine box_event (N := 8) rfl rfl (cs := #[.int .i64 0, .int .i64 0]) (t := 42) ?hr2 ?_; (case hr2 => first | (go_simp; done) | (go_simp; rfl)); intro gx hgx w4 hbox hb; have HX := Aside0.mk (show RowAt w4 gx 42 [.int .i64 0, .int .i64 0] from ⟨_, hbox, rfl⟩); have HB := Aside0.mk (show Below w3.heap.size w3 w4 from hb); have HG := Aside0.mk (show w3.heap.size ≤ gx by omega); clear hbox hb hgx)
        | ((with_reducible refine gate_store (t := 42) (p := 8) rfl ?_); refine put_event rfl rfl 42 (.tmp 8) (.tmp 34) rfl (off := 0) (u := .agg #[.int .i64 (faultOf r1).1, .int .i64 (faultOf r1).2]) (seg := [.int .i64 (faultOf r1).1, .int .i64 (faultOf r1).2]) rfl rfl HX.out rfl (by kernel_rfl) (by simp) (by simp [Value.oneCell']) ?_; intro w5 hrow hgr; have n1_ := Aside0.mk ((HS.out.below (pw_below_grown HB.out (some gx) HB.out.size hgr (fun k hk => by injection hk with hk; have := HG.out; omega))).and (Held.row (cs := [.int .i64 (faultOf r1).1, .int .i64 (faultOf r1).2]) hrow)); clear HS HX HB HG hrow hgr; have HS := n1_; clear n1_)
        | (go_at_call 23; have hcall := (decode_calls w5 (some ⟨g2, 0, none⟩) (b2.length + 2) b2 (lent_C (r := [171, 172]) HS.out.at_.1.1.2 (by have := HL2.out; omega)) (by omega) (by have := HL2.out; omega) HY2.out r2 HD2.out); (with_reducible refine hcall.mono ?_); clear hcall; rintro xx w6 ⟨hdec, hb⟩; obtain ⟨vb, rfl, hvb⟩ := hdec.one; obtain ⟨Ab, cb, rfl⟩ := own_len hvb; have HSB := Aside0.mk (show g1 < w5.heap.size ∧ ∀ k, (Value.slice Aa (insOf r1).length ca).ownBlock = some k → k < w5.heap.size from ⟨HS.out.at_.1.1.1.2.lt, fun k hk => own_lt HS.out.at_.1.2 k hk⟩); have n1_ := Aside0.mk ((HS.out.below hb).and ((Held.own hvb).and (Held.size hb.size))); clear HS hdec hvb hb; have HS := n1_; clear n1_)
        | ((with_reducible refine gate_dst (N := 10) rfl ?_); refine box_event (N := 10) rfl rfl (cs := #[.int .i64 0, .int .i64 0]) (t := 42) ?hr2 ?_; (case hr2 => first | (go_simp; done) | (go_simp; rfl)); intro gx hgx w7 hbox hb; have HX := Aside0.mk (show RowAt w7 gx 42 [.int .i64 0, .int .i64 0] from ⟨_, hbox, rfl⟩); have HB := Aside0.mk (show Below w6.heap.size w6 w7 from hb); have HG := Aside0.mk (show w6.heap.size ≤ gx by omega); clear hbox hb hgx)
        | ((with_reducible refine gate_store (t := 42) (p := 10) rfl ?_); refine put_event rfl rfl 42 (.tmp 10) (.tmp 39) rfl (off := 0) (u := .agg #[.int .i64 (faultOf r2).1, .int .i64 (faultOf r2).2]) (seg := [.int .i64 (faultOf r2).1, .int .i64 (faultOf r2).2]) rfl rfl HX.out rfl (by kernel_rfl) (by simp) (by simp [Value.oneCell']) ?_; intro w8 hrow hgr; have n1_ := Aside0.mk ((HS.out.below (pw_below_grown HB.out (some gx) HB.out.size hgr (fun k hk => by injection hk with hk; have := HG.out; omega))).and (Held.row (cs := [.int .i64 (faultOf r2).1, .int .i64 (faultOf r2).2]) hrow)); clear HS HX HB HG hrow hgr; have HS := n1_; clear n1_)
        | (go_at_call 23; have hcall := (decode_calls w8 (some ⟨g1, 0, none⟩) (b1.length + 2) b1 (lent_C (r := [171, 172]) HS.out.at_.1.1.1.1.1.2 (by have := HL1.out; omega)) (by omega) (by have := HL1.out; omega) HY1.out r1 HD1.out); (with_reducible refine hcall.mono ?_); clear hcall; rintro xx w9 ⟨hdec, hb⟩; obtain ⟨vc, rfl, hvc⟩ := hdec.one; obtain ⟨Ac, cc, rfl⟩ := own_len hvc; have HSC := Aside0.mk (show g1 < w8.heap.size ∧ w5.heap.size ≤ w8.heap.size ∧ ∀ k, (Value.slice Ab (insOf r2).length cb).ownBlock = some k → w5.heap.size ≤ k ∧ k < w8.heap.size from ⟨HS.out.at_.1.1.1.1.1.2.lt, HS.out.at_.1.2.2, fun k hk => ⟨own_base HS.out.at_.1.2.1 k hk, own_lt HS.out.at_.1.2.1 k hk⟩⟩); have n1_ := Aside0.mk ((HS.out.below hb).and ((Held.own hvc).and (Held.size hb.size))); clear HS hdec hvc hb; have HS := n1_; clear n1_)
        | ((with_reducible refine gate_dst (N := 12) rfl ?_); refine box_event (N := 12) rfl rfl (cs := #[.int .i64 0, .int .i64 0]) (t := 42) ?hr2 ?_; (case hr2 => first | (go_simp; done) | (go_simp; rfl)); intro gx hgx w10 hbox hb; have HX := Aside0.mk (show RowAt w10 gx 42 [.int .i64 0, .int .i64 0] from ⟨_, hbox, rfl⟩); have HB := Aside0.mk (show Below w9.heap.size w9 w10 from hb); have HG := Aside0.mk (show w9.heap.size ≤ gx by omega); clear hbox hb hgx)
        | ((with_reducible refine gate_store (t := 42) (p := 12) rfl ?_); refine put_event rfl rfl 42 (.tmp 12) (.tmp 44) rfl (off := 0) (u := .agg #[.int .i64 (faultOf r1).1, .int .i64 (faultOf r1).2]) (seg := [.int .i64 (faultOf r1).1, .int .i64 (faultOf r1).2]) rfl rfl HX.out rfl (by kernel_rfl) (by simp) (by simp [Value.oneCell']) ?_; intro w11 hrow hgr; have n1_ := Aside0.mk ((HS.out.below (pw_below_grown HB.out (some gx) HB.out.size hgr (fun k hk => by injection hk with hk; have := HG.out; omega))).and (Held.row (cs := [.int .i64 (faultOf r1).1, .int .i64 (faultOf r1).2]) hrow)); clear HS HX HB HG hrow hgr; have HS := n1_; clear n1_)
        | (go_at_call 24; have hcall := (refdecode_calls w11 A1 c1 b1 (Kd.C_below HR1.out HS.out.at_.1.1.1.1.1.1.1.1) HC1.out (by have := HL1.out; omega) HY1.out r1 HD1.out); (with_reducible refine hcall.mono ?_); clear hcall; rintro xx w12 ⟨hdec, hb⟩; obtain ⟨vp, rfl, hvp⟩ := hdec.one; obtain ⟨Ap, cp, rfl⟩ := own_len hvp; have HSP := Aside0.mk (show g1 < w11.heap.size from HS.out.at_.1.1.1.1.1.1.1.2.lt); have n1_ := Aside0.mk ((HS.out.below hb).and (Held.own hvp)); clear HS hdec hvp hb; have HS := n1_; clear n1_)
        | ((with_reducible refine gate_dst (N := 14) rfl ?_); refine box_event (N := 14) rfl rfl (cs := #[.int .i64 0, .int .i64 0]) (t := 46) ?hr2 ?_; (case hr2 => first | (go_simp; done) | (go_simp; rfl)); intro gx hgx w13 hbox hb; have HX := Aside0.mk (show RowAt w13 gx 46 [.int .i64 0, .int .i64 0] from ⟨_, hbox, rfl⟩); have HB := Aside0.mk (show Below w12.heap.size w12 w13 from hb); have HG := Aside0.mk (show w12.heap.size ≤ gx by omega); clear hbox hb hgx)
        | ((with_reducible refine gate_store (t := 46) (p := 14) rfl ?_); refine put_event rfl rfl 46 (.tmp 14) (.tmp 49) rfl (off := 0) (u := .agg #[.int .i64 (faultOf r1).1, .int .i64 (faultOf r1).2]) (seg := [.int .i64 (faultOf r1).1, .int .i64 (faultOf r1).2]) rfl rfl HX.out rfl (by kernel_rfl) (by simp) (by simp [Value.oneCell']) ?_; intro w14 hrow hgr; have n1_ := Aside0.mk ((HS.out.below (pw_below_grown HB.out (some gx) HB.out.size hgr (fun k hk => by injection hk with hk; have := HG.out; omega))).and (Held.row (cs := [.int .i64 (faultOf r1).1, .int .i64 (faultOf r1).2]) hrow)); clear HS HX HB HG hrow hgr; have HS := n1_; clear n1_)
        | (go_at_call 24; have hcall := (refdecode_calls w14 A2 c2 b2 (Kd.C_below HR2.out HS.out.at_.1.1.1.1.1.1.1.1.1.1) HC2.out (by have := HL2.out; omega) HY2.out r2 HD2.out); (with_reducible refine hcall.mono ?_); clear hcall; rintro xx w15 ⟨hdec, hb⟩; obtain ⟨vq, rfl, hvq⟩ := hdec.one; obtain ⟨Aq, cq, rfl⟩ := own_len hvq; have n1_ := Aside0.mk ((HS.out.below hb).and (Held.own hvq)); clear HS hdec hvq hb; have HS := n1_; clear n1_)
        | ((with_reducible refine gate_dst (N := 16) rfl ?_); refine box_event (N := 16) rfl rfl (cs := #[.int .i64 0, .int .i64 0]) (t := 46) ?hr2 ?_; (case hr2 => first | (go_simp; done) | (go_simp; rfl)); intro gx hgx w16 hbox hb; have HX := Aside0.mk (show RowAt w16 gx 46 [.int .i64 0, .int .i64 0] from ⟨_, hbox, rfl⟩); have HB := Aside0.mk (show Below w15.heap.size w15 w16 from hb); have HG := Aside0.mk (show w15.heap.size ≤ gx by omega); clear hbox hb hgx)
        | (((with_reducible refine gate_store (t := 46) (p := 16) rfl ?_); refine put_event rfl rfl 46 (.tmp 16) (.tmp 54) rfl (off := 0) (u := .agg #[.int .i64 (faultOf r2).1, .int .i64 (faultOf r2).2]) (seg := [.int .i64 (faultOf r2).1, .int .i64 (faultOf r2).2]) rfl rfl HX.out rfl (by kernel_rfl) (by simp) (by simp [Value.oneCell']) ?_; intro w17 hrow hgr; have n1_ := Aside0.mk ((HS.out.below (pw_below_grown HB.out (some gx) HB.out.size hgr (fun k hk => by injection hk with hk; have := HG.out; omega))).and (Held.row (cs := [.int .i64 (faultOf r2).1, .int .i64 (faultOf r2).2]) hrow)); clear HS HX HB HG hrow hgr; have HS := n1_; clear n1_); obtain ⟨⟨⟨⟨⟨⟨⟨⟨⟨⟨⟨⟨hold, hr1⟩, hr2⟩, ha⟩, h8⟩, ⟨hb, hsz⟩⟩, h10⟩, ⟨hc, hsz2⟩⟩, h12⟩, hp⟩, h14⟩, hq⟩, h16⟩ := HS.out.at_; have e80 := (h8.cell 0).trans (show _ = some (.int .i64 (faultOf r1).1) from rfl); have e81 := (h8.cell 1).trans (show _ = some (.int .i64 (faultOf r1).2) from rfl); have e100 := (h10.cell 0).trans (show _ = some (.int .i64 (faultOf r2).1) from rfl); have e101 := (h10.cell 1).trans (show _ = some (.int .i64 (faultOf r2).2) from rfl); have e140 := (h14.cell 0).trans (show _ = some (.int .i64 (faultOf r1).1) from rfl); have e141 := (h14.cell 1).trans (show _ = some (.int .i64 (faultOf r1).2) from rfl); have e160 := (h16.cell 0).trans (show _ = some (.int .i64 (faultOf r2).1) from rfl); have e161 := (h16.cell 1).trans (show _ = some (.int .i64 (faultOf r2).2) from rfl); clear hold hr1 hr2 ha h8 hb hsz h10 hc hsz2 h12 hp h14 hq h16)
        | (go_at_call 25; have hcall := (same_lit (faultOf r1) w17); (with_reducible refine hcall.mono ?_); clear hcall; rintro xx w18 ⟨rfl, hb⟩; have n1_ := Aside0.mk (HS.out.below hb); clear HS e80 e81 e100 e101 e140 e141 e160 e161; have HS := n1_; clear n1_; obtain ⟨⟨⟨⟨⟨⟨⟨⟨⟨⟨⟨⟨hold, hr1⟩, hr2⟩, ha⟩, h8⟩, ⟨hb, hsz⟩⟩, h10⟩, ⟨hc, hsz2⟩⟩, h12⟩, hp⟩, h14⟩, hq⟩, h16⟩ := HS.out.at_; have e80 := (h8.cell 0).trans (show _ = some (.int .i64 (faultOf r1).1) from rfl); have e81 := (h8.cell 1).trans (show _ = some (.int .i64 (faultOf r1).2) from rfl); have e100 := (h10.cell 0).trans (show _ = some (.int .i64 (faultOf r2).1) from rfl); have e101 := (h10.cell 1).trans (show _ = some (.int .i64 (faultOf r2).2) from rfl); have e140 := (h14.cell 0).trans (show _ = some (.int .i64 (faultOf r1).1) from rfl); have e141 := (h14.cell 1).trans (show _ = some (.int .i64 (faultOf r1).2) from rfl); have e160 := (h16.cell 0).trans (show _ = some (.int .i64 (faultOf r2).1) from rfl); have e161 := (h16.cell 1).trans (show _ = some (.int .i64 (faultOf r2).2) from rfl); clear hold hr1 hr2 ha h8 hb hsz h10 hc hsz2 h12 hp h14 hq h16; clear hb)
        | (go_at_call 25; have hcall := (same_lit (faultOf r2) w18); (with_reducible refine hcall.mono ?_); clear hcall; rintro xx w19 ⟨rfl, hb⟩; have n1_ := Aside0.mk (HS.out.below hb); clear HS e80 e81 e100 e101 e140 e141 e160 e161; have HS := n1_; clear n1_; obtain ⟨⟨⟨⟨⟨⟨⟨⟨⟨⟨⟨⟨hold, hr1⟩, hr2⟩, ha⟩, h8⟩, ⟨hb, hsz⟩⟩, h10⟩, ⟨hc, hsz2⟩⟩, h12⟩, hp⟩, h14⟩, hq⟩, h16⟩ := HS.out.at_; have e80 := (h8.cell 0).trans (show _ = some (.int .i64 (faultOf r1).1) from rfl); have e81 := (h8.cell 1).trans (show _ = some (.int .i64 (faultOf r1).2) from rfl); have e100 := (h10.cell 0).trans (show _ = some (.int .i64 (faultOf r2).1) from rfl); have e101 := (h10.cell 1).trans (show _ = some (.int .i64 (faultOf r2).2) from rfl); have e140 := (h14.cell 0).trans (show _ = some (.int .i64 (faultOf r1).1) from rfl); have e141 := (h14.cell 1).trans (show _ = some (.int .i64 (faultOf r1).2) from rfl); have e160 := (h16.cell 0).trans (show _ = some (.int .i64 (faultOf r2).1) from rfl); have e161 := (h16.cell 1).trans (show _ = some (.int .i64 (faultOf r2).2) from rfl); clear hold hr1 hr2 ha h8 hb hsz h10 hc hsz2 h12 hp h14 hq h16; clear hb)
        | (go_at_call 26; have hcall := (inss_lit Aa ca Ap cp (insOf r1) w19 (ins_C HS.out.at_.1.1.1.1.1.1.1.1.1.2 (by have := HN1.out; omega)).2 (ins_C HS.out.at_.1.1.1.1.1.1.1.1.1.2 (by have := HN1.out; omega)).1 (ins_C HS.out.at_.1.1.1.2 (by have := HN1.out; omega)).2 (ins_C HS.out.at_.1.1.1.2 (by have := HN1.out; omega)).1 (by have := HN1.out; omega)); (with_reducible refine hcall.mono ?_); clear hcall; rintro xx w20 ⟨rfl, hd⟩; have n1_ := Aside0.mk (HS.out.below hd.below); clear HS e80 e81 e100 e101 e140 e141 e160 e161; have HS := n1_; clear n1_; obtain ⟨⟨⟨⟨⟨⟨⟨⟨⟨⟨⟨⟨hold, hr1⟩, hr2⟩, ha⟩, h8⟩, ⟨hb, hsz⟩⟩, h10⟩, ⟨hc, hsz2⟩⟩, h12⟩, hp⟩, h14⟩, hq⟩, h16⟩ := HS.out.at_; have e80 := (h8.cell 0).trans (show _ = some (.int .i64 (faultOf r1).1) from rfl); have e81 := (h8.cell 1).trans (show _ = some (.int .i64 (faultOf r1).2) from rfl); have e100 := (h10.cell 0).trans (show _ = some (.int .i64 (faultOf r2).1) from rfl); have e101 := (h10.cell 1).trans (show _ = some (.int .i64 (faultOf r2).2) from rfl); have e140 := (h14.cell 0).trans (show _ = some (.int .i64 (faultOf r1).1) from rfl); have e141 := (h14.cell 1).trans (show _ = some (.int .i64 (faultOf r1).2) from rfl); have e160 := (h16.cell 0).trans (show _ = some (.int .i64 (faultOf r2).1) from rfl); have e161 := (h16.cell 1).trans (show _ = some (.int .i64 (faultOf r2).2) from rfl); clear hold hr1 hr2 ha h8 hb hsz h10 hc hsz2 h12 hp h14 hq h16; clear hd)
        | (go_at_call 26; have hcall := (inss_lit Ab cb Aq cq (insOf r2) w20 (ins_C HS.out.at_.1.1.1.1.1.1.1.2.1 (by have := HN2.out; omega)).2 (ins_C HS.out.at_.1.1.1.1.1.1.1.2.1 (by have := HN2.out; omega)).1 (ins_C HS.out.at_.1.2 (by have := HN2.out; omega)).2 (ins_C HS.out.at_.1.2 (by have := HN2.out; omega)).1 (by have := HN2.out; omega)); (with_reducible refine hcall.mono ?_); clear hcall; rintro xx w21 ⟨rfl, hd⟩; have n1_ := Aside0.mk (HS.out.below hd.below); clear HS e80 e81 e100 e101 e140 e141 e160 e161; have HS := n1_; clear n1_; obtain ⟨⟨⟨⟨⟨⟨⟨⟨⟨⟨⟨⟨hold, hr1⟩, hr2⟩, ha⟩, h8⟩, ⟨hb, hsz⟩⟩, h10⟩, ⟨hc, hsz2⟩⟩, h12⟩, hp⟩, h14⟩, hq⟩, h16⟩ := HS.out.at_; have e80 := (h8.cell 0).trans (show _ = some (.int .i64 (faultOf r1).1) from rfl); have e81 := (h8.cell 1).trans (show _ = some (.int .i64 (faultOf r1).2) from rfl); have e100 := (h10.cell 0).trans (show _ = some (.int .i64 (faultOf r2).1) from rfl); have e101 := (h10.cell 1).trans (show _ = some (.int .i64 (faultOf r2).2) from rfl); have e140 := (h14.cell 0).trans (show _ = some (.int .i64 (faultOf r1).1) from rfl); have e141 := (h14.cell 1).trans (show _ = some (.int .i64 (faultOf r1).2) from rfl); have e160 := (h16.cell 0).trans (show _ = some (.int .i64 (faultOf r2).1) from rfl); have e161 := (h16.cell 1).trans (show _ = some (.int .i64 (faultOf r2).2) from rfl); clear hold hr1 hr2 ha h8 hb hsz h10 hc hsz2 h12 hp h14 hq h16; clear hd)
        | (go_at_call 26; have hcall := (inss_lit Ac cc Ap cp (insOf r1) w21 (ins_C HS.out.at_.1.1.1.1.1.2.1 (by have := HN1.out; omega)).2 (ins_C HS.out.at_.1.1.1.1.1.2.1 (by have := HN1.out; omega)).1 (ins_C HS.out.at_.1.1.1.2 (by have := HN1.out; omega)).2 (ins_C HS.out.at_.1.1.1.2 (by have := HN1.out; omega)).1 (by have := HN1.out; omega)); (with_reducible refine hcall.mono ?_); clear hcall; rintro xx w22 ⟨rfl, hd⟩; have n1_ := Aside0.mk (HS.out.below hd.below); clear HS e80 e81 e100 e101 e140 e141 e160 e161; have HS := n1_; clear n1_; obtain ⟨⟨⟨⟨⟨⟨⟨⟨⟨⟨⟨⟨hold, hr1⟩, hr2⟩, ha⟩, h8⟩, ⟨hb, hsz⟩⟩, h10⟩, ⟨hc, hsz2⟩⟩, h12⟩, hp⟩, h14⟩, hq⟩, h16⟩ := HS.out.at_; have e80 := (h8.cell 0).trans (show _ = some (.int .i64 (faultOf r1).1) from rfl); have e81 := (h8.cell 1).trans (show _ = some (.int .i64 (faultOf r1).2) from rfl); have e100 := (h10.cell 0).trans (show _ = some (.int .i64 (faultOf r2).1) from rfl); have e101 := (h10.cell 1).trans (show _ = some (.int .i64 (faultOf r2).2) from rfl); have e140 := (h14.cell 0).trans (show _ = some (.int .i64 (faultOf r1).1) from rfl); have e141 := (h14.cell 1).trans (show _ = some (.int .i64 (faultOf r1).2) from rfl); have e160 := (h16.cell 0).trans (show _ = some (.int .i64 (faultOf r2).1) from rfl); have e161 := (h16.cell 1).trans (show _ = some (.int .i64 (faultOf r2).2) from rfl); clear hold hr1 hr2 ha h8 hb hsz h10 hc hsz2 h12 hp h14 hq h16; clear hd)
        | (go_at_call 27; have hcall := (kept_calls w22 g1 A1 c1 b1 HS.out.at_.1.1.1.1.1.1.1.1.1.1.1.2 (Kd.C_below HR1.out HS.out.at_.1.1.1.1.1.1.1.1.1.1.1.1) HC1.out (by have := HL1.out; omega)); (with_reducible refine hcall.mono ?_); clear hcall; rintro xx w23 ⟨rfl, hd⟩; have n1_ := Aside0.mk (HS.out.below hd.below); clear HS e80 e81 e100 e101 e140 e141 e160 e161; have HS := n1_; clear n1_; obtain ⟨⟨⟨⟨⟨⟨⟨⟨⟨⟨⟨⟨hold, hr1⟩, hr2⟩, ha⟩, h8⟩, ⟨hb, hsz⟩⟩, h10⟩, ⟨hc, hsz2⟩⟩, h12⟩, hp⟩, h14⟩, hq⟩, h16⟩ := HS.out.at_; have e80 := (h8.cell 0).trans (show _ = some (.int .i64 (faultOf r1).1) from rfl); have e81 := (h8.cell 1).trans (show _ = some (.int .i64 (faultOf r1).2) from rfl); have e100 := (h10.cell 0).trans (show _ = some (.int .i64 (faultOf r2).1) from rfl); have e101 := (h10.cell 1).trans (show _ = some (.int .i64 (faultOf r2).2) from rfl); have e140 := (h14.cell 0).trans (show _ = some (.int .i64 (faultOf r1).1) from rfl); have e141 := (h14.cell 1).trans (show _ = some (.int .i64 (faultOf r1).2) from rfl); have e160 := (h16.cell 0).trans (show _ = some (.int .i64 (faultOf r2).1) from rfl); have e161 := (h16.cell 1).trans (show _ = some (.int .i64 (faultOf r2).2) from rfl); clear hold hr1 hr2 ha h8 hb hsz h10 hc hsz2 h12 hp h14 hq h16; clear hd)
        | (go_at_call 27; have hcall := (kept_calls w23 g2 A2 c2 b2 HS.out.at_.1.1.1.1.1.1.1.1.1.1.2 (Kd.C_below HR2.out HS.out.at_.1.1.1.1.1.1.1.1.1.1.1.1) HC2.out (by have := HL2.out; omega)); (with_reducible refine hcall.mono ?_); clear hcall; rintro xx w24 ⟨rfl, hd⟩; have n1_ := Aside0.mk (HS.out.below hd.below); clear HS e80 e81 e100 e101 e140 e141 e160 e161; have HS := n1_; clear n1_; obtain ⟨⟨⟨⟨⟨⟨⟨⟨⟨⟨⟨⟨hold, hr1⟩, hr2⟩, ha⟩, h8⟩, ⟨hb, hsz⟩⟩, h10⟩, ⟨hc, hsz2⟩⟩, h12⟩, hp⟩, h14⟩, hq⟩, h16⟩ := HS.out.at_; have e80 := (h8.cell 0).trans (show _ = some (.int .i64 (faultOf r1).1) from rfl); have e81 := (h8.cell 1).trans (show _ = some (.int .i64 (faultOf r1).2) from rfl); have e100 := (h10.cell 0).trans (show _ = some (.int .i64 (faultOf r2).1) from rfl); have e101 := (h10.cell 1).trans (show _ = some (.int .i64 (faultOf r2).2) from rfl); have e140 := (h14.cell 0).trans (show _ = some (.int .i64 (faultOf r1).1) from rfl); have e141 := (h14.cell 1).trans (show _ = some (.int .i64 (faultOf r1).2) from rfl); have e160 := (h16.cell 0).trans (show _ = some (.int .i64 (faultOf r2).1) from rfl); have e161 := (h16.cell 1).trans (show _ = some (.int .i64 (faultOf r2).2) from rfl); clear hold hr1 hr2 ha h8 hb hsz h10 hc hsz2 h12 hp h14 hq h16; clear hd))
      have n1_ := Aside0.mk (show PL w g1 b1.length w2.heap.size w5.heap.size w8.heap.size w11.heap.size (.slice Aa (insOf r1).length ca) (.slice Ab (insOf r2).length cb) (.slice Ac (insOf r1).length cc) (.slice Ap (insOf r1).length cp) (insOf r1) (insOf r2) w24 from ⟨HS.out.at_.1.1.1.1.1.1.1.1.1.1.1.1, ⟨_, HS.out.at_.1.1.1.1.1.1.1.1.1.1.1.2, by simp⟩, HS.out.at_.1.1.1.1.1.1.1.1.1.2, HS.out.at_.1.1.1.1.1.1.1.2.1, HS.out.at_.1.1.1.1.1.2.1, HS.out.at_.1.1.1.2, HS.out.at_.1.1.1.1.1.2.2⟩)
      clear HS e80 e81 e100 e101 e140 e141 e160 e161
      have HP := n1_
      clear n1_
      go_loopw [17] (fun v17 wr => ∃ (i : Nat), v17 = .int .i64 i ∧ Aside0 (i ≤ b1.length) ∧ Aside0 (PL w g1 b1.length w2.heap.size w5.heap.size w8.heap.size w11.heap.size (.slice Aa (insOf r1).length ca) (.slice Ab (insOf r2).length cb) (.slice Ac (insOf r1).length cc) (.slice Ap (insOf r1).length cp) (insOf r1) (insOf r2) wr)) (fun v17 _ => b1.length - (intOf v17).toNat)
      case atStart => exact ⟨0, rfl, ⟨Nat.zero_le _⟩, HP⟩
      case round =>
        clear HP
        obtain ⟨i, rfl, HI, HP⟩ := hrel
        have ib : (i : Int) ≤ 8388608 := by have := HI.out; have := HL1.out; omega
        by_cases c17 : i < b1.length
        · have k17 : decide ((i : Int) < (b1.length : Int)) = true := decide_eq_true (by omega)
          have hix : ∀ W : World, (Instr.indexAt 37 (.slice (some ⟨g1, 0, none⟩) b1.length (b1.length + 2)) (.int .i64 (i : Int))).run Try.prog W = .ok (.pointer (some ⟨g1, i, none⟩)) W := fun W => by
            have := run_indexAt_own (P := Try.prog) (t := 37) (size := 1) Try.underlying37 (fun W => by kernel_rfl) g1 b1.length (b1.length + 2) i c17 W
            rwa [Nat.mul_one] at this
          go_wp2_with (first
            | ((with_reducible refine gate_store (t := 5) (p := 103) rfl ?_); obtain ⟨cs, hrow, hlen⟩ := HP.out.row; refine put_event rfl rfl 5 (.tmp 103) (.const (.int .u8 77)) rfl (g := g1) (off := i) (u := .int .u8 77) (seg := [.int .u8 77]) rfl rfl hrow rfl (by kernel_rfl) (by simp; omega) (by simp [Value.oneCell']) ?_; intro w26 hrow2 hgr; have n1_ := Aside0.mk (HP.out.put HG1.out ⟨HSA.out, HSB.out.1, HSC.out.1, HSP.out⟩ hrow2 (by simp; omega) hgr); clear HP hrow hlen hrow2 hgr; have HP := n1_; clear n1_))
          go_roundw
          case measure => simp [intOf]; omega
          case rel => exact ⟨i + 1, by go_num, ⟨by omega⟩, HP⟩
        · have k17 : decide ((i : Int) < (b1.length : Int)) = false := decide_eq_false (by omega)
          go_wp2_with (first
            | (go_at_call 26; have hcall := (inss_lit Aa ca Ap cp (insOf r1) wr (ins_C HP.out.a (by have := HN1.out; omega)).2 (ins_C HP.out.a (by have := HN1.out; omega)).1 (ins_C HP.out.p (by have := HN1.out; omega)).2 (ins_C HP.out.p (by have := HN1.out; omega)).1 (by have := HN1.out; omega)); (with_reducible refine hcall.mono ?_); clear hcall; rintro xx w27 ⟨rfl, hd⟩; have n1_ := Aside0.mk (HP.out.below hd.below); clear HP hd; have HP := n1_; clear n1_)
            | (go_at_call 28; have hg1 := HG1.out; have hsa := HSA.out; have hsb := HSB.out; have hsc := HSC.out; have hsz := HP.out.sz; have hf := F1.start (base := w.heap.size) (gl := w27.heap.size) (s1 := w5.heap.size) (s2 := w8.heap.size) (W := w27.alloc (.cells #[.slice Aa (insOf r1).length ca, .slice Ab (insOf r2).length cb, .slice Ac (insOf r1).length cc] 39)) (by have := HP.out.old.size; simp; omega) ⟨_, heap_alloc_new _ _, rfl⟩ (own_less (HP.out.a.alloc _) (by omega)) (own_less (HP.out.b.alloc _) (by omega)) (own_less (HP.out.c.alloc _) (by omega)) rfl rfl rfl hsc.2.1 hsz hsb.2 hsc.2.2 (fun k hk => ⟨own_base HP.out.c k hk, own_lt HP.out.c k hk⟩); have hcall := free_calls w.heap.size w27.heap.size _ _ _ _ _ _ hf (pick3_le (by have := HN1.out; omega) (by have := HN2.out; omega) (by have := HN1.out; omega)); clear hg1 hsa hsb hsc hsz hf; refine hcall.mono ?_; clear hcall; rintro xx w28 ⟨rfl, hb⟩; have HE := Aside0.mk (HP.out.old.trans ((below_alloc (Below.refl w27.heap.size w27) _ |>.mono HP.out.old.size).trans hb)); clear hb))
          go_ret
          exact ⟨rfl, HE.out⟩
end
theorem decodes_row (A1 : Option Addr) (c1 : Nat) (l1 : List Int) (A2 : Option Addr) (c2 : Nat) (l2 : List Int) (w : World) (hC1 : Kd.C (Kd.int .u8) w A1 l1.length l1) (hl1 : l1.length ≤ c1) (ho1 : BytesOk l1) (hC2 : Kd.C (Kd.int .u8) w A2 l2.length l2) (hl2 : l2.length ≤ c2) (ho2 : BytesOk l2) :
    Calls Try.prog 5 #[.slice A1 l1.length c1, .slice A2 l2.length c2] w fun x w' => x = .returned (.bool true) ∧ Below w.heap.size w w' :=
  decodes_calls w A1 A2 c1 c2 l1 l2 hC1 hl1 ho1.1 ho1.2 hC2 hl2 ho2.1 ho2.2
end Go.Proofs.Ytebiogaacikphaa.Pack
end
section
namespace Go.Proofs.Ytebiogaacikphaa.packDecodes
open Go.ChangeShapes Go.WideShapes Go.ChangeAt Go.RowKit Go.Proofs.YtebiogaacikphaaW.PrintWords Go.Proofs.Ytebiogaacikphaa.Pack Go.Proofs.Ytebiogaacikphaa.PAll
set_option linter.unusedVariables false
theorem own : ownKnob Try.prog.godebug = none := by kernel_rfl
theorem laidOut : laidOutB Try.prog = true := by kernel_rfl
set_option maxRecDepth 100000 in
theorem lifted (os : Os) (started : os.Started) (H : Type) (enc : TypeId × Value → H) :
    ReturnsInHanded {} Try.checked os 5 .any (Rows.packDecodesSpec.pre6 enc Try.prog Try.f5 Rows.packDecodesRow.domain false) (Rows.packDecodesSpec.post enc Try.prog Try.f5 false true false false) := by
  refine returnsInHanded_of_change_sized (C := Try.checked) own started (by kernel_rfl) Try.func5
    (ChangeSpec.witness6 (enc := enc) (C := Try.checked) false ⟨#[], #[.slice none 0 0, .slice none 0 0], []⟩ 8 (by kernel_rfl) (by kernel_rfl) (by kernel_rfl) (by kernel_rfl)) ?_
  intro W base args ds gs before hval0 hW hcnd hsz0 _
  have hsz : (DataW.weightsEach Try.prog (Try.f5.params.toList ++ Rows.packDecodesSpec.plain.varTypes Try.prog) (ds ++ gs)).all (· ≤ reachBytes) = true := hsz0
  have hval : ∀ (j : Nat) t v, Try.f5.params[j]? = some t → args[j]? = some v → Value.okWide Try.prog W .any base t v := hval0
  have hW' := hW
  obtain ⟨p, q, hA0, hV, rfl, hfz, hnd⟩ := hW
  have hA : DataW.TrodAll enc Try.prog W 0 (fun _ => true) true Try.f5.params.toList args.toList ds p := hA0
  rw [Try.params5] at hA hval hsz
  obtain ⟨v0, vs0, d0, ds0, p0, q0, hargs, rfl, rfl, h0, r0⟩ := trodAll_cons hA
  obtain ⟨v1, vs1, d1, ds1, p1, q1, rfl, rfl, rfl, h1, r1⟩ := trodAll_cons r0
  obtain ⟨rfl, rfl, rfl⟩ := trodAll_nil r1
  obtain rfl : args = #[v0, v1] := by cases args; simp_all
  obtain ⟨rfl, rfl⟩ := trodVars_none hV
  obtain ⟨A0, c0, l0, rfl, hC0, hl0, ho0⟩ := open_bytes (hval 0 37 v0 rfl rfl) h0 (fun n hn => of_decide_eq_true (List.all_eq_true.1 hsz n (DataW.weights_mem_each (j := 0) rfl rfl n hn)))
  have lt0 : ∀ x ∈ p0, x.block < W.heap.size := by obtain ⟨m, hm⟩ := h0; exact DataW.trod_lt m _ _ _ hm
  obtain ⟨A1, c1, l1, rfl, hC1, hl1, ho1⟩ := open_bytes (hval 1 37 v1 rfl rfl) h1 (fun n hn => of_decide_eq_true (List.all_eq_true.1 hsz n (DataW.weights_mem_each (j := 1) rfl rfl n hn)))
  have lt1 : ∀ x ∈ p1, x.block < W.heap.size := by obtain ⟨m, hm⟩ := h1; exact DataW.trod_lt m _ _ _ hm
  clear hA0 hval0 hsz0 hsz
  refine (decodes_row A0 c0 l0 A1 c1 l1 W hC0 hl0 ho0 hC1 hl1 ho1).mono fun e W' ⟨he, bel⟩ => ?_
  subst he
  exact ⟨_, rfl, _, _, _, [], _, [], hW', trodAll_mk1 (shut_bool Try.underlying4 _), (trodAll_cons_mk (Below.trod laidOut (by kernel_rfl) (of_decide_eq_true (by kernel_rfl)) h0 bel lt0) (trodAll_cons_mk (Below.trod laidOut (by kernel_rfl) (of_decide_eq_true (by kernel_rfl)) h1 bel lt1) trodAll_mk0)), rfl, bel.frame _, fun h => by cases h⟩
theorem over : Rows.packDecodesRow.holds Try.pinned (OpenSpec.ofChange Rows.packDecodesSpec) :=
  OpenClaim.holds_of_wide 5 Try.f5 rfl rfl rfl rfl rfl rfl rfl ⟨rfl, rfl, rfl, rfl, rfl⟩ rfl rfl rfl rfl rfl (by kernel_rfl) Try.func5 (by kernel_rfl)
    (of_decide_eq_true (by kernel_rfl)) (by unfold Func.isWrapper; first | (rw [if_pos (by decide +kernel)]; kernel_rfl) | (rw [if_neg (by decide +kernel)]; exact ⟨rfl, rfl⟩))
    (fun os started H enc _ => lifted os started H enc)
theorem proved : Rows.PackDecodesSaid := over
end Go.Proofs.Ytebiogaacikphaa.packDecodes
end
