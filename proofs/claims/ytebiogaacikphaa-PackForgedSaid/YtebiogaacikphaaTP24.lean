/- Proves that the Go function dowellaw20.PackForged returns true for every input, and leaves its arguments as they read. No condition beyond the row's own. -/
import Derived.Below
import Derived.Carry
import Derived.ChangeOld
import Derived.OpenShut
import Derived.ProofKit
import Derived.ShutString
import Derived.SizedLaws
import Derived.Test.YtebiogaacikphaaRows
import Derived.WalkKit
import Derived.Test.YtebiogaacikphaaTP23
section
namespace Go.Proofs.Ytebiogaacikphaa.Pack
open Go.RowKit Go.Proofs.YtebiogaacikphaaW.PrintWords Go.Proofs.Ytebiogaacikphaa.PAll
set_option linter.unusedVariables false
set_option linter.unusedSimpArgs false
theorem bytes_reads {W : World} {base : Nat} {v : Value} {l : List Int} (h : W.ownsRow base 5 1 v l.length (nums .u8 l)) (hl : l.length ≤ 9223372036854775807) : ∃ A c, v = .slice A l.length c ∧ l.length ≤ c ∧ Kd.C (Kd.int .u8) W A l.length l := by
  rcases h.2 with ⟨hv, h0⟩ | ⟨g, cap, cur, hv, h1, h2, h3, h4, h5, h6⟩
  · exact ⟨none, 0, by rw [hv, h0], by omega, ⟨rfl, hl, fun hp => absurd hp (by omega)⟩⟩
  · refine ⟨some ⟨g, 0, none⟩, cap, hv, h3, ?_⟩
    refine Kd.C_of_reads (d := (0 : Int)) (enc := Value.int .u8) (h1 := fun _ => rfl) ⟨rfl, hl, fun _ => ⟨_, rfl, fun j hj => ?_⟩⟩
    have := h.cells (g := g) (by rw [hv]; rfl) j (.int .u8 l[j]) (by rw [nums, List.getElem?_map, List.getElem?_eq_getElem hj]; rfl)
    rw [this, List.getD_eq_getElem?_getD, List.getElem?_eq_getElem hj]
    rfl
theorem drawn_owns {w w' : World} {base : Nat} {e : TypeId} {size : Nat} {v : Value} {n : Nat} {xs : List Value} (h : Drawn0 w w') (ho : w.ownsRow base e size v n xs) : w'.ownsRow base e size v n xs := by
  obtain ⟨n, rfl⟩ := h
  induction n with
  | zero => exact ho
  | succ n ih => rw [← World.drew_drewN]; exact ih.drew
theorem own_C {w : World} {base : Nat} {A : Option Addr} {c : Nat} {l : List Int} (h : w.ownsRow base 5 1 (.slice A l.length c) l.length (nums .u8 l)) (hl : l.length ≤ 9223372036854775807) : l.length ≤ c ∧ Kd.C (Kd.int .u8) w A l.length l := by
  obtain ⟨A1, c1, h1, h2, h3⟩ := bytes_reads h hl
  obtain ⟨rfl, rfl⟩ : A = A1 ∧ c = c1 := by cases h1; exact ⟨rfl, rfl⟩
  exact ⟨h2, h3⟩
theorem bytes_ReadsInt {w : World} {A : Option Addr} {l : List Int} (h : Kd.C (Kd.int .u8) w A l.length l) : ReadsInt w .u8 A l.length l := Kd.reads_of_C (enc := Value.int .u8) (d := (0 : Int)) (h1 := fun _ => rfl) h
theorem row_bytes {w : World} {g : Nat} {l r : List Int} (h : RowAt w g 5 (l.map (Value.int .u8) ++ r.map (Value.int .u8))) (hl : l.length ≤ 9223372036854775807) : Kd.C (Kd.int .u8) w (some ⟨g, 0, none⟩) l.length l := by
  refine Kd.C_of_reads (d := (0 : Int)) (enc := Value.int .u8) (h1 := fun _ => rfl) ⟨rfl, hl, fun _ => ⟨_, rfl, fun j hj => ?_⟩⟩
  rw [show (⟨g, 0, none⟩ : Addr).add j = ⟨g, j, none⟩ from (by simp [Addr.add]; omega), h.cell j, List.getElem?_append_left (by simpa using hj), List.getElem?_map, List.getElem?_eq_getElem hj, List.getD_eq_getElem?_getD, List.getElem?_eq_getElem hj]
  rfl
theorem lit4_reads (w : World) (a b c d : Int) : ReadsInt (w.alloc (.cells #[.int .u8 a, .int .u8 b, .int .u8 c, .int .u8 d] 5)) .u8 (some ⟨w.heap.size, 0, none⟩) 4 [a, b, c, d] :=
  bytes_ReadsInt (l := [a, b, c, d]) (own_C (l := [a, b, c, d]) (World.ownsRow_lit (base := w.heap.size) (e := 5) (size := 1) w #[.int .u8 a, .int .u8 b, .int .u8 c, .int .u8 d] 4 (Nat.le_refl _) (by decide) rfl) (by simp)).2
/-- A frame that was made right. -/
def forge (l : List Int) : List Int := magicL ++ l ++ leN 4 (crcL (magicL ++ l))
theorem nums_leN (s : Int) (hs : 0 ≤ s ∧ s < 4294967296) : [s % 256, s / 256 % 256, s / 65536 % 256, s / 16777216 % 256] = leN 4 s := by
  simp only [leN, List.cons.injEq, and_true, true_and]
  omega
theorem forge_bytes {l : List Int} (h : ∀ x ∈ l, 0 ≤ x ∧ x < 256) : ∀ x ∈ forge l, 0 ≤ x ∧ x < 256 := by
  intro x hx
  unfold forge at hx
  rcases List.mem_append.1 hx with hx | hx
  · rcases List.mem_append.1 hx with hx | hx
    · have : ∀ y ∈ magicL, 0 ≤ y ∧ y < 256 := by decide
      exact this x hx
    · exact h x hx
  · exact leN_bytes _ _ x hx
section
variable (w : World) (A : Option Addr) (c : Nat) (b : List Int)
set_option maxHeartbeats 4000000 in
set_option maxRecDepth 100000 in
theorem forged_calls (hr : Kd.C (Kd.int .u8) w A b.length b) (hc : b.length ≤ c) (hl : b.length ≤ 140737488351232) (hby : ∀ x ∈ b, 0 ≤ x ∧ x < 256) :
    Calls Try.prog 6 #[.slice A b.length c] w fun x w' => x = .returned (.bool true) ∧ Below w.heap.size w w' := by
  have HR := Aside0.mk hr
  have HC := Aside0.mk hc
  have HY := Aside0.mk hby
  have HL := Aside0.mk hl
  clear hr hc
  by_cases big : 4194304 < b.length
  · have b1 : decide ((b.length : Int) > 4194304) = true := decide_eq_true (by omega)
    go_enter Try.func6, Try.ntmps6
    go_wp2
    go_ret
    exact ⟨rfl, Below.refl _ _⟩
  · have b1 : decide ((b.length : Int) > 4194304) = false := decide_eq_false (by omega)
    have hreads : ReadsInt (w.alloc (.cells #[.int .u8 100, .int .u8 111, .int .u8 119, .int .u8 108, .int .u8 1] 5)) .u8 A b.length b := (Kd.reads_of_C (enc := Value.int .u8) (d := (0 : Int)) (h1 := fun _ => rfl) HR.out : ReadsInt w .u8 A b.length b).below (below_alloc (Below.refl _ _) _)
    have hown0 : (w.alloc (.cells #[.int .u8 100, .int .u8 111, .int .u8 119, .int .u8 108, .int .u8 1] 5)).ownsRow w.heap.size 5 1 (.slice (some ⟨w.heap.size, 0, none⟩) 5 5) magicL.length (nums .u8 magicL) :=
      World.ownsRow_lit (base := w.heap.size) (e := 5) (size := 1) w #[.int .u8 100, .int .u8 111, .int .u8 119, .int .u8 108, .int .u8 1] 5 (Nat.le_refl _) (by decide) rfl
    obtain ⟨res, hres⟩ : ∃ res, decodeL (forge b) = res := ⟨_, rfl⟩
    have HN := Aside0.mk (show (insOf res).length ≤ 65536 from hres ▸ insOf_len (forge_bytes hby))
    have HY2 := Aside0.mk (fun (m2 m : List Int) (h2 : m2 = m ++ [crcL m % 256, crcL m / 256 % 256, crcL m / 65536 % 256, crcL m / 16777216 % 256]) (h1 : m = magicL ++ b) => show decodeL m2 = res ∧ ∀ x ∈ m2, 0 ≤ x ∧ x < 256 by rw [show m2 = forge b by rw [h2, nums_leN _ (by have := crc_range m; omega), h1]; rfl]; exact ⟨hres, forge_bytes hby⟩)
    have HOWN := Aside0.mk hown0
    have HRD := Aside0.mk hreads
    clear hown0 hreads hby
    go_enter Try.func6, Try.ntmps6
    go_wp2_with (first
      | ((with_reducible refine gate_builtin (b := .append) (xs := #[.tmp 12, .tmp 13]) rfl ?_); at_builtin; refine print_append_row w.heap.size rfl (.tmp 12) (.tmp 13) 37 5 .u8 1 rfl Try.underlying37 (by kernel_rfl) (by decide) _ magicL b A b.length c rfl rfl HOWN.out HRD.out (below_alloc (Below.refl _ _) _) (by simp) (by show (5 + b.length) * 1 ≤ _; omega) ?_; intro v1 w1 hown hbel hgr hat; obtain ⟨m, hm⟩ : ∃ m, m = magicL ++ b := ⟨_, rfl⟩; rw [← hm] at hown; obtain ⟨A1, c1, rfl, hc1, hr1⟩ := bytes_reads hown (by rw [hm, List.length_append]; show 5 + _ ≤ _; omega); have HM := Aside0.mk hm; have HML := Aside0.mk (show m.length = b.length + 5 by rw [hm, List.length_append, Nat.add_comm]; rfl); clear hm; have HB := Aside0.mk hbel; have HC1 := Aside0.mk hc1; have HO1 := Aside0.mk hown; have HR1 := Aside0.mk hr1; clear HOWN HRD hown hbel hgr hat hc1 hr1)
      | (go_at_call 29; refine (refsum_lit A1 c1 m _ HR1.out HC1.out (by have := HML.out; omega)).mono ?_; rintro xx w2 ⟨rfl, hd⟩; have HO2 := Aside0.mk (drawn_owns hd HO1.out); have HB2 := Aside0.mk (HB.out.trans (hd.below.mono HB.out.size)); clear HO1 HR1 HB hd)
      | ((with_reducible refine gate_builtin (b := .append) (xs := #[.tmp 17, .tmp 29]) rfl ?_); at_builtin; refine print_append_row w.heap.size rfl (.tmp 17) (.tmp 29) 37 5 .u8 1 rfl Try.underlying37 (by kernel_rfl) (by decide) _ m [crcL m % 256, crcL m / 256 % 256, crcL m / 65536 % 256, crcL m / 16777216 % 256] (some ⟨w2.heap.size, 0, none⟩) 4 4 rfl rfl (HO2.out.alloc _) (lit4_reads w2 _ _ _ _) (below_alloc HB2.out _) (by have := HB2.out.size; simp; omega) (by have := HML.out; omega) ?_; intro v3 w3 hown hbel hgr hat; obtain ⟨m2, hm2⟩ : ∃ m2, m2 = m ++ [crcL m % 256, crcL m / 256 % 256, crcL m / 65536 % 256, crcL m / 16777216 % 256] := ⟨_, rfl⟩; rw [← hm2] at hown; obtain ⟨A3, c3, rfl, hc3, hr3⟩ := bytes_reads hown (by rw [hm2, List.length_append]; have := HML.out; simp; omega); have HM2 := Aside0.mk hm2; have HML2 := Aside0.mk (show m2.length = b.length + 9 by rw [hm2, List.length_append]; have := HML.out; simp; omega); have HB3 := Aside0.mk hbel; have HC3 := Aside0.mk hc3; have HR3 := Aside0.mk hr3; clear HO2 HB2 hown hbel hgr hat hc3 hr3 hm2)
      | (go_at_call 22; refine (lend_calls _ A3 c3 m2 HR3.out HC3.out (by have := HML2.out; omega)).mono ?_; rintro xx w4 ⟨g, rfl, hrow, hb4, hg⟩; have HR4 := Aside0.mk (Kd.C_below HR3.out hb4); have HD4 := Aside0.mk (row_bytes (r := [171, 172]) hrow (by have := HML2.out; omega)); have HB4 := Aside0.mk (below_step HB3.out hb4); clear HR3 HB3 hrow hb4 hg)
      | (go_at_call 23; refine (decode_calls _ (some ⟨g, 0, none⟩) (m2.length + 2) m2 HD4.out (by omega) (by have := HML2.out; omega) (HY2.out m2 m HM2.out HM.out).2 res (HY2.out m2 m HM2.out HM.out).1).mono ?_; rintro xx w5 ⟨hdec, hb5⟩; obtain ⟨vp, rfl, hvp⟩ := hdec.one; obtain ⟨Ap, cp, rfl, hcp, hrp⟩ := ins_reads hvp (by have := HN.out; omega); have HCP := Aside0.mk hcp; have HRP := Aside0.mk hrp; have HR5 := Aside0.mk (Kd.C_below HR4.out hb5); have HB5 := Aside0.mk (below_step HB4.out hb5); clear HR4 HB4 HD4 hdec hvp hcp hrp hb5)
      | ((with_reducible refine gate_dst (N := 6) rfl ?_); refine box_event (N := 6) rfl rfl (cs := #[.int .i64 0, .int .i64 0]) (t := 42) ?hr2 ?_; (case hr2 => first | (go_simp; done) | (go_simp; rfl)); intro g6 hg6 w6 hbox hb6; have H6 := Aside0.mk (show RowAt w6 g6 42 [.int .i64 0, .int .i64 0] from ⟨_, hbox, rfl⟩); have HB6 := Aside0.mk hb6; have HG6 := Aside0.mk (show w5.heap.size ≤ g6 by omega); clear hbox hb6 hg6)
      | ((with_reducible refine gate_store (t := 42) (p := 6) rfl ?_); (refine put_event rfl rfl 42 (.tmp 6) (.tmp 36) rfl (off := 0) (u := .agg #[.int .i64 (faultOf res).1, .int .i64 (faultOf res).2]) (seg := [.int .i64 (faultOf res).1, .int .i64 (faultOf res).2]) rfl rfl H6.out rfl (by kernel_rfl) (by simp) (by simp [Value.oneCell']) ?_; intro w7 hrow hgr; have n1_ := Aside0.mk (pw_below_grown HB6.out (some g6) HB6.out.size hgr (fun k hk => by injection hk with hk; have := HG6.out; omega)); have n2_ := Aside0.mk (show RowAt w7 g6 42 [.int .i64 (faultOf res).1, .int .i64 (faultOf res).2] from hrow); clear H6 HB6 hrow; have HB6 := n1_; have H6 := n2_; clear n1_ n2_); clear hgr)
      | (go_at_call 24; refine (refdecode_calls _ A3 c3 m2 (Kd.C_below HR5.out HB6.out) HC3.out (by have := HML2.out; omega) (HY2.out m2 m HM2.out HM.out).2 res (HY2.out m2 m HM2.out HM.out).1).mono ?_; rintro xx w8 ⟨hdec, hb8⟩; obtain ⟨vq, rfl, hvq⟩ := hdec.one; obtain ⟨Aq, cq, rfl, hcq, hrq⟩ := ins_reads hvq (by have := HN.out; omega); have HCQ := Aside0.mk hcq; have HRQ := Aside0.mk hrq; have n1_ := Aside0.mk (Kd.C_below HRP.out (below_step HB6.out hb8)); have n2_ := Aside0.mk (below_step (below_step HB5.out HB6.out) hb8); have n3_ := Aside0.mk (H6.out.below hb8); clear HRP HR5 HB5 HB6 H6 hdec hvq hcq hrq hb8; have HRP := n1_; have HB8 := n2_; have H6 := n3_; clear n1_ n2_ n3_)
      | ((with_reducible refine gate_dst (N := 8) rfl ?_); refine box_event (N := 8) rfl rfl (cs := #[.int .i64 0, .int .i64 0]) (t := 46) ?hr2 ?_; (case hr2 => first | (go_simp; done) | (go_simp; rfl)); intro g8 hg8 w9 hbox hb9; have H8 := Aside0.mk (show RowAt w9 g8 46 [.int .i64 0, .int .i64 0] from ⟨_, hbox, rfl⟩); have HB9 := Aside0.mk hb9; have HG8 := Aside0.mk (show w8.heap.size ≤ g8 by omega); have HG68 := Aside0.mk (show g6 < g8 by have := H6.out.lt; omega); have n3_ := Aside0.mk (H6.out.below hb9); clear H6; have H6 := n3_; clear n3_; clear hbox hb9 hg8)
      | ((with_reducible refine gate_store (t := 46) (p := 8) rfl ?_); (refine put_event rfl rfl 46 (.tmp 8) (.tmp 41) rfl (off := 0) (u := .agg #[.int .i64 (faultOf res).1, .int .i64 (faultOf res).2]) (seg := [.int .i64 (faultOf res).1, .int .i64 (faultOf res).2]) rfl rfl H8.out rfl (by kernel_rfl) (by simp) (by simp [Value.oneCell']) ?_; intro w10 hrow hgr; have n1_ := Aside0.mk (pw_below_grown HB9.out (some g8) HB9.out.size hgr (fun k hk => by injection hk with hk; have := HG8.out; omega)); have n3_ := Aside0.mk (H6.out.grown hgr (by intro e; injection e with e; have := HG68.out; omega)); clear HB9; have HB9 := n1_; have h60 := n3_.out.cell 0; have h61 := n3_.out.cell 1; have h80 := RowAt.cell hrow 0; have h81 := RowAt.cell hrow 1; simp only [List.getElem?_cons_zero, List.getElem?_cons_succ] at h60 h61 h80 h81; clear H6 H8 hrow n1_ n3_); clear hgr)
      | (go_at_call 25; refine (same_lit (faultOf res) _).mono ?_; rintro xx w11 ⟨rfl, hb11⟩; have n1_ := Aside0.mk (below_step HB9.out hb11); clear HB9 hb11; have HB9 := n1_; clear n1_)
      | (go_at_call 26; refine (inss_lit Ap cp Aq cq (insOf res) _ (Kd.C_below HRP.out HB9.out) HCP.out (Kd.C_below HRQ.out HB9.out) HCQ.out (by have := HN.out; omega)).mono ?_; rintro xx w12 ⟨rfl, hd⟩; have HB12 := Aside0.mk (below_step (below_step HB8.out HB9.out) hd.below); clear HB9 hd))
    go_ret
    exact ⟨rfl, HB12.out⟩
end
theorem forged_row (A : Option Addr) (c : Nat) (l : List Int) (w : World) (hC : Kd.C (Kd.int .u8) w A l.length l) (hl : l.length ≤ c) (ho : BytesOk l) :
    Calls Try.prog 6 #[.slice A l.length c] w fun x w' => x = .returned (.bool true) ∧ Below w.heap.size w w' :=
  forged_calls w A c l hC hl ho.1 ho.2
end Go.Proofs.Ytebiogaacikphaa.Pack
end
section
namespace Go.Proofs.Ytebiogaacikphaa.packForged
open Go.ChangeShapes Go.WideShapes Go.ChangeAt Go.RowKit Go.Proofs.YtebiogaacikphaaW.PrintWords Go.Proofs.Ytebiogaacikphaa.Pack Go.Proofs.Ytebiogaacikphaa.PAll
set_option linter.unusedVariables false
theorem own : ownKnob Try.prog.godebug = none := by kernel_rfl
theorem laidOut : laidOutB Try.prog = true := by kernel_rfl
set_option maxRecDepth 100000 in
theorem lifted (os : Os) (started : os.Started) (H : Type) (enc : TypeId × Value → H) :
    ReturnsInHanded {} Try.checked os 6 .any (Rows.packForgedSpec.pre6 enc Try.prog Try.f6 Rows.packForgedRow.domain false) (Rows.packForgedSpec.post enc Try.prog Try.f6 false true false false) := by
  refine returnsInHanded_of_change_sized (C := Try.checked) own started (by kernel_rfl) Try.func6
    (ChangeSpec.witness6 (enc := enc) (C := Try.checked) false ⟨#[], #[.slice none 0 0], []⟩ 8 (by kernel_rfl) (by kernel_rfl) (by kernel_rfl) (by kernel_rfl)) ?_
  intro W base args ds gs before hval0 hW hcnd hsz0 _
  have hsz : (DataW.weightsEach Try.prog (Try.f6.params.toList ++ Rows.packForgedSpec.plain.varTypes Try.prog) (ds ++ gs)).all (· ≤ reachBytes) = true := hsz0
  have hval : ∀ (j : Nat) t v, Try.f6.params[j]? = some t → args[j]? = some v → Value.okWide Try.prog W .any base t v := hval0
  have hW' := hW
  obtain ⟨p, q, hA0, hV, rfl, hfz, hnd⟩ := hW
  have hA : DataW.TrodAll enc Try.prog W 0 (fun _ => true) true Try.f6.params.toList args.toList ds p := hA0
  rw [Try.params6] at hA hval hsz
  obtain ⟨v0, vs0, d0, ds0, p0, q0, hargs, rfl, rfl, h0, r0⟩ := trodAll_cons hA
  obtain ⟨rfl, rfl, rfl⟩ := trodAll_nil r0
  obtain rfl : args = #[v0] := by cases args; simp_all
  obtain ⟨rfl, rfl⟩ := trodVars_none hV
  obtain ⟨A0, c0, l0, rfl, hC0, hl0, ho0⟩ := open_bytes (hval 0 37 v0 rfl rfl) h0 (fun n hn => of_decide_eq_true (List.all_eq_true.1 hsz n (DataW.weights_mem_each (j := 0) rfl rfl n hn)))
  have lt0 : ∀ x ∈ p0, x.block < W.heap.size := by obtain ⟨m, hm⟩ := h0; exact DataW.trod_lt m _ _ _ hm
  clear hA0 hval0 hsz0 hsz
  refine (forged_row A0 c0 l0 W hC0 hl0 ho0).mono fun e W' ⟨he, bel⟩ => ?_
  subst he
  exact ⟨_, rfl, _, _, _, [], _, [], hW', trodAll_mk1 (shut_bool Try.underlying4 _), (trodAll_cons_mk (Below.trod laidOut (by kernel_rfl) (of_decide_eq_true (by kernel_rfl)) h0 bel lt0) trodAll_mk0), rfl, bel.frame _, fun h => by cases h⟩
theorem over : Rows.packForgedRow.holds Try.pinned (OpenSpec.ofChange Rows.packForgedSpec) :=
  OpenClaim.holds_of_wide 6 Try.f6 rfl rfl rfl rfl rfl rfl rfl ⟨rfl, rfl, rfl, rfl, rfl⟩ rfl rfl rfl rfl rfl (by kernel_rfl) Try.func6 (by kernel_rfl)
    (of_decide_eq_true (by kernel_rfl)) (by unfold Func.isWrapper; first | (rw [if_pos (by decide +kernel)]; kernel_rfl) | (rw [if_neg (by decide +kernel)]; exact ⟨rfl, rfl⟩))
    (fun os started H enc _ => lifted os started H enc)
theorem proved : Rows.PackForgedSaid := over
end Go.Proofs.Ytebiogaacikphaa.packForged
end
