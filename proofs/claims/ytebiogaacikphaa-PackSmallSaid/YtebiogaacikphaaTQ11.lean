/- Parts of the proof of packBack and packOne and packCuts and packSpoilt and packSmall: PackProgramWalk, PAllx3, PAllx6, PAllx18, PAllx19. No condition beyond each lemma's own. -/
import Derived.Test.YtebiogaacikphaaTQ3
import Derived.Test.YtebiogaacikphaaTQ5
import Derived.Test.YtebiogaacikphaaTQ6
import Derived.Test.YtebiogaacikphaaTQ8
import Derived.Test.YtebiogaacikphaaTQ9
section
namespace Go.Proofs.Ytebiogaacikphaa.Pack
open Go.RowKit Go.Proofs.YtebiogaacikphaaW.PrintWords Go.Proofs.Ytebiogaacikphaa.PAll
set_option linter.unusedVariables false
set_option linter.unusedSimpArgs false
set_option linter.unnecessarySimpa false
section
variable {w0 w W W' : World} {g gu : Nat} {vc vn vs vt v : Value} {kc kn : Nat} {S : List Four} {T : List ByteArray} {acc : List Ins}
/-- A block that is new is none of these. -/
theorem PI.fresh (h : PI w0 w W g gu vc vn vs vt v kc kn S T acc) {gx : Nat} (hx : gx = W.heap.size) : gx ≠ gu ∧ vc.ownBlock ≠ some gx ∧ vn.ownBlock ≠ some gx ∧ vs.ownBlock ≠ some gx ∧ vt.ownBlock ≠ some gx := by
  have h1 := h.gult
  have h2 := h.size
  obtain ⟨_, hc⟩ := h.us.c
  obtain ⟨_, hn⟩ := h.us.n
  exact ⟨by omega, fun e => by have := own_lt hc gx e; omega, fun e => by have := own_lt hn gx e; omega, fun e => by have := (h.sb gx e).1; omega, fun e => by have := (h.tb gx e).1; omega⟩
theorem PI.grownX (h : PI w0 w W g gu vc vn vs vt v kc kn S T acc) {gx : Nat} (hx : w.heap.size ≤ gx) (hxv : v.ownBlock ≠ some gx) (hf : gx ≠ gu ∧ vc.ownBlock ≠ some gx ∧ vn.ownBlock ≠ some gx ∧ vs.ownBlock ≠ some gx ∧ vt.ownBlock ≠ some gx) (hg : W.grownBy W' (some gx)) : PI w0 w W' g gu vc vn vs vt v kc kn S T acc :=
  h.put hx hxv (h.us.grown hg (fun k hk => by injection hk with hk; subst hk; exact hf)) (But.of_grown hg (fun k hk _ => by injection hk with hk; exact .inr (.inl hk.symm))) (.inl rfl) (.inl rfl)
theorem PI.putFar (h : PI w0 w W g gu vc vn vs vt v kc kn S T acc) {gx : Nat} (hx : w.heap.size ≤ gx) (hw : w0.heap.size ≤ w.heap.size) : ∀ j, (j = gu ∨ j = gx ∨ some j = vc.ownBlock ∨ some j = vn.ownBlock) → w0.heap.size ≤ j ∧ j ≠ g := by
  have h1 := h.glt
  rintro j (e | e | e | e)
  · exact ⟨by have := h.us.ge; omega, by have := h.gne; omega⟩
  · omega
  · have := h.cb j e.symm; omega
  · have := h.nb j e.symm; omega
end
theorem cntL_le (e fr : Nat) : ∀ (l : List Int) (k : Nat) (n v : Int) (r : List Int), cntL e fr k n l = .ok (v, r) → v ≤ 2147483647
  | [], _, _, _, _, h => by cases h
  | x :: l, k, n, v, r, h => by
    rw [cntL] at h
    split at h
    · exact cntL_le e fr l _ _ v r h
    · generalize (if k < 5 then n + x % 128 * 128 ^ k else n) = u at h
      by_cases h2 : 4 < k ∨ (x = 0 ∧ 0 < k) ∨ 2147483647 < u
      · rw [if_pos h2] at h; cases h
      · rw [if_neg h2] at h
        injection h with h
        injection h with h h3
        rw [← h]
        exact Int.not_lt.1 (fun h4 => h2 (.inr (.inr h4)))
section
variable (w0 w : World) (g : Nat) (A : Option Addr) (c : Nat) (b : List Int) (i e : Nat)
set_option maxHeartbeats 4000000 in
set_option maxRecDepth 100000 in
theorem program_ok (gu : Nat) (vs vt : Value) (S : List Four) (T : List ByteArray) (h : RS w0 w g A c b i e 0 0) (hby : ∀ x ∈ b, 0 ≤ x ∧ x < 256) (hpi : PI w0 w w g gu (.slice none 0 0) (.slice none 0 0) vs vt (.slice none 0 0) 0 0 S T []) (hst : S.length ≤ 65536 ∧ T.length ≤ 65536) (res : Except (Int × Int) (List Ins × Nat × Nat × List Int)) (hres : programL e S T ((b.take e).drop i) = res) :
    Calls Try.prog 53 #[.pointer (some ⟨g, 0, none⟩), .pointer (some ⟨gu, 0, none⟩)] w fun x w' => ∃ v, x = .returned v ∧ St w0 w' g A c b e (res.map (·.2.2.2)) ∧ OnlyTwo w w' g gu ∧ (∀ acc kc kn r, res = .ok (acc, kc, kn, r) → ∃ vc vn, PI w0 w w' g gu vc vn vs vt v kc kn S T acc) := by
  have HMA := Aside0.mk (many_ok w0 w g A c b i e h hby)
  have HY := Aside0.mk hby
  have HST := Aside0.mk hst
  have HW0 := Aside0.mk (show w0.heap.size ≤ w.heap.size from Nat.le_trans h.ge (Nat.le_of_lt h.lt))
  have hlen0 : ((b.take e).drop i).length = e - i := by have := h.e_; rw [List.length_drop, List.length_take]; omega
  have hat0 := h.at_
  have H := Aside0.mk h
  have HI := Aside0.mk hpi
  have h1 := h.c1
  clear h hby hpi hst
  have HMB := Aside0.mk (fun n r => manyL_range (e := e) (fr := i) (l := (b.take e).drop i) (n := n) (r := r) (fun x hx => HY.out x (List.mem_of_mem_take (List.mem_of_mem_drop hx))))
  rw [programL, hlen0, show e - (e - i) = i by omega] at hres
  clear hlen0
  generalize manyL e i ((b.take e).drop i) = m at *
  match m with
  | .error f =>
    go_enter Try.func53, Try.ntmps53
    go_wp2_with (first
      | (go_at_call 87; refine HMA.out.mono ?_; rintro xx w1 ⟨v, rfl, hq1, hq2, hq3, hq4⟩; obtain rfl := hq4 f rfl; obtain ⟨j, hf, hrs⟩ := hq1; have HF := Aside0.mk (show (f.2 != 0) = true by simpa using hf); clear H h1; have H := Aside0.mk hrs; have HO := Aside0.mk hq2; clear hq2 hq3 hq4 hrs hf)
      | (go_at_call 54; refine (bad_same w0 _ g A c b _ e _ _ true H.out HF.out).mono ?_; rintro xx w8 ⟨rfl, rfl⟩))
    refine wp_loop_once ?_
    go_wp2
    go_ret
    subst hres
    exact ⟨_, rfl, ⟨j, by simpa using HF.out, H.out⟩, (HI.out.step HO.out).fr, (fun _ _ _ _ h => by cases h)⟩
  | .ok (n, r) =>
    obtain ⟨n, hn⟩ := Int.eq_ofNat_of_zero_le (HMB.out n r rfl).1
    subst hn
    have HNB := Aside0.mk (show n ≤ 65536 by have := (HMB.out _ r rfl).2; omega)
    by_cases n0 : n = 0
    · subst n0
      go_enter Try.func53, Try.ntmps53
      go_wp2_with (first
        | (go_at_call 87; refine HMA.out.mono ?_; rintro xx w1 ⟨v, rfl, hq1, hq2, hq3, hq4⟩; obtain rfl := (hq3 _ r rfl).symm; obtain ⟨j, hrs, hr⟩ := hq1; clear H h1; have H := Aside0.mk hrs; have HO := Aside0.mk hq2; clear hq2 hq3 hq4 hrs hr)
        | (go_at_call 54; refine (bad_same w0 _ g A c b _ e 0 0 false H.out rfl).mono ?_; rintro xx w8 ⟨rfl, rfl⟩)
        | (go_at_call 55; refine (fail_ok w0 _ g A c b _ e _ _ H.out).mono ?_; rintro xx w8 ⟨rfl, hq1, hq2⟩; have n1_ := Aside0.mk hq1; have n2_ := Aside0.mk (HO.out.trans hq2); clear H HO hq1 hq2; have H := n1_; have HO := n2_; clear n1_ n2_))
      refine wp_loop_once ?_
      go_wp2
      go_ret
      subst hres
      exact ⟨_, rfl, ⟨_, by simp, H.out⟩, (HI.out.step HO.out).fr, (fun _ _ _ _ h => by cases h)⟩
    · have HN0 : ((n : Int) == 0) = false := by simpa using n0
      have HRES := Aside0.mk (show insL e n S T n 0 0 0 [] r = res by dsimp only at hres; rw [if_neg (by omega), Int.toNat_natCast] at hres; exact hres)
      clear hres n0
      go_enter Try.func53, Try.ntmps53
      go_wp2_with (first
        | (go_at_call 87; refine HMA.out.mono ?_; rintro xx w1 ⟨v, rfl, hq1, hq2, hq3, hq4⟩; obtain rfl := (hq3 _ r rfl).symm; obtain ⟨j, hrs, hr⟩ := hq1; have HR := Aside0.mk hr; clear H h1; have H := Aside0.mk hrs; have n2_ := Aside0.mk (HI.out.step hq2); clear HI; have HI := n2_; clear n2_ hq2 hq3 hq4 hrs hr)
        | (go_at_call 54; refine (bad_same w0 _ g A c b _ e 0 0 false H.out rfl).mono ?_; rintro xx w8 ⟨rfl, rfl⟩))
      clear HN0
      go_loopw [7, 8] (fun v7 v8 wr => ∃ (q : Nat), v8 = .int .i64 q ∧ Aside0 ((∃ acc kc kn vc vn at_, RS w0 wr g A c b at_ e 0 0 ∧ PI w0 w wr g gu vc vn vs vt v7 kc kn S T acc ∧ acc.length = q ∧ insL e n S T (n - q) q kc kn acc ((b.take e).drop at_) = res ∧ q ≤ n) ∨ (∃ f at_, RS w0 wr g A c b at_ e f.1 f.2 ∧ f.2 ≠ 0 ∧ OnlyTwo w wr g gu ∧ res = .error f ∧ q ≤ n))) (fun v7 v8 _ => n - (intOf v8).toNat)
      case atStart => exact ⟨0, rfl, ⟨.inl ⟨[], 0, 0, _, _, j, H.out, HI.out, rfl, by rw [← HR.out]; exact HRES.out, Nat.zero_le _⟩⟩⟩
      case round =>
        clear HI HR HRES HMA H
        obtain ⟨q, rfl, hcase⟩ := hrel
        have qb : (q : Int) ≤ 65536 := by
          have h1 := HNB.out
          rcases hcase.out with ⟨_, _, _, _, _, _, _, _, _, _, h3⟩ | ⟨_, _, _, _, _, _, h3⟩ <;> omega
        obtain ⟨acc, kc, kn, vc, vn, at_, hrs, hpi, haq, hres, hq⟩ | ⟨f, at_, hrs, hf, hon, rfl, hq⟩ := hcase.out
        · clear hcase
          have HI := Aside0.mk hpi
          have H := Aside0.mk hrs
          have HAQ := Aside0.mk haq
          have hlen : ((b.take e).drop at_).length = e - at_ := by have := hrs.e_; rw [List.length_drop, List.length_take]; omega
          have hat := hrs.at_
          have heb := hrs.e_
          have h1 := hrs.c1
          clear hrs hpi
          by_cases c1 : q < n
          · have b1 : decide ((q : Int) < (n : Int)) = true := decide_eq_true (by omega)
            rw [show n - q = (n - (q + 1)) + 1 by omega] at hres
            rcases Nat.lt_or_ge at_ e with c2 | c2
            · have c3 : at_ < b.length := by omega
              obtain ⟨ad, hx, htake⟩ := take_one w0 wr g A c b at_ e H.out c2 c3
              have HT := Aside0.mk htake
              have HX := Aside0.mk hx
              have hby := HY.out b[at_] (List.getElem_mem _)
              have hl1 : ((b.take e).drop (at_ + 1)).length = e - (at_ + 1) := by rw [List.length_drop, List.length_take]; omega
              rw [left_cons c2 heb, insL, numL, hl1, show e - (e - (at_ + 1)) = at_ + 1 by omega, show e - (e - (at_ + 1) + 1) = at_ by omega] at hres
              clear htake hx hlen
              generalize b[at_] = x at *
              have hlo := byte_lo x hby
              obtain ⟨hh1, hh2⟩ := byte_hi x hby
              by_cases c15 : x / 16 = 15
              · rw [if_pos c15] at hres
                have hh15 : IntKind.u8.wrap 15 = 15 := by decide +kernel
                have hh15' : IntKind.i64.wrap 15 = 15 := by decide +kernel
                have HCO := Aside0.mk (count_ok w0 · g A c b (at_ + 1) e · HY.out)
                have hby := fun n r => cntL_nonneg e (at_ + 1) ((b.take e).drop (at_ + 1)) 0 0 n r (fun x hx => HY.out x (List.mem_of_mem_take (List.mem_of_mem_drop hx))) (by omega)
                have hby2 := fun n r => cntL_le e (at_ + 1) ((b.take e).drop (at_ + 1)) 0 0 n r
                clear hh1 hh2
                generalize cntL e (at_ + 1) 0 0 ((b.take e).drop (at_ + 1)) = cnt at *
                match cnt with
                | .error f =>
                  have HRES := Aside0.mk hres
                  clear hres hby hby2
                  go_wp2_with (first
                    | (go_at_call 88; refine HT.out.mono ?_; rintro xx w1 ⟨rfl, hq1, hq2⟩; have n1_ := Aside0.mk hq1; have n2_ := Aside0.mk (HI.out.step hq2); clear H HI hq1 hq2 h1; have H := n1_; have HI := n2_; clear n1_ n2_; have hx := (H.out.old.cell (World.block_lt_of_cell? w0 _ HX.out)).trans HX.out)
                    | (go_at_call 89; refine (HCO.out _ H.out).mono ?_; rintro xx w8 ⟨v, rfl, hq1, hq2, _, hq4⟩; obtain rfl := hq4 f rfl; obtain ⟨j2, hf, hrs⟩ := hq1; have HF := Aside0.mk (show (f.2 != 0) = true by simpa using hf); have n2_ := Aside0.mk (HI.out.step hq2); clear H HI hq4; have H := Aside0.mk hrs; have HI := n2_; clear n2_ hq2 hrs hf; have hx := (H.out.old.cell (World.block_lt_of_cell? w0 _ HX.out)).trans HX.out)
                    | (go_at_call 54; refine (bad_same w0 _ g A c b _ e _ _ true H.out HF.out).mono ?_; rintro xx w8 ⟨rfl, rfl⟩)
                    | (go_at_call 54; refine (bad_same w0 _ g A c b _ e 0 0 false H.out rfl).mono ?_; rintro xx w8 ⟨rfl, rfl⟩)
                    | ((with_reducible refine gate_dst (N := 11) rfl ?_); refine box_event (N := 11) rfl rfl (cs := #[.int .i64 0, .int .i64 0, .int .u64 0, .int .u64 0, .int .u64 0, .int .u64 0, .string (⟨#[]⟩ : ByteArray)]) (t := 78) ?hr2 ?_; (case hr2 => first | (go_simp; done) | (go_simp; rfl)); intro gx hgx w4 hbox hb4; have HGX := Aside0.mk (show w.heap.size ≤ gx ∧ u7.ownBlock ≠ some gx by have h2 := HI.out.size; refine ⟨by omega, fun h => ?_⟩; have := own_lt HI.out.row _ h; omega); have n1_ := Aside0.mk (HI.out.below hb4); have n2_ := Aside0.mk (H.out.below hb4); have HXR := Aside0.mk (show RowAt w4 gx 78 (insCells zIns) from ⟨_, hbox, rfl⟩); have HGU := Aside0.mk (HI.out.fresh hgx); clear H HI hbox hb4 hgx hx; have HI := n1_; have H := n2_; clear n1_ n2_)
                    | (((with_reducible refine gate_store (t := 78) (p := 11) rfl ?_); refine put_event rfl rfl 78 (.tmp 11) (.tmp 62) rfl (off := 0) (u := .agg #[.int .i64 (x % 16), .int .i64 0, .int .u64 0, .int .u64 0, .int .u64 0, .int .u64 0, .string (⟨#[]⟩ : ByteArray)]) (seg := insCells { zIns with f0 := x % 16 }) rfl rfl HXR.out rfl (by kernel_rfl) (by simp [insCells]) (by simp [insCells, Value.oneCell']) ?_; intro w5 hrow hgr; have n1_ := Aside0.mk (HI.out.grownX HGX.out.1 HGX.out.2 HGU.out hgr); have n2_ := Aside0.mk (H.out.grown hgr (by have := HGX.out.1; have := HI.out.glt; omega) (by have := HGX.out.1; have := HI.out.glt; have := H.out.ge; omega)); have n3_ := Aside0.mk (show RowAt w5 gx 78 (insCells { zIns with f0 := x % 16 }) from hrow); clear H HI HXR hrow hgr; have HI := n1_; have H := n2_; have HXR := n3_; clear n1_ n2_ n3_); have q0 := (HXR.out.cell 0).trans (show (insCells ({ zIns with f0 := x % 16 }))[0]? = some (.int .i64 (({ zIns with f0 := x % 16 })).f0) from rfl); have q1 := (HXR.out.cell 1).trans (show (insCells ({ zIns with f0 := x % 16 }))[1]? = some (.int .i64 (({ zIns with f0 := x % 16 })).f1) from rfl); have q2 := (HXR.out.cell 2).trans (show (insCells ({ zIns with f0 := x % 16 }))[2]? = some (.int .u64 (({ zIns with f0 := x % 16 })).f2.f0) from rfl); have q3 := (HXR.out.cell 3).trans (show (insCells ({ zIns with f0 := x % 16 }))[3]? = some (.int .u64 (({ zIns with f0 := x % 16 })).f2.f1) from rfl); have q4 := (HXR.out.cell 4).trans (show (insCells ({ zIns with f0 := x % 16 }))[4]? = some (.int .u64 (({ zIns with f0 := x % 16 })).f2.f2) from rfl); have q5 := (HXR.out.cell 5).trans (show (insCells ({ zIns with f0 := x % 16 }))[5]? = some (.int .u64 (({ zIns with f0 := x % 16 })).f2.f3) from rfl); have q6 := (HXR.out.cell 6).trans (show (insCells ({ zIns with f0 := x % 16 }))[6]? = some (.string (({ zIns with f0 := x % 16 })).f3) from rfl))
                    | ((with_reducible refine gate_builtin (b := .append) (xs := #[.tmp 77, .tmp 79]) rfl ?_); at_builtin; refine print_append_cells w.heap.size rfl (.tmp 77) (.tmp 79) 40 78 (.agg #[.int .i64 0, .int .i64 0, .int .u64 0, .int .u64 0, .int .u64 0, .int .u64 0, .string (⟨#[]⟩ : ByteArray)]) 7 64 rfl Try.underlying40 (by kernel_rfl) rfl (by decide) (by decide) u7 acc.length (acc.flatMap insCells) (insCells ({ zIns with f0 := x % 16 })) rfl rfl rfl (by simp [insCells, Value.oneCell']) HI.out.row (Below.refl _ _) (HI.out.size) (by have := HAQ.out; have := HNB.out; omega) ?_; intro v5 w9 hown hbel hgr hat; have n1_ := Aside0.mk (HI.out.append (y := ({ zIns with f0 := x % 16 })) hown hgr hat); have n2_ := Aside0.mk (H.out.through hgr (fun k hk => by have := own_base HI.out.row k hk; have := HI.out.glt; have := HW0.out; omega)); clear H HI hown hgr hat hbel q0 q1 q2 q3 q4 q5 q6; have HI := n1_; have H := n2_; clear n1_ n2_))
                  go_roundw
                  case measure => simp [intOf]; omega
                  case rel => exact ⟨q + 1, by go_num, ⟨.inr ⟨f, _, H.out, by simpa using HF.out, HI.out.fr, by rw [← HRES.out], by omega⟩⟩⟩
                | .ok (cv, r2) =>
                  obtain ⟨cn, hcn⟩ := Int.eq_ofNat_of_zero_le (hby cv r2 rfl)
                  subst hcn
                  have hcn2 := hby2 _ r2 rfl
                  clear hby hby2
                  have hsum : IntKind.i64.wrap (15 + (cn : Int)) = ((15 + cn : Nat) : Int) := by rw [IntWalk.i64_in _ (by omega)]; omega
                  dsimp only at hres
                  rw [Int.toNat_natCast] at hres
                  generalize hnn : 15 + cn = nn at *
                  have hnn2 : nn ≤ 4294967296 := by omega
                  clear hnn
                  generalize hput : putL (x % 16) q nn n kc kn S T = pt at *
                  have HPUT := Aside0.mk hput
                  have HRES := Aside0.mk hres
                  clear hput hres
                  match pt with
                  | none =>
                    go_wp2_with (first
                      | (go_at_call 88; refine HT.out.mono ?_; rintro xx w1 ⟨rfl, hq1, hq2⟩; have n1_ := Aside0.mk hq1; have n2_ := Aside0.mk (HI.out.step hq2); clear H HI hq1 hq2 h1; have H := n1_; have HI := n2_; clear n1_ n2_; have hx := (H.out.old.cell (World.block_lt_of_cell? w0 _ HX.out)).trans HX.out)
                      | (go_at_call 89; refine (HCO.out _ H.out).mono ?_; rintro xx w8 ⟨v, rfl, hq1, hq2, hq3, _⟩; obtain rfl := (hq3 _ _ rfl).symm; obtain ⟨j2, hrs, hr0⟩ := hq1; have HR2 := Aside0.mk (show r2 = (b.take e).drop j2 from hr0); have n2_ := Aside0.mk (HI.out.step hq2); clear H HI hr0 hq3; have H := Aside0.mk hrs; have HI := n2_; clear n2_ hq2 hrs; have hx := (H.out.old.cell (World.block_lt_of_cell? w0 _ HX.out)).trans HX.out)
                      | (go_at_call 54; refine (bad_same w0 _ g A c b _ e 0 0 false H.out rfl).mono ?_; rintro xx w8 ⟨rfl, rfl⟩)
                      | ((with_reducible refine gate_dst (N := 11) rfl ?_); refine box_event (N := 11) rfl rfl (cs := #[.int .i64 0, .int .i64 0, .int .u64 0, .int .u64 0, .int .u64 0, .int .u64 0, .string (⟨#[]⟩ : ByteArray)]) (t := 78) ?hr2 ?_; (case hr2 => first | (go_simp; done) | (go_simp; rfl)); intro gx hgx w4 hbox hb4; have HGX := Aside0.mk (show w.heap.size ≤ gx ∧ u7.ownBlock ≠ some gx by have h2 := HI.out.size; refine ⟨by omega, fun h => ?_⟩; have := own_lt HI.out.row _ h; omega); have n1_ := Aside0.mk (HI.out.below hb4); have n2_ := Aside0.mk (H.out.below hb4); have HXR := Aside0.mk (show RowAt w4 gx 78 (insCells zIns) from ⟨_, hbox, rfl⟩); have HGU := Aside0.mk (HI.out.fresh hgx); clear H HI hbox hb4 hgx hx; have HI := n1_; have H := n2_; clear n1_ n2_)
                      | ((with_reducible refine gate_store (t := 78) (p := 11) rfl ?_); refine put_event rfl rfl 78 (.tmp 11) (.tmp 62) rfl (off := 0) (u := .agg #[.int .i64 (x % 16), .int .i64 0, .int .u64 0, .int .u64 0, .int .u64 0, .int .u64 0, .string (⟨#[]⟩ : ByteArray)]) (seg := insCells { zIns with f0 := x % 16 }) rfl rfl HXR.out rfl (by kernel_rfl) (by simp [insCells]) (by simp [insCells, Value.oneCell']) ?_; intro w5 hrow hgr; have n1_ := Aside0.mk (HI.out.grownX HGX.out.1 HGX.out.2 HGU.out hgr); have n2_ := Aside0.mk (H.out.grown hgr (by have := HGX.out.1; have := HI.out.glt; omega) (by have := HGX.out.1; have := HI.out.glt; have := H.out.ge; omega)); have n3_ := Aside0.mk (show RowAt w5 gx 78 (insCells { zIns with f0 := x % 16 }) from hrow); clear H HI HXR hrow hgr; have HI := n1_; have H := n2_; have HXR := n3_; clear n1_ n2_ n3_)
                      | (go_at_call 91; refine (put_any w0.heap.size _ gu gx q nn n (x % 16) vc vn vs vt kc kn S T HI.out.us HXR.out (by omega) (by omega) HST.out.1 HST.out.2 HGU.out).mono ?_; rintro xx w6 ⟨y, kc', kn', vc', vn', rfl, hu, hx6, hz, hb, hat1, hat2⟩; rw [HPUT.out] at hz ⊢; have n1_ := Aside0.mk (HI.out.put HGX.out.1 HGX.out.2 hu hb hat1 hat2); have n2_ := Aside0.mk (H.out.but hb (HI.out.putFar HGX.out.1 HW0.out)); clear H HI HXR hu hb hat1 hat2; have HI := n1_; have H := n2_; have HXR := Aside0.mk hx6; have HZ := Aside0.mk hz; clear n1_ n2_ hx6 hz)
                      | (go_at_call 55; refine (fail_ok w0 _ g A c b _ e _ _ H.out).mono ?_; rintro xx w8 ⟨rfl, hq1, hq2⟩; have n1_ := Aside0.mk hq1; have n2_ := Aside0.mk (HI.out.step hq2); have n3_ := Aside0.mk (HXR.out.kept (hq2.2 gx HXR.out.lt (by have := HGX.out.1; have := HI.out.glt; omega))); clear H HI HXR hq1 hq2; have H := n1_; have HI := n2_; have HXR := n3_; clear n1_ n2_ n3_; have q0 := (HXR.out.cell 0).trans (show (insCells y)[0]? = some (.int .i64 (y).f0) from rfl); have q1 := (HXR.out.cell 1).trans (show (insCells y)[1]? = some (.int .i64 (y).f1) from rfl); have q2 := (HXR.out.cell 2).trans (show (insCells y)[2]? = some (.int .u64 (y).f2.f0) from rfl); have q3 := (HXR.out.cell 3).trans (show (insCells y)[3]? = some (.int .u64 (y).f2.f1) from rfl); have q4 := (HXR.out.cell 4).trans (show (insCells y)[4]? = some (.int .u64 (y).f2.f2) from rfl); have q5 := (HXR.out.cell 5).trans (show (insCells y)[5]? = some (.int .u64 (y).f2.f3) from rfl); have q6 := (HXR.out.cell 6).trans (show (insCells y)[6]? = some (.string (y).f3) from rfl))
                      | ((with_reducible refine gate_builtin (b := .append) (xs := #[.tmp 77, .tmp 79]) rfl ?_); at_builtin; refine print_append_cells w.heap.size rfl (.tmp 77) (.tmp 79) 40 78 (.agg #[.int .i64 0, .int .i64 0, .int .u64 0, .int .u64 0, .int .u64 0, .int .u64 0, .string (⟨#[]⟩ : ByteArray)]) 7 64 rfl Try.underlying40 (by kernel_rfl) rfl (by decide) (by decide) u7 acc.length (acc.flatMap insCells) (insCells y) rfl rfl rfl (by simp [insCells, Value.oneCell']) HI.out.row (Below.refl _ _) (HI.out.size) (by have := HAQ.out; have := HNB.out; omega) ?_; intro v5 w9 hown hbel hgr hat; have n1_ := Aside0.mk (HI.out.append (y := y) hown hgr hat); have n2_ := Aside0.mk (H.out.through hgr (fun k hk => by have := own_base HI.out.row k hk; have := HI.out.glt; have := HW0.out; omega)); clear H HI hown hgr hat hbel q0 q1 q2 q3 q4 q5 q6; have HI := n1_; have H := n2_; clear n1_ n2_))
                    go_roundw
                    case measure => simp [intOf]; omega
                    case rel => exact ⟨q + 1, by go_num, ⟨.inr ⟨((at_ : Int), 204), _, H.out, by simp, HI.out.fr, by rw [← HRES.out], by omega⟩⟩⟩
                  | some z =>
                    go_wp2_with (first
                      | (go_at_call 88; refine HT.out.mono ?_; rintro xx w1 ⟨rfl, hq1, hq2⟩; have n1_ := Aside0.mk hq1; have n2_ := Aside0.mk (HI.out.step hq2); clear H HI hq1 hq2 h1; have H := n1_; have HI := n2_; clear n1_ n2_; have hx := (H.out.old.cell (World.block_lt_of_cell? w0 _ HX.out)).trans HX.out)
                      | (go_at_call 89; refine (HCO.out _ H.out).mono ?_; rintro xx w8 ⟨v, rfl, hq1, hq2, hq3, _⟩; obtain rfl := (hq3 _ _ rfl).symm; obtain ⟨j2, hrs, hr0⟩ := hq1; have HR2 := Aside0.mk (show r2 = (b.take e).drop j2 from hr0); have n2_ := Aside0.mk (HI.out.step hq2); clear H HI hr0 hq3; have H := Aside0.mk hrs; have HI := n2_; clear n2_ hq2 hrs; have hx := (H.out.old.cell (World.block_lt_of_cell? w0 _ HX.out)).trans HX.out)
                      | (go_at_call 54; refine (bad_same w0 _ g A c b _ e 0 0 false H.out rfl).mono ?_; rintro xx w8 ⟨rfl, rfl⟩)
                      | ((with_reducible refine gate_dst (N := 11) rfl ?_); refine box_event (N := 11) rfl rfl (cs := #[.int .i64 0, .int .i64 0, .int .u64 0, .int .u64 0, .int .u64 0, .int .u64 0, .string (⟨#[]⟩ : ByteArray)]) (t := 78) ?hr2 ?_; (case hr2 => first | (go_simp; done) | (go_simp; rfl)); intro gx hgx w4 hbox hb4; have HGX := Aside0.mk (show w.heap.size ≤ gx ∧ u7.ownBlock ≠ some gx by have h2 := HI.out.size; refine ⟨by omega, fun h => ?_⟩; have := own_lt HI.out.row _ h; omega); have n1_ := Aside0.mk (HI.out.below hb4); have n2_ := Aside0.mk (H.out.below hb4); have HXR := Aside0.mk (show RowAt w4 gx 78 (insCells zIns) from ⟨_, hbox, rfl⟩); have HGU := Aside0.mk (HI.out.fresh hgx); clear H HI hbox hb4 hgx hx; have HI := n1_; have H := n2_; clear n1_ n2_)
                      | ((with_reducible refine gate_store (t := 78) (p := 11) rfl ?_); refine put_event rfl rfl 78 (.tmp 11) (.tmp 62) rfl (off := 0) (u := .agg #[.int .i64 (x % 16), .int .i64 0, .int .u64 0, .int .u64 0, .int .u64 0, .int .u64 0, .string (⟨#[]⟩ : ByteArray)]) (seg := insCells { zIns with f0 := x % 16 }) rfl rfl HXR.out rfl (by kernel_rfl) (by simp [insCells]) (by simp [insCells, Value.oneCell']) ?_; intro w5 hrow hgr; have n1_ := Aside0.mk (HI.out.grownX HGX.out.1 HGX.out.2 HGU.out hgr); have n2_ := Aside0.mk (H.out.grown hgr (by have := HGX.out.1; have := HI.out.glt; omega) (by have := HGX.out.1; have := HI.out.glt; have := H.out.ge; omega)); have n3_ := Aside0.mk (show RowAt w5 gx 78 (insCells { zIns with f0 := x % 16 }) from hrow); clear H HI HXR hrow hgr; have HI := n1_; have H := n2_; have HXR := n3_; clear n1_ n2_ n3_)
                      | ((go_at_call 91; refine (put_any w0.heap.size _ gu gx q nn n (x % 16) vc vn vs vt kc kn S T HI.out.us HXR.out (by omega) (by omega) HST.out.1 HST.out.2 HGU.out).mono ?_; rintro xx w6 ⟨y, kc', kn', vc', vn', rfl, hu, hx6, hz, hb, hat1, hat2⟩; rw [HPUT.out] at hz ⊢; have n1_ := Aside0.mk (HI.out.put HGX.out.1 HGX.out.2 hu hb hat1 hat2); have n2_ := Aside0.mk (H.out.but hb (HI.out.putFar HGX.out.1 HW0.out)); clear H HI HXR hu hb hat1 hat2; have HI := n1_; have H := n2_; have HXR := Aside0.mk hx6; have HZ := Aside0.mk hz; clear n1_ n2_ hx6 hz); have q0 := (HXR.out.cell 0).trans (show (insCells y)[0]? = some (.int .i64 (y).f0) from rfl); have q1 := (HXR.out.cell 1).trans (show (insCells y)[1]? = some (.int .i64 (y).f1) from rfl); have q2 := (HXR.out.cell 2).trans (show (insCells y)[2]? = some (.int .u64 (y).f2.f0) from rfl); have q3 := (HXR.out.cell 3).trans (show (insCells y)[3]? = some (.int .u64 (y).f2.f1) from rfl); have q4 := (HXR.out.cell 4).trans (show (insCells y)[4]? = some (.int .u64 (y).f2.f2) from rfl); have q5 := (HXR.out.cell 5).trans (show (insCells y)[5]? = some (.int .u64 (y).f2.f3) from rfl); have q6 := (HXR.out.cell 6).trans (show (insCells y)[6]? = some (.string (y).f3) from rfl))
                      | ((with_reducible refine gate_builtin (b := .append) (xs := #[.tmp 77, .tmp 79]) rfl ?_); at_builtin; refine print_append_cells w.heap.size rfl (.tmp 77) (.tmp 79) 40 78 (.agg #[.int .i64 0, .int .i64 0, .int .u64 0, .int .u64 0, .int .u64 0, .int .u64 0, .string (⟨#[]⟩ : ByteArray)]) 7 64 rfl Try.underlying40 (by kernel_rfl) rfl (by decide) (by decide) u7 acc.length (acc.flatMap insCells) (insCells y) rfl rfl rfl (by simp [insCells, Value.oneCell']) HI.out.row (Below.refl _ _) (HI.out.size) (by have := HAQ.out; have := HNB.out; omega) ?_; intro v5 w9 hown hbel hgr hat; have n1_ := Aside0.mk (HI.out.append (y := y) hown hgr hat); have n2_ := Aside0.mk (H.out.through hgr (fun k hk => by have := own_base HI.out.row k hk; have := HI.out.glt; have := HW0.out; omega)); clear H HI hown hgr hat hbel q0 q1 q2 q3 q4 q5 q6; have HI := n1_; have H := n2_; clear n1_ n2_))
                    go_roundw
                    case measure => simp [intOf]; omega
                    case rel =>
                      have hzz := HZ.out _ rfl
                      have hr := HRES.out
                      rw [hzz] at hr
                      exact ⟨q + 1, by go_num, ⟨.inl ⟨acc ++ [y], kc', kn', vc', vn', _, H.out, HI.out, by simp [haq], by rw [← hr, HR2.out], by omega⟩⟩⟩
              · have b15 : (x / 16 == 15) = false := by simpa using c15
                rw [if_neg c15] at hres
                dsimp only at hres
                obtain ⟨nn, hnn⟩ : ∃ nn : Nat, x / 16 = nn := ⟨(x / 16).toNat, by omega⟩
                have hn16 : nn < 16 := by omega
                rw [show (x / 16).toNat = nn by omega] at hres
                rw [hnn] at hh1 hh2 b15
                clear c15
                generalize hput : putL (x % 16) q nn n kc kn S T = pt at *
                have HPUT := Aside0.mk hput
                have HRES := Aside0.mk hres
                clear hput hres
                match pt with
                | none =>
                  go_wp2_with (first
                    | (go_at_call 88; refine HT.out.mono ?_; rintro xx w1 ⟨rfl, hq1, hq2⟩; have n1_ := Aside0.mk hq1; have n2_ := Aside0.mk (HI.out.step hq2); clear H HI hq1 hq2 h1; have H := n1_; have HI := n2_; clear n1_ n2_; have hx := (H.out.old.cell (World.block_lt_of_cell? w0 _ HX.out)).trans HX.out)
                    | (go_at_call 54; refine (bad_same w0 _ g A c b _ e 0 0 false H.out rfl).mono ?_; rintro xx w8 ⟨rfl, rfl⟩)
                    | ((with_reducible refine gate_dst (N := 11) rfl ?_); refine box_event (N := 11) rfl rfl (cs := #[.int .i64 0, .int .i64 0, .int .u64 0, .int .u64 0, .int .u64 0, .int .u64 0, .string (⟨#[]⟩ : ByteArray)]) (t := 78) ?hr2 ?_; (case hr2 => first | (go_simp; done) | (go_simp; rfl)); intro gx hgx w4 hbox hb4; have HGX := Aside0.mk (show w.heap.size ≤ gx ∧ u7.ownBlock ≠ some gx by have h2 := HI.out.size; refine ⟨by omega, fun h => ?_⟩; have := own_lt HI.out.row _ h; omega); have n1_ := Aside0.mk (HI.out.below hb4); have n2_ := Aside0.mk (H.out.below hb4); have HXR := Aside0.mk (show RowAt w4 gx 78 (insCells zIns) from ⟨_, hbox, rfl⟩); have HGU := Aside0.mk (HI.out.fresh hgx); clear H HI hbox hb4 hgx hx; have HI := n1_; have H := n2_; clear n1_ n2_)
                    | ((with_reducible refine gate_store (t := 78) (p := 11) rfl ?_); refine put_event rfl rfl 78 (.tmp 11) (.tmp 62) rfl (off := 0) (u := .agg #[.int .i64 (x % 16), .int .i64 0, .int .u64 0, .int .u64 0, .int .u64 0, .int .u64 0, .string (⟨#[]⟩ : ByteArray)]) (seg := insCells { zIns with f0 := x % 16 }) rfl rfl HXR.out rfl (by kernel_rfl) (by simp [insCells]) (by simp [insCells, Value.oneCell']) ?_; intro w5 hrow hgr; have n1_ := Aside0.mk (HI.out.grownX HGX.out.1 HGX.out.2 HGU.out hgr); have n2_ := Aside0.mk (H.out.grown hgr (by have := HGX.out.1; have := HI.out.glt; omega) (by have := HGX.out.1; have := HI.out.glt; have := H.out.ge; omega)); have n3_ := Aside0.mk (show RowAt w5 gx 78 (insCells { zIns with f0 := x % 16 }) from hrow); clear H HI HXR hrow hgr; have HI := n1_; have H := n2_; have HXR := n3_; clear n1_ n2_ n3_)
                    | (go_at_call 91; refine (put_any w0.heap.size _ gu gx q nn n (x % 16) vc vn vs vt kc kn S T HI.out.us HXR.out (by omega) (by omega) HST.out.1 HST.out.2 HGU.out).mono ?_; rintro xx w6 ⟨y, kc', kn', vc', vn', rfl, hu, hx6, hz, hb, hat1, hat2⟩; rw [HPUT.out] at hz ⊢; have n1_ := Aside0.mk (HI.out.put HGX.out.1 HGX.out.2 hu hb hat1 hat2); have n2_ := Aside0.mk (H.out.but hb (HI.out.putFar HGX.out.1 HW0.out)); clear H HI HXR hu hb hat1 hat2; have HI := n1_; have H := n2_; have HXR := Aside0.mk hx6; have HZ := Aside0.mk hz; clear n1_ n2_ hx6 hz)
                    | (go_at_call 55; refine (fail_ok w0 _ g A c b _ e _ _ H.out).mono ?_; rintro xx w8 ⟨rfl, hq1, hq2⟩; have n1_ := Aside0.mk hq1; have n2_ := Aside0.mk (HI.out.step hq2); have n3_ := Aside0.mk (HXR.out.kept (hq2.2 gx HXR.out.lt (by have := HGX.out.1; have := HI.out.glt; omega))); clear H HI HXR hq1 hq2; have H := n1_; have HI := n2_; have HXR := n3_; clear n1_ n2_ n3_; have q0 := (HXR.out.cell 0).trans (show (insCells y)[0]? = some (.int .i64 (y).f0) from rfl); have q1 := (HXR.out.cell 1).trans (show (insCells y)[1]? = some (.int .i64 (y).f1) from rfl); have q2 := (HXR.out.cell 2).trans (show (insCells y)[2]? = some (.int .u64 (y).f2.f0) from rfl); have q3 := (HXR.out.cell 3).trans (show (insCells y)[3]? = some (.int .u64 (y).f2.f1) from rfl); have q4 := (HXR.out.cell 4).trans (show (insCells y)[4]? = some (.int .u64 (y).f2.f2) from rfl); have q5 := (HXR.out.cell 5).trans (show (insCells y)[5]? = some (.int .u64 (y).f2.f3) from rfl); have q6 := (HXR.out.cell 6).trans (show (insCells y)[6]? = some (.string (y).f3) from rfl))
                    | ((with_reducible refine gate_builtin (b := .append) (xs := #[.tmp 77, .tmp 79]) rfl ?_); at_builtin; refine print_append_cells w.heap.size rfl (.tmp 77) (.tmp 79) 40 78 (.agg #[.int .i64 0, .int .i64 0, .int .u64 0, .int .u64 0, .int .u64 0, .int .u64 0, .string (⟨#[]⟩ : ByteArray)]) 7 64 rfl Try.underlying40 (by kernel_rfl) rfl (by decide) (by decide) u7 acc.length (acc.flatMap insCells) (insCells y) rfl rfl rfl (by simp [insCells, Value.oneCell']) HI.out.row (Below.refl _ _) (HI.out.size) (by have := HAQ.out; have := HNB.out; omega) ?_; intro v5 w9 hown hbel hgr hat; have n1_ := Aside0.mk (HI.out.append (y := y) hown hgr hat); have n2_ := Aside0.mk (H.out.through hgr (fun k hk => by have := own_base HI.out.row k hk; have := HI.out.glt; have := HW0.out; omega)); clear H HI hown hgr hat hbel q0 q1 q2 q3 q4 q5 q6; have HI := n1_; have H := n2_; clear n1_ n2_))
                  go_roundw
                  case measure => simp [intOf]; omega
                  case rel => exact ⟨q + 1, by go_num, ⟨.inr ⟨((at_ : Int), 204), _, H.out, by simp, HI.out.fr, by rw [← HRES.out], by omega⟩⟩⟩
                | some z =>
                  go_wp2_with (first
                    | (go_at_call 88; refine HT.out.mono ?_; rintro xx w1 ⟨rfl, hq1, hq2⟩; have n1_ := Aside0.mk hq1; have n2_ := Aside0.mk (HI.out.step hq2); clear H HI hq1 hq2 h1; have H := n1_; have HI := n2_; clear n1_ n2_; have hx := (H.out.old.cell (World.block_lt_of_cell? w0 _ HX.out)).trans HX.out)
                    | (go_at_call 54; refine (bad_same w0 _ g A c b _ e 0 0 false H.out rfl).mono ?_; rintro xx w8 ⟨rfl, rfl⟩)
                    | ((with_reducible refine gate_dst (N := 11) rfl ?_); refine box_event (N := 11) rfl rfl (cs := #[.int .i64 0, .int .i64 0, .int .u64 0, .int .u64 0, .int .u64 0, .int .u64 0, .string (⟨#[]⟩ : ByteArray)]) (t := 78) ?hr2 ?_; (case hr2 => first | (go_simp; done) | (go_simp; rfl)); intro gx hgx w4 hbox hb4; have HGX := Aside0.mk (show w.heap.size ≤ gx ∧ u7.ownBlock ≠ some gx by have h2 := HI.out.size; refine ⟨by omega, fun h => ?_⟩; have := own_lt HI.out.row _ h; omega); have n1_ := Aside0.mk (HI.out.below hb4); have n2_ := Aside0.mk (H.out.below hb4); have HXR := Aside0.mk (show RowAt w4 gx 78 (insCells zIns) from ⟨_, hbox, rfl⟩); have HGU := Aside0.mk (HI.out.fresh hgx); clear H HI hbox hb4 hgx hx; have HI := n1_; have H := n2_; clear n1_ n2_)
                    | ((with_reducible refine gate_store (t := 78) (p := 11) rfl ?_); refine put_event rfl rfl 78 (.tmp 11) (.tmp 62) rfl (off := 0) (u := .agg #[.int .i64 (x % 16), .int .i64 0, .int .u64 0, .int .u64 0, .int .u64 0, .int .u64 0, .string (⟨#[]⟩ : ByteArray)]) (seg := insCells { zIns with f0 := x % 16 }) rfl rfl HXR.out rfl (by kernel_rfl) (by simp [insCells]) (by simp [insCells, Value.oneCell']) ?_; intro w5 hrow hgr; have n1_ := Aside0.mk (HI.out.grownX HGX.out.1 HGX.out.2 HGU.out hgr); have n2_ := Aside0.mk (H.out.grown hgr (by have := HGX.out.1; have := HI.out.glt; omega) (by have := HGX.out.1; have := HI.out.glt; have := H.out.ge; omega)); have n3_ := Aside0.mk (show RowAt w5 gx 78 (insCells { zIns with f0 := x % 16 }) from hrow); clear H HI HXR hrow hgr; have HI := n1_; have H := n2_; have HXR := n3_; clear n1_ n2_ n3_)
                    | ((go_at_call 91; refine (put_any w0.heap.size _ gu gx q nn n (x % 16) vc vn vs vt kc kn S T HI.out.us HXR.out (by omega) (by omega) HST.out.1 HST.out.2 HGU.out).mono ?_; rintro xx w6 ⟨y, kc', kn', vc', vn', rfl, hu, hx6, hz, hb, hat1, hat2⟩; rw [HPUT.out] at hz ⊢; have n1_ := Aside0.mk (HI.out.put HGX.out.1 HGX.out.2 hu hb hat1 hat2); have n2_ := Aside0.mk (H.out.but hb (HI.out.putFar HGX.out.1 HW0.out)); clear H HI HXR hu hb hat1 hat2; have HI := n1_; have H := n2_; have HXR := Aside0.mk hx6; have HZ := Aside0.mk hz; clear n1_ n2_ hx6 hz); have q0 := (HXR.out.cell 0).trans (show (insCells y)[0]? = some (.int .i64 (y).f0) from rfl); have q1 := (HXR.out.cell 1).trans (show (insCells y)[1]? = some (.int .i64 (y).f1) from rfl); have q2 := (HXR.out.cell 2).trans (show (insCells y)[2]? = some (.int .u64 (y).f2.f0) from rfl); have q3 := (HXR.out.cell 3).trans (show (insCells y)[3]? = some (.int .u64 (y).f2.f1) from rfl); have q4 := (HXR.out.cell 4).trans (show (insCells y)[4]? = some (.int .u64 (y).f2.f2) from rfl); have q5 := (HXR.out.cell 5).trans (show (insCells y)[5]? = some (.int .u64 (y).f2.f3) from rfl); have q6 := (HXR.out.cell 6).trans (show (insCells y)[6]? = some (.string (y).f3) from rfl))
                    | ((with_reducible refine gate_builtin (b := .append) (xs := #[.tmp 77, .tmp 79]) rfl ?_); at_builtin; refine print_append_cells w.heap.size rfl (.tmp 77) (.tmp 79) 40 78 (.agg #[.int .i64 0, .int .i64 0, .int .u64 0, .int .u64 0, .int .u64 0, .int .u64 0, .string (⟨#[]⟩ : ByteArray)]) 7 64 rfl Try.underlying40 (by kernel_rfl) rfl (by decide) (by decide) u7 acc.length (acc.flatMap insCells) (insCells y) rfl rfl rfl (by simp [insCells, Value.oneCell']) HI.out.row (Below.refl _ _) (HI.out.size) (by have := HAQ.out; have := HNB.out; omega) ?_; intro v5 w9 hown hbel hgr hat; have n1_ := Aside0.mk (HI.out.append (y := y) hown hgr hat); have n2_ := Aside0.mk (H.out.through hgr (fun k hk => by have := own_base HI.out.row k hk; have := HI.out.glt; have := HW0.out; omega)); clear H HI hown hgr hat hbel q0 q1 q2 q3 q4 q5 q6; have HI := n1_; have H := n2_; clear n1_ n2_))
                  go_roundw
                  case measure => simp [intOf]; omega
                  case rel =>
                    have hzz := HZ.out _ rfl
                    have hr := HRES.out
                    rw [hzz] at hr
                    exact ⟨q + 1, by go_num, ⟨.inl ⟨acc ++ [y], kc', kn', vc', vn', _, H.out, HI.out, by simp [haq], by rw [← hr], by omega⟩⟩⟩
            · rw [left_nil c2, insL] at hres
              go_wp2_with (first
                | (go_at_call 88; refine (take_short w0 _ g A c b at_ e 1 (by omega) H.out (by omega)).mono ?_; rintro xx w1 ⟨rfl, hq1, hq2⟩; have n1_ := Aside0.mk hq1; have n2_ := Aside0.mk (HI.out.step hq2); clear H h1 hq1 hq2 HI; have H := n1_; have HI := n2_; clear n1_ n2_)
                | (go_at_call 54; first | (refine (bad_same w0 _ g A c b _ _ _ 200 true H.out rfl).mono ?_; rintro xx w1 ⟨rfl, rfl⟩) | (refine (bad_same w0 _ g A c b _ _ 0 0 false H.out rfl).mono ?_; rintro xx w1 ⟨rfl, rfl⟩)))
              go_ret
              subst hres
              exact ⟨_, rfl, ⟨_, by simp, H.out⟩, HI.out.fr, (fun _ _ _ _ h => by cases h)⟩
          · have b1 : decide ((q : Int) < (n : Int)) = false := decide_eq_false (by omega)
            rw [show n - q = 0 by omega, insL] at hres
            go_wp2
            go_ret
            subst hres
            exact ⟨_, rfl, ⟨_, H.out, rfl⟩, HI.out.fr, (fun acc' kc' kn' r' h => by injection h with h; injection h with h1 h2; injection h2 with h2 h3; injection h3 with h3 h4; subst h1 h2 h3; exact ⟨_, _, HI.out⟩)⟩
        · clear hcase
          have HF := Aside0.mk (show (f.2 != 0) = true by simpa using hf)
          have H := Aside0.mk hrs
          have HO := Aside0.mk hon
          clear hf hrs hon
          by_cases c1 : q < n
          · have b1 : decide ((q : Int) < (n : Int)) = true := decide_eq_true (by omega)
            go_wp2_with (first
              | (go_at_call 54; refine (bad_same w0 _ g A c b _ e _ _ true H.out HF.out).mono ?_; rintro xx w8 ⟨rfl, rfl⟩))
            go_ret
            exact ⟨_, rfl, ⟨_, by simpa using HF.out, H.out⟩, HO.out, (fun _ _ _ _ h => by cases h)⟩
          · have b1 : decide ((q : Int) < (n : Int)) = false := decide_eq_false (by omega)
            go_wp2
            go_ret
            exact ⟨_, rfl, ⟨_, by simpa using HF.out, H.out⟩, HO.out, (fun _ _ _ _ h => by cases h)⟩
theorem program_bad (gu : Nat) (fa fc : Int) (h : RS w0 w g A c b i e fa fc) (hc : fc ≠ 0) : Calls Try.prog 53 #[.pointer (some ⟨g, 0, none⟩), .pointer (some ⟨gu, 0, none⟩)] w fun x w' => x = .returned (.slice none 0 0) ∧ RS w0 w' g A c b i e fa fc ∧ Only w w' g := by
  have HMA := Aside0.mk (many_bad w0 w g A c b i e fa fc h hc)
  have HF := Aside0.mk (show (fc != 0) = true by simpa using hc)
  have h1 := h.c1
  clear h hc
  go_enter Try.func53, Try.ntmps53
  go_wp2_with (first
    | (go_at_call 87; refine HMA.out.mono ?_; rintro xx w1 ⟨rfl, hq1, hq2⟩; have H := Aside0.mk hq1; have HO := Aside0.mk hq2; clear hq1 hq2)
    | (go_at_call 54; refine (bad_same w0 _ g A c b _ e _ _ true H.out HF.out).mono ?_; rintro xx w8 ⟨rfl, rfl⟩))
  refine wp_loop_once ?_
  go_wp2
  go_ret
  exact ⟨rfl, H.out, HO.out⟩
end
end Go.Proofs.Ytebiogaacikphaa.Pack
end
section
namespace Go.Proofs.Ytebiogaacikphaa.PAll
open Go.RowKit Go.Proofs.YtebiogaacikphaaW.PrintWords Go.Proofs.YtebiogaacikphaaW.PrintLast Go.Proofs.YtebiogaacikphaaW.PrintMore
set_option linter.unusedVariables false
set_option linter.unusedSimpArgs false
theorem eqA90 (d : Nat) (w : World) (x0 y0 : Int) (x1 y1 : Int) (x2 y2 : Int) (x3 y3 : Int) (x4 y4 : Int) (x5 y5 : Int) (x6 y6 : ByteArray) :
    (Op.equalIn (d + 3) 90 (.agg #[.int .i64 x0, .int .u64 x1, .int .u64 x2, .int .u64 x3, .int .u64 x4, .int .i64 x5, .string x6]) (.agg #[.int .i64 y0, .int .u64 y1, .int .u64 y2, .int .u64 y3, .int .u64 y4, .int .i64 y5, .string y6])).run Try.prog w = .ok (x0 == y0 && ((x1 == y1 && (x2 == y2 && (x3 == y3 && (x4 == y4)))) && (x5 == y5 && (x6.toList == y6.toList)))) w := by
  refine eqA_of Try.underlying90 (by kernel_rfl) ?_
  refine eqf_cons (by rfl) (by go_simp; rfl) (by go_simp; rfl) (by go_simp) ?_
  refine eqf_cons (by rfl) (by go_simp) (by go_simp) (eqA76 (d + 0) w _ _ _ _ _ _ _ _) ?_
  refine eqf_cons (by rfl) (by go_simp; rfl) (by go_simp; rfl) (by go_simp) ?_
  exact eqf_last (by rfl) (by go_simp; rfl) (by go_simp; rfl) (by go_simp)
end Go.Proofs.Ytebiogaacikphaa.PAll
end
section
namespace Go.Proofs.Ytebiogaacikphaa.PAll
open Go.RowKit Go.Proofs.YtebiogaacikphaaW.PrintWords Go.Proofs.YtebiogaacikphaaW.PrintLast Go.Proofs.YtebiogaacikphaaW.PrintMore
set_option linter.unusedVariables false
set_option linter.unusedSimpArgs false
def core_arity.j0 : Nat → Int → Bool → Option (Int)
  | 0, _, _ => none
  | k + 1, x3, x4 => if x4 = true then (some 2) else (if x3 = 6 then (some 1) else (if x3 = 7 then (some 1) else (if x3 = 8 then (some 1) else (some 0))))
def core_arity.f (k : Nat) (a0 : Int) : Option (Int) := if a0 = 4 then (core_arity.j0 k a0 (a0 == 4)) else (core_arity.j0 k a0 (a0 == 5))
theorem core_arity.mono_l : ∀ k, (∀ y0 y1, LeO (core_arity.j0 k y0 y1) (core_arity.j0 (k + 1) y0 y1))
  | 0 => fun _ _ r h => by simp [core_arity.j0] at h
  | k + 1 => by
    have ih0 := core_arity.mono_l k
    · intro y0 y1
      unfold core_arity.j0
      repeat' first
      | (with_reducible exact ih0 _ _)
      | (with_reducible exact LeO.refl _)
      | (with_reducible exact LeO.none _)
      | (with_reducible refine LeO.ite ?_ ?_)
      | (with_reducible refine LeO.bind ?_ (fun _ => ?_))
      | exact ih0 _ _
      | exact LeO.none _
      | refine LeO.ite ?_ ?_
      | refine LeO.bind ?_ (fun _ => ?_)
theorem core_arity.mono : ∀ a0 k, LeO (core_arity.f k a0) (core_arity.f (k + 1) a0) := by
  intro a0 k
  have ih0 := core_arity.mono_l k
  unfold core_arity.f
  repeat' first
      | (with_reducible exact ih0 _ _)
      | (with_reducible exact LeO.refl _)
      | (with_reducible exact LeO.none _)
      | (with_reducible refine LeO.ite ?_ ?_)
      | (with_reducible refine LeO.bind ?_ (fun _ => ?_))
      | exact ih0 _ _
      | exact LeO.none _
      | refine LeO.ite ?_ ?_
      | refine LeO.bind ?_ (fun _ => ?_)
end Go.Proofs.Ytebiogaacikphaa.PAll
end
section
namespace Go.Proofs.Ytebiogaacikphaa.PAll
open Go.RowKit Go.Proofs.YtebiogaacikphaaW.PrintWords Go.Proofs.YtebiogaacikphaaW.PrintLast Go.Proofs.YtebiogaacikphaaW.PrintMore
set_option linter.unusedVariables false
set_option linter.unusedSimpArgs false
attribute [local go_sem high] eqA90
mutual
def core_right.l0 : Nat → Int → Int → List (S90) → Int → Int → Option (Bool)
  | 0, _, _, _, _, _ => none
  | k + 1, x1, x5, x11, x12, x13 => if x13 < x12 then (if 0 ≤ x13 then (if x13 < (x11.length : Int) then ((core_arity.f k ((rd_T90 x11 x13).f0)).bind fun t174 => (if t174 ≤ x5 then (if ((rd_T90 x11 x13).f0) ≥ 0 then (core_right.j1 k x1 x5 t174 (decide (((rd_T90 x11 x13).f0) ≤ 8)) x11 x12 x13 ((rd_T90 x11 x13).f0) ((rd_T90 x11 x13).f1.f0) ((rd_T90 x11 x13).f1.f1) ((rd_T90 x11 x13).f1.f2) ((rd_T90 x11 x13).f1.f3) ((rd_T90 x11 x13).f2) ((rd_T90 x11 x13).f3) ((rd_T90 x11 x13).f0) 0 0 0 0 0 (⟨#[]⟩ : ByteArray)) else (core_right.j1 k x1 x5 t174 false x11 x12 x13 ((rd_T90 x11 x13).f0) ((rd_T90 x11 x13).f1.f0) ((rd_T90 x11 x13).f1.f1) ((rd_T90 x11 x13).f1.f2) ((rd_T90 x11 x13).f1.f3) ((rd_T90 x11 x13).f2) ((rd_T90 x11 x13).f3) ((rd_T90 x11 x13).f0) 0 0 0 0 0 (⟨#[]⟩ : ByteArray))) else (core_right.j1 k x1 x5 t174 false x11 x12 x13 ((rd_T90 x11 x13).f0) ((rd_T90 x11 x13).f1.f0) ((rd_T90 x11 x13).f1.f1) ((rd_T90 x11 x13).f1.f2) ((rd_T90 x11 x13).f1.f3) ((rd_T90 x11 x13).f2) ((rd_T90 x11 x13).f3) ((rd_T90 x11 x13).f0) 0 0 0 0 0 (⟨#[]⟩ : ByteArray)))) else (none)) else (none)) else (some (x5 == 1))
def core_right.j1 : Nat → Int → Int → Int → Bool → List (S90) → Int → Int → Int → Int → Int → Int → Int → Int → ByteArray → Int → Int → Int → Int → Int → Int → ByteArray → Option (Bool)
  | 0, _, _, _, _, _, _, _, _, _, _, _, _, _, _, _, _, _, _, _, _, _ => none
  | k + 1, x1, x5, x8, x10, x11, x12, x13, x174000, x174001, x174002, x174003, x174004, x174005, x174006, x176000, x176001, x176002, x176003, x176004, x176005, x176006 => if x174000 = 1 then (if x10 = true then (if (!(x174000 == x176000) || (!(x174005 == x176005) || (!(x174006.toList == x176006.toList)))) = true then (some false) else (core_right.l0 k x1 (wrap64 (x5 + (wrap64 (1 - x8)))) x11 x12 (wrap64 (x13 + 1)))) else (some false)) else (if x174000 = 2 then (if x10 = true then (if x174005 ≥ 0 then (if x174005 < x1 then (if (!(x174000 == x176000) || ((!(x174001 == x176001) || (!(x174002 == x176002) || (!(x174003 == x176003) || (!(x174004 == x176004))))) || (!(x174006.toList == x176006.toList)))) = true then (some false) else (core_right.l0 k x1 (wrap64 (x5 + (wrap64 (1 - x8)))) x11 x12 (wrap64 (x13 + 1)))) else (some false)) else (some false)) else (some false)) else (if x174000 = 3 then (core_right.j2 k x1 x5 x8 x10 x11 x12 x13 (x174000 == 3) x174000 x174001 x174002 x174003 x174004 x174005 x174006 x176000 x176001 x176002 x176003 x176004 x176005 x176006) else (core_right.j2 k x1 x5 x8 x10 x11 x12 x13 (x174000 == 8) x174000 x174001 x174002 x174003 x174004 x174005 x174006 x176000 x176001 x176002 x176003 x176004 x176005 x176006)))
def core_right.j2 : Nat → Int → Int → Int → Bool → List (S90) → Int → Int → Bool → Int → Int → Int → Int → Int → Int → ByteArray → Int → Int → Int → Int → Int → Int → ByteArray → Option (Bool)
  | 0, _, _, _, _, _, _, _, _, _, _, _, _, _, _, _, _, _, _, _, _, _, _ => none
  | k + 1, x1, x5, x8, x10, x11, x12, x13, x60, x174000, x174001, x174002, x174003, x174004, x174005, x174006, x176000, x176001, x176002, x176003, x176004, x176005, x176006 => if x60 = true then (if x10 = true then ((lexis_Name.f k x174006).bind fun t176 => (if t176 = true then ((strings_ContainsAny.f x174006 (⟨#[58, 126]⟩ : ByteArray)).bind fun t177 => (if t177 = true then (some false) else (if (!(x174000 == x176000) || ((!(x174001 == x176001) || (!(x174002 == x176002) || (!(x174003 == x176003) || (!(x174004 == x176004))))) || (!(x174005 == x176005)))) = true then (some false) else (core_right.l0 k x1 (wrap64 (x5 + (wrap64 (1 - x8)))) x11 x12 (wrap64 (x13 + 1)))))) else (some false))) else (some false)) else (if x10 = true then (if (!(x174000 == x176000) || ((!(x174001 == x176001) || (!(x174002 == x176002) || (!(x174003 == x176003) || (!(x174004 == x176004))))) || (!(x174005 == x176005) || (!(x174006.toList == x176006.toList))))) = true then (some false) else (core_right.l0 k x1 (wrap64 (x5 + (wrap64 (1 - x8)))) x11 x12 (wrap64 (x13 + 1)))) else (some false))
end
def core_right.f (k : Nat) (l0 : List (S90)) (a1 : Int) : Option (Bool) := core_right.l0 k a1 0 l0 (l0.length : Int) 0
theorem core_right.mono_l : ∀ k, (∀ y0 y1 y2 y3 y4, LeO (core_right.l0 k y0 y1 y2 y3 y4) (core_right.l0 (k + 1) y0 y1 y2 y3 y4)) ∧ (∀ y0 y1 y2 y3 y4 y5 y6 y7 y8 y9 y10 y11 y12 y13 y14 y15 y16 y17 y18 y19 y20, LeO (core_right.j1 k y0 y1 y2 y3 y4 y5 y6 y7 y8 y9 y10 y11 y12 y13 y14 y15 y16 y17 y18 y19 y20) (core_right.j1 (k + 1) y0 y1 y2 y3 y4 y5 y6 y7 y8 y9 y10 y11 y12 y13 y14 y15 y16 y17 y18 y19 y20)) ∧ (∀ y0 y1 y2 y3 y4 y5 y6 y7 y8 y9 y10 y11 y12 y13 y14 y15 y16 y17 y18 y19 y20 y21, LeO (core_right.j2 k y0 y1 y2 y3 y4 y5 y6 y7 y8 y9 y10 y11 y12 y13 y14 y15 y16 y17 y18 y19 y20 y21) (core_right.j2 (k + 1) y0 y1 y2 y3 y4 y5 y6 y7 y8 y9 y10 y11 y12 y13 y14 y15 y16 y17 y18 y19 y20 y21))
  | 0 => ⟨fun _ _ _ _ _ r h => by simp [core_right.l0] at h, fun _ _ _ _ _ _ _ _ _ _ _ _ _ _ _ _ _ _ _ _ _ r h => by simp [core_right.j1] at h, fun _ _ _ _ _ _ _ _ _ _ _ _ _ _ _ _ _ _ _ _ _ _ r h => by simp [core_right.j2] at h⟩
  | k + 1 => by
    obtain ⟨ih0, ih1, ih2⟩ := core_right.mono_l k
    refine ⟨?_, ?_, ?_⟩
    · intro y0 y1 y2 y3 y4
      unfold core_right.l0
      repeat' first
      | (with_reducible exact ih0 _ _ _ _ _)
      | (with_reducible exact ih1 _ _ _ _ _ _ _ _ _ _ _ _ _ _ _ _ _ _ _ _ _)
      | (with_reducible exact ih2 _ _ _ _ _ _ _ _ _ _ _ _ _ _ _ _ _ _ _ _ _ _)
      | (with_reducible exact core_arity.mono _ _)
      | (with_reducible exact lexis_Name.mono _ _)
      | (with_reducible exact LeO.refl _)
      | (with_reducible exact LeO.none _)
      | (with_reducible refine LeO.ite ?_ ?_)
      | (with_reducible refine LeO.bind ?_ (fun _ => ?_))
      | exact ih0 _ _ _ _ _
      | exact ih1 _ _ _ _ _ _ _ _ _ _ _ _ _ _ _ _ _ _ _ _ _
      | exact ih2 _ _ _ _ _ _ _ _ _ _ _ _ _ _ _ _ _ _ _ _ _ _
      | exact core_arity.mono _ _
      | exact lexis_Name.mono _ _
      | exact LeO.none _
      | refine LeO.ite ?_ ?_
      | refine LeO.bind ?_ (fun _ => ?_)
    · intro y0 y1 y2 y3 y4 y5 y6 y7 y8 y9 y10 y11 y12 y13 y14 y15 y16 y17 y18 y19 y20
      unfold core_right.j1
      repeat' first
      | (with_reducible exact ih0 _ _ _ _ _)
      | (with_reducible exact ih1 _ _ _ _ _ _ _ _ _ _ _ _ _ _ _ _ _ _ _ _ _)
      | (with_reducible exact ih2 _ _ _ _ _ _ _ _ _ _ _ _ _ _ _ _ _ _ _ _ _ _)
      | (with_reducible exact core_arity.mono _ _)
      | (with_reducible exact lexis_Name.mono _ _)
      | (with_reducible exact LeO.refl _)
      | (with_reducible exact LeO.none _)
      | (with_reducible refine LeO.ite ?_ ?_)
      | (with_reducible refine LeO.bind ?_ (fun _ => ?_))
      | exact ih0 _ _ _ _ _
      | exact ih1 _ _ _ _ _ _ _ _ _ _ _ _ _ _ _ _ _ _ _ _ _
      | exact ih2 _ _ _ _ _ _ _ _ _ _ _ _ _ _ _ _ _ _ _ _ _ _
      | exact core_arity.mono _ _
      | exact lexis_Name.mono _ _
      | exact LeO.none _
      | refine LeO.ite ?_ ?_
      | refine LeO.bind ?_ (fun _ => ?_)
    · intro y0 y1 y2 y3 y4 y5 y6 y7 y8 y9 y10 y11 y12 y13 y14 y15 y16 y17 y18 y19 y20 y21
      unfold core_right.j2
      repeat' first
      | (with_reducible exact ih0 _ _ _ _ _)
      | (with_reducible exact ih1 _ _ _ _ _ _ _ _ _ _ _ _ _ _ _ _ _ _ _ _ _)
      | (with_reducible exact ih2 _ _ _ _ _ _ _ _ _ _ _ _ _ _ _ _ _ _ _ _ _ _)
      | (with_reducible exact core_arity.mono _ _)
      | (with_reducible exact lexis_Name.mono _ _)
      | (with_reducible exact LeO.refl _)
      | (with_reducible exact LeO.none _)
      | (with_reducible refine LeO.ite ?_ ?_)
      | (with_reducible refine LeO.bind ?_ (fun _ => ?_))
      | exact ih0 _ _ _ _ _
      | exact ih1 _ _ _ _ _ _ _ _ _ _ _ _ _ _ _ _ _ _ _ _ _
      | exact ih2 _ _ _ _ _ _ _ _ _ _ _ _ _ _ _ _ _ _ _ _ _ _
      | exact core_arity.mono _ _
      | exact lexis_Name.mono _ _
      | exact LeO.none _
      | refine LeO.ite ?_ ?_
      | refine LeO.bind ?_ (fun _ => ?_)
theorem core_right.mono : ∀ a0 a1 k, LeO (core_right.f k a0 a1) (core_right.f (k + 1) a0 a1) := by
  intro a0 a1 k
  obtain ⟨ih0, ih1, ih2⟩ := core_right.mono_l k
  unfold core_right.f
  repeat' first
      | (with_reducible exact ih0 _ _ _ _ _)
      | (with_reducible exact ih1 _ _ _ _ _ _ _ _ _ _ _ _ _ _ _ _ _ _ _ _ _)
      | (with_reducible exact ih2 _ _ _ _ _ _ _ _ _ _ _ _ _ _ _ _ _ _ _ _ _ _)
      | (with_reducible exact core_arity.mono _ _)
      | (with_reducible exact lexis_Name.mono _ _)
      | (with_reducible exact LeO.refl _)
      | (with_reducible exact LeO.none _)
      | (with_reducible refine LeO.ite ?_ ?_)
      | (with_reducible refine LeO.bind ?_ (fun _ => ?_))
      | exact ih0 _ _ _ _ _
      | exact ih1 _ _ _ _ _ _ _ _ _ _ _ _ _ _ _ _ _ _ _ _ _
      | exact ih2 _ _ _ _ _ _ _ _ _ _ _ _ _ _ _ _ _ _ _ _ _ _
      | exact core_arity.mono _ _
      | exact lexis_Name.mono _ _
      | exact LeO.none _
      | refine LeO.ite ?_ ?_
      | refine LeO.bind ?_ (fun _ => ?_)
end Go.Proofs.Ytebiogaacikphaa.PAll
end
section
namespace Go.Proofs.Ytebiogaacikphaa.PAll
open Go.RowKit Go.Proofs.YtebiogaacikphaaW.PrintWords Go.Proofs.YtebiogaacikphaaW.PrintLast Go.Proofs.YtebiogaacikphaaW.PrintMore
set_option linter.unusedVariables false
set_option linter.unusedSimpArgs false
attribute [local go_sem high] eqA90
/-- From rule i on; the names of the rules ahead are in the map. -/
def core_Check.l0 : Nat → List (S30) → Int → Option Int
  | 0, _, _ => none
  | k + 1, l, i => if i < (l.length : Int) then (if 0 ≤ i then (if ((l.take i.toNat).any fun r => r.f0.data.toList == (rd_T30 l i).f0.data.toList) = true then (some 6) else ((lexis_Name.f k (rd_T30 l i).f0).bind fun b => if b = true then ((core_right.f k (rd_T30 l i).f1 (l.length : Int)).bind fun b2 => if b2 = true then (core_Check.l0 k l (i + 1)) else (some 6)) else (some 6))) else (none)) else (some 0)
theorem core_Check.mono_l : ∀ k y0 y1, LeO (core_Check.l0 k y0 y1) (core_Check.l0 (k + 1) y0 y1)
  | 0 => fun _ _ r h => by simp [core_Check.l0] at h
  | k + 1 => fun y0 y1 => by
    unfold core_Check.l0
    refine LeO.ite (LeO.ite (LeO.ite (LeO.refl _) (LeO.bind (lexis_Name.mono _ _) fun (b : Bool) => LeO.ite (LeO.bind (core_right.mono _ _ _) fun (b2 : Bool) => LeO.ite (core_Check.mono_l k _ _) (LeO.refl _)) (LeO.refl _))) (LeO.none _)) (LeO.refl _)
def dowelbook_CoreBodies.l0 : Nat → List (S90) → List (S90) → Int → Option (Bool)
  | 0, _, _, _ => none
  | k + 1, x0, x1, x5 => if x5 < (x0.length : Int) then (if 0 ≤ x5 then (if x5 < (x1.length : Int) then (if (!(((rd_T90 x0 x5).f0) == ((rd_T90 x1 x5).f0)) || ((!(((rd_T90 x0 x5).f1.f0) == ((rd_T90 x1 x5).f1.f0)) || (!(((rd_T90 x0 x5).f1.f1) == ((rd_T90 x1 x5).f1.f1)) || (!(((rd_T90 x0 x5).f1.f2) == ((rd_T90 x1 x5).f1.f2)) || (!(((rd_T90 x0 x5).f1.f3) == ((rd_T90 x1 x5).f1.f3)))))) || (!(((rd_T90 x0 x5).f2) == ((rd_T90 x1 x5).f2)) || (!((((rd_T90 x0 x5).f3).toList) == (((rd_T90 x1 x5).f3).toList)))))) = true then (some false) else (dowelbook_CoreBodies.l0 k x0 x1 (wrap64 (x5 + 1)))) else (none)) else (none)) else (some true)
def dowelbook_CoreBodies.f (k : Nat) (l0 : List (S90)) (l1 : List (S90)) : Option (Bool) := if (l0.length : Int) = (l1.length : Int) then (dowelbook_CoreBodies.l0 k l0 l1 0) else (some false)
theorem dowelbook_CoreBodies.mono_l : ∀ k, (∀ y0 y1 y2, LeO (dowelbook_CoreBodies.l0 k y0 y1 y2) (dowelbook_CoreBodies.l0 (k + 1) y0 y1 y2))
  | 0 => fun _ _ _ r h => by simp [dowelbook_CoreBodies.l0] at h
  | k + 1 => by
    have ih0 := dowelbook_CoreBodies.mono_l k
    · intro y0 y1 y2
      unfold dowelbook_CoreBodies.l0
      repeat' first
      | (with_reducible exact ih0 _ _ _)
      | (with_reducible exact LeO.refl _)
      | (with_reducible exact LeO.none _)
      | (with_reducible refine LeO.ite ?_ ?_)
      | (with_reducible refine LeO.bind ?_ (fun _ => ?_))
      | exact ih0 _ _ _
      | exact LeO.none _
      | refine LeO.ite ?_ ?_
      | refine LeO.bind ?_ (fun _ => ?_)
theorem dowelbook_CoreBodies.mono : ∀ a0 a1 k, LeO (dowelbook_CoreBodies.f k a0 a1) (dowelbook_CoreBodies.f (k + 1) a0 a1) := by
  intro a0 a1 k
  have ih0 := dowelbook_CoreBodies.mono_l k
  unfold dowelbook_CoreBodies.f
  repeat' first
      | (with_reducible exact ih0 _ _ _)
      | (with_reducible exact LeO.refl _)
      | (with_reducible exact LeO.none _)
      | (with_reducible refine LeO.ite ?_ ?_)
      | (with_reducible refine LeO.bind ?_ (fun _ => ?_))
      | exact ih0 _ _ _
      | exact LeO.none _
      | refine LeO.ite ?_ ?_
      | refine LeO.bind ?_ (fun _ => ?_)
set_option maxHeartbeats 8000000 in
set_option maxRecDepth 100000 in
theorem dowelbook_CoreBodies.calls (k : Nat) (A0 : Option Addr) (c0 : Nat) (l0 : List (S90)) (A1 : Option Addr) (c1 : Nat) (l1 : List (S90)) (r : Bool) (w : World) (hr0 : Kd.C k90 w A0 l0.length l0) (hc0 : l0.length ≤ c0) (hr1 : Kd.C k90 w A1 l1.length l1) (hc1 : l1.length ≤ c1) (h : dowelbook_CoreBodies.f k l0 l1 = some r) :
    Calls Try.prog 86 #[.slice A0 l0.length c0, .slice A1 l1.length c1] w fun e w' => e = .returned (.bool r) ∧ Drawn0 w w' := by
  have hu90 := Try.underlying90
  have HR0 := Aside0.mk hr0
  have HC0 := Aside0.mk hc0
  clear hr0 hc0
  have HR1 := Aside0.mk hr1
  have HC1 := Aside0.mk hc1
  clear hr1 hc1
  have H : (if (l0.length : Int) = (l1.length : Int) then (dowelbook_CoreBodies.l0 k l0 l1 0) else (some false)) = some r := h
  clear h
  by_cases c3 : (l0.length : Int) = (l1.length : Int)
  · rw [if_pos c3] at H
    have c3b0 : ((l0.length : Int) == (l1.length : Int)) = true := beq_iff_eq.mpr c3
    have c3b1 : ((l0.length : Int) != (l1.length : Int)) = false := bne_eq_false_iff_eq.mpr c3
    have c3b2 : (l0.length == l1.length) = true := by first | simpa using c3 | (simp at c3 ⊢; omega)
    clear c3
    have H' := Aside0.mk H
    clear H
    go_enter Try.func86, Try.ntmps86
    go_wp2
    repeat (go_quiet (fail); try go_wp2)
    go_loopg [5] k (fun kq v5 w' => ∃ (x5_1 : Int), v5 = .int .i64 x5_1 ∧ Aside0 (dowelbook_CoreBodies.l0 kq l0 l1 x5_1 = some r) ∧ Aside0 (kq ≤ k) ∧ Drawn0 w w')
    case atStart => exact ⟨(0), (by first | rfl | (simp; done) | (simp [*]; done)), H', ⟨Nat.le_refl _⟩, by repeat (first | exact Drawn0.refl _ | apply Drawn0.step)⟩
    case round =>
      clear H'
      try clear c1
      try clear p2
      try clear c3
      try clear c3b0
      try clear c3b1
      try clear c3b2
      obtain ⟨x5_1, rfl, HA, HK1, ⟨m1, rfl⟩⟩ := hrel
      cases gk with
      | zero => exact absurd HA.out (by simp [dowelbook_CoreBodies.l0])
      | succ k1 =>
        have H := HA.out
        clear HA
        simp only [dowelbook_CoreBodies.l0] at H
        by_cases c4 : x5_1 < (l0.length : Int)
        · rw [if_pos c4] at H
          have c4b0 : decide (x5_1 < (l0.length : Int)) = true := decide_eq_true c4
          clear c4
          by_cases c5 : 0 ≤ x5_1
          · rw [if_pos c5] at H
            have c5b0 : decide (0 ≤ x5_1) = true := decide_eq_true c5
            clear c5
            by_cases c6 : x5_1 < (l1.length : Int)
            · rw [if_pos c6] at H
              have c6b0 : decide (x5_1 < (l1.length : Int)) = true := decide_eq_true c6
              clear c6
              by_cases c7 : (!(((rd_T90 l0 x5_1).f0) == ((rd_T90 l1 x5_1).f0)) || ((!(((rd_T90 l0 x5_1).f1.f0) == ((rd_T90 l1 x5_1).f1.f0)) || (!(((rd_T90 l0 x5_1).f1.f1) == ((rd_T90 l1 x5_1).f1.f1)) || (!(((rd_T90 l0 x5_1).f1.f2) == ((rd_T90 l1 x5_1).f1.f2)) || (!(((rd_T90 l0 x5_1).f1.f3) == ((rd_T90 l1 x5_1).f1.f3)))))) || (!(((rd_T90 l0 x5_1).f2) == ((rd_T90 l1 x5_1).f2)) || (!((((rd_T90 l0 x5_1).f3).toList) == (((rd_T90 l1 x5_1).f3).toList)))))) = true
              · rw [if_pos c7] at H
                have c7b0 : (!(((rd_T90 l0 x5_1).f0) == ((rd_T90 l1 x5_1).f0)) || ((!(((rd_T90 l0 x5_1).f1.f0) == ((rd_T90 l1 x5_1).f1.f0)) || (!(((rd_T90 l0 x5_1).f1.f1) == ((rd_T90 l1 x5_1).f1.f1)) || (!(((rd_T90 l0 x5_1).f1.f2) == ((rd_T90 l1 x5_1).f1.f2)) || (!(((rd_T90 l0 x5_1).f1.f3) == ((rd_T90 l1 x5_1).f1.f3)))))) || (!(((rd_T90 l0 x5_1).f2) == ((rd_T90 l1 x5_1).f2)) || (!((((rd_T90 l0 x5_1).f3).toList) == (((rd_T90 l1 x5_1).f3).toList)))))) = true := c7
                clear c7
                obtain rfl := Option.some.inj H
                have p178 : 0 ≤ (x5_1 : Int) := of_decide_eq_true (by first | (with_reducible assumption) | assumption)
                have q178 : x5_1 < (l0.length : Int) := of_decide_eq_true (by first | (with_reducible assumption) | assumption)
                obtain ⟨ad178, e178, hx178_0, hx178_1, hx178_2, hx178_3, hx178_4, hx178_5, hx178_6⟩ := at_T90 HR0.out x5_1 p178 q178
                cases e178
                replace p178 := eq_true p178
                replace q178 := eq_true q178
                have p179 : 0 ≤ (x5_1 : Int) := of_decide_eq_true (by first | (with_reducible assumption) | assumption)
                have q179 : x5_1 < (l1.length : Int) := of_decide_eq_true (by first | (with_reducible assumption) | assumption)
                obtain ⟨ad179, e179, hx179_0, hx179_1, hx179_2, hx179_3, hx179_4, hx179_5, hx179_6⟩ := at_T90 HR1.out x5_1 p179 q179
                cases e179
                replace p179 := eq_true p179
                replace q179 := eq_true q179
                go_wp2
                repeat (go_quiet (fail); try go_wp2)
                go_ret
                exact ⟨by first | rfl | (simp; done) | (simp [*]; done), by repeat (first | exact Drawn0.refl _ | apply Drawn0.step)⟩
              · rw [if_neg c7] at H
                have c7b0 : (!(((rd_T90 l0 x5_1).f0) == ((rd_T90 l1 x5_1).f0)) || ((!(((rd_T90 l0 x5_1).f1.f0) == ((rd_T90 l1 x5_1).f1.f0)) || (!(((rd_T90 l0 x5_1).f1.f1) == ((rd_T90 l1 x5_1).f1.f1)) || (!(((rd_T90 l0 x5_1).f1.f2) == ((rd_T90 l1 x5_1).f1.f2)) || (!(((rd_T90 l0 x5_1).f1.f3) == ((rd_T90 l1 x5_1).f1.f3)))))) || (!(((rd_T90 l0 x5_1).f2) == ((rd_T90 l1 x5_1).f2)) || (!((((rd_T90 l0 x5_1).f3).toList) == (((rd_T90 l1 x5_1).f3).toList)))))) = false := by simpa using c7
                clear c7
                have H' := Aside0.mk H
                clear H
                have p178 : 0 ≤ (x5_1 : Int) := of_decide_eq_true (by first | (with_reducible assumption) | assumption)
                have q178 : x5_1 < (l0.length : Int) := of_decide_eq_true (by first | (with_reducible assumption) | assumption)
                obtain ⟨ad178, e178, hx178_0, hx178_1, hx178_2, hx178_3, hx178_4, hx178_5, hx178_6⟩ := at_T90 HR0.out x5_1 p178 q178
                cases e178
                replace p178 := eq_true p178
                replace q178 := eq_true q178
                have p179 : 0 ≤ (x5_1 : Int) := of_decide_eq_true (by first | (with_reducible assumption) | assumption)
                have q179 : x5_1 < (l1.length : Int) := of_decide_eq_true (by first | (with_reducible assumption) | assumption)
                obtain ⟨ad179, e179, hx179_0, hx179_1, hx179_2, hx179_3, hx179_4, hx179_5, hx179_6⟩ := at_T90 HR1.out x5_1 p179 q179
                cases e179
                replace p179 := eq_true p179
                replace q179 := eq_true q179
                go_wp2
                repeat (go_quiet (fail); try go_wp2)
                go_roundg k1
                case measure => have := HK1.out; omega
                case rel => exact ⟨(wrap64 (x5_1 + 1)), (by first | rfl | (simp; done) | (simp [*]; done)), H', ⟨by have := HK1.out; omega⟩, by repeat (first | exact Drawn0.refl _ | apply Drawn0.step)⟩
            · rw [if_neg c6] at H
              exact absurd H (by simp)
          · rw [if_neg c5] at H
            exact absurd H (by simp)
        · rw [if_neg c4] at H
          have c4b0 : decide (x5_1 < (l0.length : Int)) = false := decide_eq_false c4
          clear c4
          obtain rfl := Option.some.inj H
          go_wp2
          repeat (go_quiet (fail); try go_wp2)
          go_ret
          exact ⟨by first | rfl | (simp; done) | (simp [*]; done), by repeat (first | exact Drawn0.refl _ | apply Drawn0.step)⟩
  · rw [if_neg c3] at H
    have c3b0 : ((l0.length : Int) == (l1.length : Int)) = false := beq_eq_false_iff_ne.mpr c3
    have c3b1 : ((l0.length : Int) != (l1.length : Int)) = true := bne_iff_ne.mpr c3
    have c3b2 : (l0.length == l1.length) = false := by first | simpa using c3 | (simp at c3 ⊢; omega)
    obtain rfl := Option.some.inj H
    go_enter Try.func86, Try.ntmps86
    go_wp2
    repeat (go_quiet (fail); try go_wp2)
    go_ret
    exact ⟨by first | rfl | (simp; done) | (simp [*]; done), by repeat (first | exact Drawn0.refl _ | apply Drawn0.step)⟩
end Go.Proofs.Ytebiogaacikphaa.PAll
end
