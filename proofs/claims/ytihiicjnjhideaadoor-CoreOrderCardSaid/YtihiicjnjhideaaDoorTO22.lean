/- Parts of the proof of coreOrder: BuildNode2, BuildNode1, BuildNodeK, BuildNodeN. No condition beyond each lemma's own. -/
import Derived.Test.YtihiicjnjhideaaDoorTO21
section
namespace Go.Proofs.YtihiicjnjhideaaDoor.Build
open Go.RowKit Go.Proofs.YtihiicjnjhideaaDoorW.PrintWords Go.Proofs.YtihiicjnjhideaaDoor.PAll Go.Proofs.YtihiicjnjhideaaDoor.Core
set_option linter.unusedVariables false
set_option linter.unusedSimpArgs false
section
variable {P : Program} {ops : Array Oper} {o : Oper} {a : Act} {Q : Exit → Act → World → Prop} {Kc : Act → World → Prop}
/-- A call that answers or is given up. -/
theorem rstep_callp {w w1 : World} {f : FuncId} {args : Array Value} {R : Ending → World → Prop} (hw : Region.wanted o (yielded ops a.tmps) = true) (hr : (execOp a.eval o).run P w = .ok (.enter f args) w1) (hc : Calls P f args w1 R)
  (h : ∀ e w', R e w' → match e with | .returned v => Kc (a.put o.dst v) w' | .panicked ch => Q (.panic ch) a w' | .outgrown => LetsOut Q) :
  if Region.wanted o (yielded ops a.tmps) = true then Oper.wp P o a w Kc Q else Kc (a.put o.dst undef) w := by
 rw [if_pos hw]
 unfold Oper.wp
 rw [hr]
 refine hc.mono (fun e w' hR => ?_)
 have := h e w' hR
 cases e <;> exact this
theorem rstep_append {W : World} (base : Nat) (hw : Region.wanted o (yielded ops a.tmps) = true) (s x : Operand) (t e : TypeId) (z : Value) (size bytes : Nat)
  (ho : o.op = .call { callee := .builtin .append, args := #[s, x], argTypes := #[t, t] })
  (ht : P.underlying t = some (.slice e)) (hinfo : (P.info? e).map (fun i => (i.zero, i.size, i.bytes)) = some (some z, size, bytes)) (hz : z.cells.size = size) (hs0 : 0 < size) (hb0 : 0 < bytes)
  (v : Value) (n : Nat) (xs ys : List Value) (hs : a.eval s = v) (hx : a.eval x = .slice (some ⟨W.heap.size, 0, none⟩) 1 1) (hys : ys.length = size) (h1 : ∀ u ∈ ys, u.oneCell' = true)
  (HO : W.ownsRow base e size v n xs) (hbase : base ≤ W.heap.size) (hl : (n + 1) * bytes ≤ 140737488355328)
  (h : ∀ v1 w1, w1.ownsRow base e size v1 (n + 1) (xs ++ ys) → ((v1.ownBlock = v.ownBlock ∧ W.grownBy w1 v.ownBlock) ∨ ((∃ b, v1.ownBlock = some b ∧ W.heap.size ≤ b) ∧ W.grownBy w1 none)) → Kc (a.put o.dst v1) w1) :
  if Region.wanted o (yielded ops a.tmps) = true then Oper.wp P o a (W.alloc (.cells ys.toArray e)) Kc Q else Kc (a.put o.dst undef) (W.alloc (.cells ys.toArray e)) := by
 obtain ⟨i0, hi, hzz⟩ := Option.map_eq_some_iff.1 hinfo
 simp only [Prod.mk.injEq] at hzz
 obtain ⟨hz0, hz1, hz2⟩ := hzz
 have hlen : n + 1 ≤ 140737488355328 := Nat.le_trans (Nat.le_mul_of_pos_right _ hb0) hl
 obtain ⟨v', w', hr, h2, h3⟩ := run_append_two (P := P) (W.alloc (.cells ys.toArray e)) base t o.type e i0 z size bytes ht hi hz0 hz1 hz2 hz hs0 v n xs (HO.alloc _) ⟨W.heap.size, 0, none⟩ 1 1 ys (by rw [hys]; simp) (by decide)
  (by simpa using World.news_of_block (cs := ys.toArray) (t := e) (fr := (0, 0)) (heap_alloc_new W (.cells ys.toArray e))) h1 (by simp only [maxLen]; omega) hl (by simp; omega)
 rw [if_pos hw]
 unfold Oper.wp execOp
 simp only [ho, resolve, invoke, builtin, Sem.run_bind, Sem.run_pure, Result.andThen_ok, List.map_toArray, List.map_cons, List.map_nil, hs, hx, hr]
 refine h v' w' h2 ?_
 rcases h3 with ⟨h3, h4⟩ | ⟨h3, h4⟩
 ·exact .inl ⟨h3, World.grownBy.trans (World.grownBy_alloc W _ _) h4⟩
 ·exact .inr ⟨⟨_, h3, by simp⟩, World.grownBy.trans (World.grownBy_alloc W _ _) h4⟩
end
theorem bod_one {w : World} {v : Value} {l : List CN} (h : Bod w v l) : v.oneCell' = true := by obtain ⟨A, c, rfl, _⟩ := h.reads; rfl
theorem own_one {w : World} {b n s : Nat} {e : TypeId} {u : Value} {xs : List Value} (h : w.ownsRow b e s u n xs) : u.oneCell' = true := by obtain ⟨A, c, rfl⟩ := own_slice h; rfl
theorem own_cells {w : World} {b n s : Nat} {e : TypeId} {u : Value} {xs : List Value} (h : w.ownsRow b e s u n xs) : u.cells.toList = [u] := by obtain ⟨A, c, rfl⟩ := own_slice h; rfl
theorem grown_row_other {w w' : World} {b n s g : Nat} {e e' : TypeId} {u : Value} {xs cs : List Value} (ho : w.ownsRow b e s u n xs) (hr : RowAt w g e' cs) (he : e ≠ e') {row : Option Nat} (hg : w.grownBy w' row) (hrow : ∀ k, row = some k → u.ownBlock = some k) : RowAt w' g e' cs :=
 hr.grown hg (fun e2 => by
  obtain ⟨c0, e0⟩ := own_typed ho g (hrow g e2.symm)
  obtain ⟨cur, e1, _⟩ := hr
  rw [e1] at e0
  injection e0 with e0
  injection e0 with _ e0
  exact he e0.symm)
theorem fin2 {w0 w w5 w6 w7 : World} {g6 k : Nat} {u u2 v : Value} {vs : List Value} {L : List (List CN)} {l : List CN} (hs : LaySt w0 w5 g6 u k vs L) (ho : w6.ownsRow w0.heap.size 42 1 u2 (k + 1) (vs ++ [v])) (hb : Bods w6 (vs ++ [v]) (L ++ [l])) (hw : Below w0.heap.size w0 w6)
  (hy : Stay w w6 g6) (hx : RowAt w6 g6 95 [u]) (hbox : RowAt w7 g6 95 [u2]) (hg : w6.grownBy w7 (some g6)) : LaySt w0 w7 g6 u2 (k + 1) (vs ++ [v]) (L ++ [l]) ∧ Stay w w7 g6 := by
 have hne : ∀ {b s n : Nat} {e : TypeId} {x : Value} {xs : List Value}, w6.ownsRow b e s x n xs → e ≠ 95 → ∀ q, x.ownBlock = some q → q ≠ g6 := fun h he q hq e2 => by
  obtain ⟨c0, e0⟩ := own_typed h q hq
  obtain ⟨cur, e1, _⟩ := hx
  rw [← e2, e0] at e1
  injection e1 with e1
  injection e1 with _ e1
  exact he e1
 refine ⟨⟨hbox, own_kept ho (fun q e => hg.block q (own_lt ho q e) (fun e2 => hne ho (by decide) q e (by injection e2))), ⟨hb.1, fun j x y h1 h2 => ?_⟩, pw_below_grown hw _ hw.size hg (fun q hq => by cases hq; exact hs.ge), hs.ge⟩, hy.trans (Stay.put hg)⟩
 have h3 := hb.2 j x y h1 h2
 obtain ⟨inner, hi⟩ := Kd.R_own h3
 refine Kd.R_step (ok := fun k => x.ownBlock = some k) ⟨fun k hk => hk, h3.2⟩ (fun q hq hlt => hg.block q hlt (fun e2 => hne hi (by decide) q hq (by injection e2))) |>.imp (fun _ _ _ => trivial) id
section
variable (gb gm : Nat) (left : Int) (NM : ByteArray → Int) (t : T) (ad : Addr) (n c : Nat) (w0 w : World) (g2 g6 k : Nat) (u : Value) (vs : List Value) (L : List (List CN))
set_option maxHeartbeats 8000000 in
set_option maxRecDepth 100000 in
theorem node2_calls (hN : NodeOk gb gm left NM t) (h0 : BW w0 gb gm left NM) (hC : Kd.C kEN w0 (some ad) n (flatT t)) (hc : n ≤ c) (hn : n ≤ 4096) (hs : LaySt w0 w g6 u k vs L) (h2 : RowAt w g2 63 [.pointer (some ⟨gb, 0, none⟩)]) (hne : g2 ≠ g6) (hk : k ≤ 1048576) :
  Calls Tryd.prog 44 #[.slice (some ad) n c, .pointer (some ⟨g6, 0, none⟩), .pointer (some ⟨g2, 0, none⟩)] w fun e w' => match layT left NM t with
   | some l => e = .returned (.tuple #[]) ∧ ∃ u2 v, LaySt w0 w' g6 u2 (k + 1) (vs ++ [v]) (L ++ [l]) ∧ Stay w w' g6
   | none => e = .panicked tooMuch ∧ Below w0.heap.size w0 w' := by
 have HK := aK hk
 have HG := aK hne
 have hcall2 : ∀ W, Below w0.heap.size w0 W → Calls Tryd.prog 31 #[.pointer (some ⟨gb, 0, none⟩), .slice (some ad) n c] W fun e w' => LaidE W.heap.size w' (layT left NM t) e ∧ Below W.heap.size W w' :=
  fun W hW => hN ad n c W (h0.below hW) (Kd.C_below hC hW) hc hn
 go_enter Tryd.func44, Tryd.ntmps44
 refine wp_region_held_drew (S := fun W => RowAt W g2 63 [.pointer (some ⟨gb, 0, none⟩)]) (by kernel_rfl) (h2.below (below_drew (Below.refl _ _))) (fun hH => ?_)
 have HS := aK (hs.next (below_drew (Below.refl w.heap.size w)))
 have HY := aK (Stay.below (g6 := g6) (below_drew (Below.refl w.heap.size w)))
 clear hs h2 hne hk hC hc hn h0 hN
 generalize w.drew = w3 at *
 have hcall := hcall2 w3 HS.out.below
 clear hcall2
 refine wpAnyH_take (i := 1) (oi := _) (v := .pointer (some ⟨gb, 0, none⟩)) rfl (by kernel_rfl) (by kernel_rfl) (by kernel_rfl) (fun _ _ _ h => h) (Or.inl ⟨by rfl, fun w hw => by (have y0 := hw.cell 0; go_simp)⟩) hH ?_; simp only [List.getElem_toArray, List.getElem_cons_zero, List.getElem_cons_succ, Act.put, List.setIfInBounds_toArray, List.set_cons_zero, List.set_cons_succ]
 refine wpAnyH_take (i := 2) (oi := _) (v := .slice (some ad) n c) rfl (by kernel_rfl) (by kernel_rfl) (by kernel_rfl) (fun _ _ _ h => h) (Or.inl ⟨by rfl, fun w hw => by go_simp⟩) hH ?_; simp only [List.getElem_toArray, List.getElem_cons_zero, List.getElem_cons_succ, Act.put, List.setIfInBounds_toArray, List.set_cons_zero, List.set_cons_succ]
 cases hl : layT left NM t with
 | none =>
  rw [hl] at hcall
  refine wpAnyH_ready (rs := [0, 3]) (by kernel_rfl) (by simp) ?_; refine AllReadyH.cons (o := _) rfl (fun K hK => ?_) (AllReadyH.cons (o := _) rfl (fun K hK => ?_) AllReadyH.nil)
  ·(refine rstep_value (v := u) (w' := w3) (by rfl) (by have y0 := HS.out.box.cell 0; go_simp) ?_; refine hK.out _ _ hH (fun _ => ?_); clear hK K; simp only [List.getElem_toArray, List.getElem_cons_zero, List.getElem_cons_succ, Act.put, List.setIfInBounds_toArray, List.set_cons_zero, List.set_cons_succ])
   refine wpAnyH_ready (rs := [3]) (by kernel_rfl) (by simp) ?_; refine AllReadyH.cons (o := _) rfl (fun K hK => ?_) AllReadyH.nil
   (refine rstep_callp (w1 := w3) (by rfl) (by go_simp) hcall ?_; rintro e w5 ⟨he, hb5⟩; have he2 : e = .panicked tooMuch := he; subst he2; exact ⟨rfl, show Ending.panicked tooMuch = Ending.panicked tooMuch ∧ Below w0.heap.size w0 w5 from ⟨rfl, below_step HS.out.below hb5⟩⟩)
  ·(refine rstep_callp (w1 := w3) (by rfl) (by go_simp) hcall ?_; rintro e w5 ⟨he, hb5⟩; have he2 : e = .panicked tooMuch := he; subst he2; exact ⟨rfl, show Ending.panicked tooMuch = Ending.panicked tooMuch ∧ Below w0.heap.size w0 w5 from ⟨rfl, below_step HS.out.below hb5⟩⟩)
 | some l =>
  rw [hl] at hcall
  refine wpAnyH_ready (rs := [0, 3]) (by kernel_rfl) (by simp) ?_; refine AllReadyH.cons (o := _) rfl (fun K hK => ?_) (AllReadyH.cons (o := _) rfl (fun K hK => ?_) AllReadyH.nil)
  ·(refine rstep_value (v := u) (w' := w3) (by rfl) (by have y0 := HS.out.box.cell 0; go_simp) ?_; refine hK.out _ _ hH (fun _ => ?_); clear hK K; simp only [List.getElem_toArray, List.getElem_cons_zero, List.getElem_cons_succ, Act.put, List.setIfInBounds_toArray, List.set_cons_zero, List.set_cons_succ])
   refine wpAnyH_ready (rs := [3]) (by kernel_rfl) (by simp) ?_; refine AllReadyH.cons (o := _) rfl (fun K hK => ?_) AllReadyH.nil
   (refine rstep_callp (w1 := w3) (by rfl) (by go_simp) hcall ?_; rintro e w5 ⟨he, hb5⟩; obtain ⟨v, he2, hv⟩ := he; subst he2; have HV := aK hv.bod; have n1_ := aK (HS.out.next hb5); have HY := aK (Stay.trans HY.out (Stay.below (g6 := g6) hb5)); have hH2 : RowAt w5 g2 63 [.pointer (some ⟨gb, 0, none⟩)] := hH.below hb5; clear hH HS hb5 hv; have HS := n1_; have hH := hH2; clear n1_ hH2; refine hK.out _ _ hH (fun _ => ?_); clear hK K; simp only [List.getElem_toArray, List.getElem_cons_zero, List.getElem_cons_succ, Act.put, List.setIfInBounds_toArray, List.set_cons_zero, List.set_cons_succ])
   refine wpAnyH_ready (rs := [4]) (by kernel_rfl) (by simp) ?_; refine AllReadyH.cons (o := _) rfl (fun K hK => ?_) AllReadyH.nil
   (obtain ⟨Av, cv, hve, _⟩ := HV.out.reads; refine rstep_value (v := .slice (some ⟨w5.heap.size, 0, none⟩) 1 1) (w' := w5.alloc (.cells #[v] 42)) (by rfl) (by subst hve; go_simp) ?_; have hH2 : RowAt (w5.alloc (.cells #[v] 42)) g2 63 [.pointer (some ⟨gb, 0, none⟩)] := hH.below (below_alloc (Below.refl _ _) _); have HH5 := aK hH; clear hH; have hH := hH2; clear hH2; refine hK.out _ _ hH (fun _ => ?_); clear hK K hve; simp only [List.getElem_toArray, List.getElem_cons_zero, List.getElem_cons_succ, Act.put, List.setIfInBounds_toArray, List.set_cons_zero, List.set_cons_succ])
   (refine wpAnyH_ready (rs := [5]) (by kernel_rfl) (by simp) ?_; refine AllReadyH.cons (o := _) rfl (fun K hK => ?_) AllReadyH.nil; refine rstep_append w0.heap.size (by rfl) (.tmp 4) (.tmp 8) 95 42 (.slice none 0 0) 1 24 rfl Tryd.underlying95 (by kernel_rfl) rfl (by decide) (by decide) u k vs [v] rfl rfl rfl (by intro q hq; rw [List.mem_singleton.1 hq]; exact bod_one HV.out) HS.out.own HS.out.below.size (by have := HK.out; omega) ?_; intro u2 w6 hown hat; obtain ⟨row, hg6, hrow⟩ := hat_row hat; have n1_ := grow_row HS.out.below.size HS.out.own HS.out.bods HV.out HS.out.below (Nat.le_refl _) hat; have HB6 := aK n1_.1; have HW6 := aK n1_.2; have n2_ := aK (Stay.grown (g6 := g6) HS.out.own hg6 hrow); have HX6 := aK (grown_row_other HS.out.own HS.out.box (by decide) hg6 hrow); have hH2 := grown_row_other HS.out.own HH5.out (by decide) hg6 hrow; have HO6 := aK hown; have n3_ := aK (HY.out.trans n2_.out); clear hH HY n1_ n2_ hown hat hg6 hrow; have hH := hH2; have HY := n3_; clear hH2 n3_; refine hK.out _ _ hH (fun _ => ?_); clear hK K; simp only [List.getElem_toArray, List.getElem_cons_zero, List.getElem_cons_succ, Act.put, List.setIfInBounds_toArray, List.set_cons_zero, List.set_cons_succ]; refine wpAnyH_ready (rs := [6]) (by kernel_rfl) (by simp) ?_; refine AllReadyH.cons (o := _) rfl (fun K hK => ?_) AllReadyH.nil; refine rstep_store (by rfl) 95 (.tmp 1) (.tmp 9) rfl (g := g6) (off := 0) (seg := [u2]) rfl rfl HX6.out (own_cells HO6.out) (by kernel_rfl) (Nat.le_refl _) (by intro q hq; rw [List.mem_singleton.1 hq]; exact own_one HO6.out) ?_; intro w7 hbox hg7; have hH2 : RowAt w7 g2 63 [.pointer (some ⟨gb, 0, none⟩)] := hH.grown hg7 (by have := HG.out; simp; omega); clear hH; have hH := hH2; clear hH2; refine hK.out _ _ hH (fun _ => ?_); clear hK K; simp only [List.getElem_toArray, List.getElem_cons_zero, List.getElem_cons_succ, Act.put, List.setIfInBounds_toArray, List.set_cons_zero, List.set_cons_succ]; refine wpAnyH_done (by kernel_rfl) ?_ _; go_end0; exact ⟨rfl, _, _, fin2 HS.out HO6.out HB6.out HW6.out HY.out HX6.out hbox hg7⟩)
  ·(refine rstep_callp (w1 := w3) (by rfl) (by go_simp) hcall ?_; rintro e w5 ⟨he, hb5⟩; obtain ⟨v, he2, hv⟩ := he; subst he2; have HV := aK hv.bod; have n1_ := aK (HS.out.next hb5); have HY := aK (Stay.trans HY.out (Stay.below (g6 := g6) hb5)); have hH2 : RowAt w5 g2 63 [.pointer (some ⟨gb, 0, none⟩)] := hH.below hb5; clear hH HS hb5 hv; have HS := n1_; have hH := hH2; clear n1_ hH2; refine hK.out _ _ hH (fun _ => ?_); clear hK K; simp only [List.getElem_toArray, List.getElem_cons_zero, List.getElem_cons_succ, Act.put, List.setIfInBounds_toArray, List.set_cons_zero, List.set_cons_succ])
   refine wpAnyH_ready (rs := [0, 4]) (by kernel_rfl) (by simp) ?_; refine AllReadyH.cons (o := _) rfl (fun K hK => ?_) (AllReadyH.cons (o := _) rfl (fun K hK => ?_) AllReadyH.nil)
   ·(refine rstep_value (v := u) (w' := w5) (by rfl) (by have y0 := HS.out.box.cell 0; go_simp) ?_; refine hK.out _ _ hH (fun _ => ?_); clear hK K; simp only [List.getElem_toArray, List.getElem_cons_zero, List.getElem_cons_succ, Act.put, List.setIfInBounds_toArray, List.set_cons_zero, List.set_cons_succ])
    refine wpAnyH_ready (rs := [4]) (by kernel_rfl) (by simp) ?_; refine AllReadyH.cons (o := _) rfl (fun K hK => ?_) AllReadyH.nil
    (obtain ⟨Av, cv, hve, _⟩ := HV.out.reads; refine rstep_value (v := .slice (some ⟨w5.heap.size, 0, none⟩) 1 1) (w' := w5.alloc (.cells #[v] 42)) (by rfl) (by subst hve; go_simp) ?_; have hH2 : RowAt (w5.alloc (.cells #[v] 42)) g2 63 [.pointer (some ⟨gb, 0, none⟩)] := hH.below (below_alloc (Below.refl _ _) _); have HH5 := aK hH; clear hH; have hH := hH2; clear hH2; refine hK.out _ _ hH (fun _ => ?_); clear hK K hve; simp only [List.getElem_toArray, List.getElem_cons_zero, List.getElem_cons_succ, Act.put, List.setIfInBounds_toArray, List.set_cons_zero, List.set_cons_succ])
    (refine wpAnyH_ready (rs := [5]) (by kernel_rfl) (by simp) ?_; refine AllReadyH.cons (o := _) rfl (fun K hK => ?_) AllReadyH.nil; refine rstep_append w0.heap.size (by rfl) (.tmp 4) (.tmp 8) 95 42 (.slice none 0 0) 1 24 rfl Tryd.underlying95 (by kernel_rfl) rfl (by decide) (by decide) u k vs [v] rfl rfl rfl (by intro q hq; rw [List.mem_singleton.1 hq]; exact bod_one HV.out) HS.out.own HS.out.below.size (by have := HK.out; omega) ?_; intro u2 w6 hown hat; obtain ⟨row, hg6, hrow⟩ := hat_row hat; have n1_ := grow_row HS.out.below.size HS.out.own HS.out.bods HV.out HS.out.below (Nat.le_refl _) hat; have HB6 := aK n1_.1; have HW6 := aK n1_.2; have n2_ := aK (Stay.grown (g6 := g6) HS.out.own hg6 hrow); have HX6 := aK (grown_row_other HS.out.own HS.out.box (by decide) hg6 hrow); have hH2 := grown_row_other HS.out.own HH5.out (by decide) hg6 hrow; have HO6 := aK hown; have n3_ := aK (HY.out.trans n2_.out); clear hH HY n1_ n2_ hown hat hg6 hrow; have hH := hH2; have HY := n3_; clear hH2 n3_; refine hK.out _ _ hH (fun _ => ?_); clear hK K; simp only [List.getElem_toArray, List.getElem_cons_zero, List.getElem_cons_succ, Act.put, List.setIfInBounds_toArray, List.set_cons_zero, List.set_cons_succ]; refine wpAnyH_ready (rs := [6]) (by kernel_rfl) (by simp) ?_; refine AllReadyH.cons (o := _) rfl (fun K hK => ?_) AllReadyH.nil; refine rstep_store (by rfl) 95 (.tmp 1) (.tmp 9) rfl (g := g6) (off := 0) (seg := [u2]) rfl rfl HX6.out (own_cells HO6.out) (by kernel_rfl) (Nat.le_refl _) (by intro q hq; rw [List.mem_singleton.1 hq]; exact own_one HO6.out) ?_; intro w7 hbox hg7; have hH2 : RowAt w7 g2 63 [.pointer (some ⟨gb, 0, none⟩)] := hH.grown hg7 (by have := HG.out; simp; omega); clear hH; have hH := hH2; clear hH2; refine hK.out _ _ hH (fun _ => ?_); clear hK K; simp only [List.getElem_toArray, List.getElem_cons_zero, List.getElem_cons_succ, Act.put, List.setIfInBounds_toArray, List.set_cons_zero, List.set_cons_succ]; refine wpAnyH_done (by kernel_rfl) ?_ _; go_end0; exact ⟨rfl, _, _, fin2 HS.out HO6.out HB6.out HW6.out HY.out HX6.out hbox hg7⟩)
   ·(obtain ⟨Av, cv, hve, _⟩ := HV.out.reads; refine rstep_value (v := .slice (some ⟨w5.heap.size, 0, none⟩) 1 1) (w' := w5.alloc (.cells #[v] 42)) (by rfl) (by subst hve; go_simp) ?_; have hH2 : RowAt (w5.alloc (.cells #[v] 42)) g2 63 [.pointer (some ⟨gb, 0, none⟩)] := hH.below (below_alloc (Below.refl _ _) _); have HH5 := aK hH; clear hH; have hH := hH2; clear hH2; refine hK.out _ _ hH (fun _ => ?_); clear hK K hve; simp only [List.getElem_toArray, List.getElem_cons_zero, List.getElem_cons_succ, Act.put, List.setIfInBounds_toArray, List.set_cons_zero, List.set_cons_succ])
    refine wpAnyH_ready (rs := [0]) (by kernel_rfl) (by simp) ?_; refine AllReadyH.cons (o := _) rfl (fun K hK => ?_) AllReadyH.nil
    (refine rstep_value (v := u) (w' := (w5.alloc (.cells #[v] 42))) (by rfl) (by have y0 := ((HS.out.box.below (below_alloc (Below.refl _ _) (.cells #[v] 42))).cell 0); have y1 := HS.out.box.cell 0; go_simp) ?_; refine hK.out _ _ hH (fun _ => ?_); clear hK K; simp only [List.getElem_toArray, List.getElem_cons_zero, List.getElem_cons_succ, Act.put, List.setIfInBounds_toArray, List.set_cons_zero, List.set_cons_succ])
    (refine wpAnyH_ready (rs := [5]) (by kernel_rfl) (by simp) ?_; refine AllReadyH.cons (o := _) rfl (fun K hK => ?_) AllReadyH.nil; refine rstep_append w0.heap.size (by rfl) (.tmp 4) (.tmp 8) 95 42 (.slice none 0 0) 1 24 rfl Tryd.underlying95 (by kernel_rfl) rfl (by decide) (by decide) u k vs [v] rfl rfl rfl (by intro q hq; rw [List.mem_singleton.1 hq]; exact bod_one HV.out) HS.out.own HS.out.below.size (by have := HK.out; omega) ?_; intro u2 w6 hown hat; obtain ⟨row, hg6, hrow⟩ := hat_row hat; have n1_ := grow_row HS.out.below.size HS.out.own HS.out.bods HV.out HS.out.below (Nat.le_refl _) hat; have HB6 := aK n1_.1; have HW6 := aK n1_.2; have n2_ := aK (Stay.grown (g6 := g6) HS.out.own hg6 hrow); have HX6 := aK (grown_row_other HS.out.own HS.out.box (by decide) hg6 hrow); have hH2 := grown_row_other HS.out.own HH5.out (by decide) hg6 hrow; have HO6 := aK hown; have n3_ := aK (HY.out.trans n2_.out); clear hH HY n1_ n2_ hown hat hg6 hrow; have hH := hH2; have HY := n3_; clear hH2 n3_; refine hK.out _ _ hH (fun _ => ?_); clear hK K; simp only [List.getElem_toArray, List.getElem_cons_zero, List.getElem_cons_succ, Act.put, List.setIfInBounds_toArray, List.set_cons_zero, List.set_cons_succ]; refine wpAnyH_ready (rs := [6]) (by kernel_rfl) (by simp) ?_; refine AllReadyH.cons (o := _) rfl (fun K hK => ?_) AllReadyH.nil; refine rstep_store (by rfl) 95 (.tmp 1) (.tmp 9) rfl (g := g6) (off := 0) (seg := [u2]) rfl rfl HX6.out (own_cells HO6.out) (by kernel_rfl) (Nat.le_refl _) (by intro q hq; rw [List.mem_singleton.1 hq]; exact own_one HO6.out) ?_; intro w7 hbox hg7; have hH2 : RowAt w7 g2 63 [.pointer (some ⟨gb, 0, none⟩)] := hH.grown hg7 (by have := HG.out; simp; omega); clear hH; have hH := hH2; clear hH2; refine hK.out _ _ hH (fun _ => ?_); clear hK K; simp only [List.getElem_toArray, List.getElem_cons_zero, List.getElem_cons_succ, Act.put, List.setIfInBounds_toArray, List.set_cons_zero, List.set_cons_succ]; refine wpAnyH_done (by kernel_rfl) ?_ _; go_end0; exact ⟨rfl, _, _, fin2 HS.out HO6.out HB6.out HW6.out HY.out HX6.out hbox hg7⟩)
end
end Go.Proofs.YtihiicjnjhideaaDoor.Build
end
section
namespace Go.Proofs.YtihiicjnjhideaaDoor.Build
open Go.RowKit Go.Proofs.YtihiicjnjhideaaDoorW.PrintWords Go.Proofs.YtihiicjnjhideaaDoor.PAll Go.Proofs.YtihiicjnjhideaaDoor.Core
set_option linter.unusedVariables false
set_option linter.unusedSimpArgs false
theorem lenF_take_le (ps : List T) (k : Nat) : lenF (ps.take k) ≤ lenF ps := by
 have : lenF (ps.take k ++ ps.drop k) = lenF ps := by rw [List.take_append_drop]
 rw [lenF_append] at this
 omega
/-- A part, as the code cuts it, reads as a part. -/
theorem part_C {w : World} {ad : Addr} {n k : Nat} {nd : EN} {ps : List T} {t : T} (h : Kd.C kEN w (some ad) n (flatT (.mk nd ps))) (ht : ps[k]? = some t) : Kd.C kEN w (some (ad.add (lenF (ps.take k) * 10))) (lenF (ps.take (k + 1)) - lenF (ps.take k)) (flatT t) := by
 have hn : n = lenF ps + 1 := by rw [← h.1, flatT, List.length_append]; rfl
 have h1 := lenF_take_succ ht
 have h2 := lenF_take_le ps (k + 1)
 have := C_cut h (a := lenF (ps.take k)) (b := lenF (ps.take (k + 1))) (by omega) (by omega)
 rwa [show ((flatT (.mk nd ps)).drop (lenF (ps.take k))).take (lenF (ps.take (k + 1)) - lenF (ps.take k)) = flatT t from part_seg ps nd k t ht] at this
theorem layF_step {left : Int} {NM : ByteArray → Int} {ps : List T} {k : Nat} {t : T} {L : List (List CN)} (ht : ps[k]? = some t) (hL : layF left NM (ps.take k) = some L) : layF left NM (ps.take (k + 1)) = (layT left NM t).bind fun l => some (L ++ [l]) := by
 rw [List.take_add_one, ht]
 show layF left NM (ps.take k ++ [t]) = _
 rw [layF_snoc, hL]
 rfl
theorem layF_stop {left : Int} {NM : ByteArray → Int} {ps : List T} {k : Nat} (h : layF left NM (ps.take k) = none) : layF left NM ps = none := by
 rw [← List.take_append_drop k ps]
 exact layF_none h
/-- All parts' bodies, or that it is too much. -/
def PartsE (w0 w w' : World) (g6 N : Nat) (o : Option (List (List CN))) (e : Ending) : Prop := match o with
 | some L => e = .returned (.tuple #[]) ∧ ∃ u vs, LaySt w0 w' g6 u N vs L ∧ Stay w w' g6
 | none => e = .panicked tooMuch ∧ Below w0.heap.size w0 w'
section
variable (gb gm : Nat) (left : Int) (NM : ByteArray → Int) (nd : EN) (ps : List T) (ad : Addr) (n c : Nat) (w0 w : World) (g2 g3 g6 : Nat)
set_option maxHeartbeats 8000000 in
set_option maxRecDepth 100000 in
theorem node1_calls (hN : ∀ t ∈ ps, NodeOk gb gm left NM t) (h0 : BW w0 gb gm left NM) (hC : Kd.C kEN w0 (some ad) n (flatT (.mk nd ps))) (hwf : wfT (.mk nd ps)) (hc : n ≤ c) (hn : n ≤ 4096) (hs : LaySt w0 w g6 (.slice none 0 0) 0 [] []) (h2 : RowAt w g2 63 [.pointer (some ⟨gb, 0, none⟩)]) (h3 : RowAt w g3 38 [.slice (some ad) n c]) (hne : g2 ≠ g6) :
  Calls Tryd.prog 42 #[.func (.func 44) #[] #[.pointer (some ⟨g6, 0, none⟩), .pointer (some ⟨g2, 0, none⟩)], .pointer (some ⟨g3, 0, none⟩)] w fun e w' => PartsE w0 w w' g6 ps.length (layF left NM ps) e := by
 have HN := aK hN
 have H0 := aK h0
 have HC := aK hC
 have HCN := aK hc
 have HNB := aK hn
 have HS := aK hs
 have H2 := aK h2
 have HNE := aK hne
 have HLEN := aK (show n = lenF ps + 1 by rw [← hC.1, flatT, List.length_append]; rfl)
 have pb : (ps.length : Int) ≤ 1048576 := by have := qs_le ps; have := HLEN.out; omega
 have x0 : w.cell? ⟨g3, 0, none⟩ = some (.slice (some ad) n c) := h3.cell 0
 have hsplit := fun W (hb : Below w.heap.size w W) => split_calls ad n c nd ps W (Kd.C_below hC (below_step hs.below hb)) hwf hc (by omega)
 have HSP := aK hsplit
 clear hN h0 hC hwf hc hn hs h2 h3 hne hsplit
 go_enter Tryd.func42, Tryd.ntmps42
 go_wp2_with (first
  | (go_at_call 43; have hcall := HSP.out w (Below.refl _ _); (with_reducible refine hcall.mono ?_); clear hcall; rintro e w3 ⟨gp, rfl, hrow, hb3⟩; have HP := aK hrow; have n1_ := aK (HS.out.next hb3); have n2_ := aK (H2.out.below hb3); have HY := aK (Stay.below (g6 := g6) hb3); clear HS H2 hrow hb3 x0; have HS := n1_; have H2 := n2_; clear n1_ n2_))
 have HPG := aK (show gp ≠ g6 from fun e2 => absurd ((e2 ▸ HP.out : RowAt w3 g6 38 (partVs ad c ps)).det HS.out.box).2 (by decide))
 have HL := aK (show layF left NM (ps.take 0) = some [] from rfl)
 go_loopw [8] (fun v8 wr => ∃ (k : Nat) (u : Value) (vs : List Value) (L : List (List CN)), v8 = .int .i64 k ∧ Aside0 (k ≤ ps.length) ∧ Aside0 (layF left NM (ps.take k) = some L) ∧ Aside0 (LaySt w0 wr g6 u k vs L) ∧ Aside0 (Stay w wr g6) ∧ Aside0 (RowAt wr gp 38 (partVs ad c ps)) ∧ Aside0 (RowAt wr g2 63 [.pointer (some ⟨gb, 0, none⟩)])) (fun v8 _ => ps.length - (intOf v8).toNat)
 case atStart => exact ⟨0, _, _, _, rfl, ⟨Nat.zero_le _⟩, HL, HS, HY, HP, H2⟩
 case round =>
  clear HL HS HY HP H2
  obtain ⟨k, u, vs, L, rfl, HK, HL, HS, HY, HP, H2⟩ := hrel
  have kb : (k : Int) ≤ 1048576 := by have := HK.out; omega
  by_cases ck : k < ps.length
  ·have b1 : decide ((k : Int) < (ps.length : Int)) = true := decide_eq_true (by omega)
   have b1n : decide (k < ps.length) = true := decide_eq_true ck
   obtain ⟨t, ht⟩ : ∃ t, ps[k]? = some t := ⟨_, List.getElem?_eq_getElem ck⟩
   have hix := idx_ex gp ps.length ps.length k ck
   have x1 : wr.cell? ⟨gp, k, none⟩ = some (partV ad c ps k) := (HP.out.cell k).trans (partVs_get ck)
   have hst := layF_step ht HL.out
   have h1 := lenF_take_succ ht
   have h2 := lenF_take_le ps (k + 1)
   have hcall := node2_calls gb gm left NM t (ad.add (lenF (ps.take k) * 10)) (lenF (ps.take (k + 1)) - lenF (ps.take k)) (c - lenF (ps.take k)) w0 wr g2 g6 k u vs L (HN.out t (List.mem_of_getElem? ht)) H0.out (part_C HC.out ht) (by have := HCN.out; have := HLEN.out; omega) (by have := HNB.out; have := HLEN.out; omega) HS.out H2.out HNE.out (by omega)
   change Calls Tryd.prog _ #[partV ad c ps k, _, _] wr _ at hcall
   clear h1 h2
   have HPO := aK (show (partV ad c ps k).oneCell' = true from rfl)
   generalize partV ad c ps k = pv at *
   cases hl : layT left NM t with
   | none =>
    rw [hl] at hst hcall
    have HFN := aK (layF_stop (left := left) (NM := NM) (ps := ps) (k := k + 1) (by rw [hst]; rfl))
    have HCALL := aK hcall
    clear hcall hst hl ht
    go_wp2_with (first
     | (go_at_call 44; (with_reducible refine HCALL.out.mono ?_); rintro e w5 ⟨rfl, hb5⟩))
    exact ⟨rfl, show PartsE w0 w w5 g6 ps.length (layF left NM ps) (.panicked tooMuch) by rw [HFN.out]; exact ⟨rfl, hb5⟩⟩
   | some l =>
    rw [hl] at hst hcall
    have HST := aK (show layF left NM (ps.take (k + 1)) = some (L ++ [l]) from hst)
    have HCALL := aK hcall
    clear hcall hst hl ht
    go_wp2_with (first
     | (go_at_call 44; (with_reducible refine HCALL.out.mono ?_); rintro e w5 ⟨rfl, u2, v, hs5, hy5⟩; have n1_ := aK (HY.out.trans hy5); have n2_ := aK (hy5.row HP.out HPG.out (by decide)); have n3_ := aK (hy5.row H2.out HNE.out (by decide)); have n4_ := aK hs5; clear HS HY HP H2 hs5 hy5 x1; have HY := n1_; have HP := n2_; have H2 := n3_; have HS := n4_; clear n1_ n2_ n3_ n4_))
    go_roundw
    case measure => simp [intOf]; omega
    case rel => exact ⟨k + 1, _, _, _, by go_num, ⟨ck⟩, HST, HS, HY, HP, H2⟩
  ·have b1 : decide ((k : Int) < (ps.length : Int)) = false := decide_eq_false (by omega)
   have b1n : decide (k < ps.length) = false := decide_eq_false ck
   obtain rfl : k = ps.length := by have := HK.out; omega
   have HF := aK (show layF left NM ps = some L by have := HL.out; rwa [List.take_length] at this)
   go_wp2
   go_end0
   rw [HF.out]
   exact ⟨rfl, u, vs, HS.out, HY.out⟩
end
end Go.Proofs.YtihiicjnjhideaaDoor.Build
end
section
namespace Go.Proofs.YtihiicjnjhideaaDoor.Build
open Go.RowKit Go.Proofs.YtihiicjnjhideaaDoorW.PrintWords Go.Proofs.YtihiicjnjhideaaDoor.PAll Go.Proofs.YtihiicjnjhideaaDoor.Core
set_option linter.unusedVariables false
set_option linter.unusedSimpArgs false
/-- What stands for node's walk: the builder, the tree's row, its parts. -/
structure NodeIn (gb gm : Nat) (left : Int) (NM : ByteArray → Int) (nd : EN) (ps : List T) (ad : Addr) (n c : Nat) (w : World) : Prop where
 parts : ∀ t ∈ ps, NodeOk gb gm left NM t
 wf : wfT (.mk nd ps)
 may : May nd
 text : nd.f2.size ≤ 140737488351232
 left_le : left ≤ 16384
 bw : BW w gb gm left NM
 row : Kd.C kEN w (some ad) n (flatT (.mk nd ps))
 cap : n ≤ c
 n_le : n ≤ 4096
section
variable {gb gm : Nat} {left : Int} {NM : ByteArray → Int} {nd : EN} {ps : List T} {ad : Addr} {n c : Nat} {w : World}
theorem NodeIn.len (h : NodeIn gb gm left NM nd ps ad n c w) : n = lenF ps + 1 := by rw [← h.row.1, flatT, List.length_append]; rfl
theorem NodeIn.node (h : NodeIn gb gm left NM nd ps ad n c w) : NodeAt w (ad.add (lenF ps * 10)) nd := node_at h.row (by rw [flatT]; exact List.getElem?_concat_length)
theorem NodeIn.num (h : NodeIn gb gm left NM nd ps ad n c w) : nd.f1 = (ps.length : Int) := by have := h.wf; rw [wfT] at this; exact this.1
theorem NodeIn.one (h : NodeIn gb gm left NM nd ps ad n c w) (h1 : 8 ≤ nd.f0) : ps.length = 1 := by
 have h2 := h.may.one (by have := h.may.hi; omega)
 have h3 := h.num
 omega
theorem NodeIn.call (h : NodeIn gb gm left NM nd ps ad n c w) (w1 : World) (g2 g3 g6 : Nat) (hs : LaySt w w1 g6 (.slice none 0 0) 0 [] []) (h2 : RowAt w1 g2 63 [.pointer (some ⟨gb, 0, none⟩)]) (h3 : RowAt w1 g3 38 [.slice (some ad) n c]) (hne : g2 ≠ g6) :
  Calls Tryd.prog 42 #[.func (.func 44) #[] #[.pointer (some ⟨g6, 0, none⟩), .pointer (some ⟨g2, 0, none⟩)], .pointer (some ⟨g3, 0, none⟩)] w1 fun e w' => PartsE w w1 w' g6 ps.length (layF left NM ps) e :=
 node1_calls gb gm left NM nd ps ad n c w w1 g2 g3 g6 h.parts h.bw h.row h.wf h.cap h.n_le hs h2 h3 hne
end
/-- One part's body, read. -/
theorem one_body {w0 w : World} {g6 : Nat} {u : Value} {vs : List Value} {L : List (List CN)} (h : LaySt w0 w g6 u 1 vs L) : ∃ g c v l, u = .slice (some ⟨g, 0, none⟩) 1 c ∧ w.cell? ⟨g, 0, none⟩ = some v ∧ Bod w v l ∧ L = [l] := by
 obtain ⟨A, c, rfl⟩ := own_slice h.own
 have hl := h.len
 have hv : 0 < vs.length := by omega
 obtain ⟨g, hA, hg, hc⟩ := (RowV.own h.own) hv
 subst hA
 obtain ⟨v, hv0⟩ : ∃ v, vs[0]? = some v := ⟨_, List.getElem?_eq_getElem hv⟩
 obtain ⟨l, hl0⟩ : ∃ l, L[0]? = some l := ⟨_, List.getElem?_eq_getElem (by omega)⟩
 refine ⟨g, c, v, l, rfl, hc 0 v hv0, h.bods.2 0 v l hv0 hl0, ?_⟩
 match L, hl, hl0 with
 | [x], _, h0 => rw [List.getElem?_cons_zero] at h0; cases h0; rfl
section
variable {P : Program} {ops : Array Oper} {o : Oper} {a : Act} {Q : Exit → Act → World → Prop} {Kc : Act → World → Prop}
/-- A call that lays, or is given up. -/
theorem rstep_laid {w w1 : World} {f : FuncId} {args : Array Value} {b b2 : Nat} {x : Option (List CN)} (hw : Region.wanted o (yielded ops a.tmps) = true) (hr : (execOp a.eval o).run P w = .ok (.enter f args) w1) (hc : Calls P f args w1 fun e w' => LaidE b w' x e ∧ Below b2 w1 w')
  (hb : ∀ w', x = none → Below b2 w1 w' → Q (.panic tooMuch) a w') (hg : ∀ v w' l, x = some l → Own w' b v l → Below b2 w1 w' → Kc (a.put o.dst v) w') :
  if Region.wanted o (yielded ops a.tmps) = true then Oper.wp P o a w Kc Q else Kc (a.put o.dst undef) w := by
 refine rstep_callp hw hr hc (fun e w' h => ?_)
 obtain ⟨h1, h2⟩ := h
 cases x with
 | none =>
  have h3 : e = .panicked tooMuch := h1
  subst h3
  exact hb w' rfl h2
 | some l =>
  obtain ⟨v, h3, h4⟩ := h1
  subst h3
  exact hg v w' l rfl h4 h2
end
/-- A body of one node, just made. -/
theorem own_fresh (W : World) (base : Nat) (x : CN) (hb : base ≤ W.heap.size) : Own (W.alloc (.cells (nodeCells x).toArray 55)) base (.slice (some ⟨W.heap.size, 0, none⟩) 1 1) [x] := by
 refine ⟨fun _ _ => trivial, nodeCells x, World.ownsRow_lit W (nodeCells x).toArray 1 hb (by decide) rfl, ⟨rfl, fun j p hj => ?_⟩⟩
 have h0 : j = 0 := by have := (List.getElem?_eq_some_iff.1 hj).1; simpa using this
 subst h0
 rw [List.getElem?_cons_zero] at hj
 cases hj
 exact k55_mkM _ base _ x
theorem node_end {w w7 w8 : World} {left : Int} {NM : ByteArray → Int} {t : T} {v : Value} {o : Option (List CN)} {l : List CN} {b : Nat} (hl : layT left NM t = o) (ho : o = some l) (hv : Own w8 b v l) (hb : w.heap.size ≤ b) (hw : Below w.heap.size w w7) (hb8 : Below w7.heap.size w7 w8) : LaidE w.heap.size w8 (layT left NM t) (.returned v) ∧ Below w.heap.size w w8 := by
 rw [hl, ho]
 exact ⟨⟨_, rfl, Kd.R_lower hv hb⟩, below_step hw hb8⟩
theorem node_stop {w w7 w8 : World} {left : Int} {NM : ByteArray → Int} {t : T} {o : Option (List CN)} (hl : layT left NM t = o) (ho : o = none) (hw : Below w.heap.size w w7) (hb8 : Below w7.heap.size w7 w8) : LaidE w.heap.size w8 (layT left NM t) (.panicked tooMuch) ∧ Below w.heap.size w w8 := by
 rw [hl, ho]
 exact ⟨rfl, below_step hw hb8⟩
theorem NodeIn.few {gb gm : Nat} {left : Int} {NM : ByteArray → Int} {nd : EN} {ps : List T} {ad : Addr} {n c : Nat} {w : World} (h : NodeIn gb gm left NM nd ps ad n c w) : ps.length ≤ 4096 := by
 have h3 := qs_le ps
 have h4 := h.len
 have h5 := h.n_le
 omega
theorem node_end2 {w w7 w8 : World} {left : Int} {NM : ByteArray → Int} {t : T} {v : Value} {o : Option (List CN)} {l : List CN} (hl : layT left NM t = o) (ho : o = some l) (hv : Own w8 w.heap.size v l) (hw : Below w.heap.size w w7) (hb8 : Below w.heap.size w7 w8) : LaidE w.heap.size w8 (layT left NM t) (.returned v) ∧ Below w.heap.size w w8 := by
 rw [hl, ho]
 exact ⟨⟨_, rfl, hv⟩, hw.trans hb8⟩
theorem node_stop2 {w w7 w8 : World} {left : Int} {NM : ByteArray → Int} {t : T} {o : Option (List CN)} (hl : layT left NM t = o) (ho : o = none) (hw : Below w.heap.size w w7) (hb8 : Below w.heap.size w7 w8) : LaidE w.heap.size w8 (layT left NM t) (.panicked tooMuch) ∧ Below w.heap.size w w8 := by
 rw [hl, ho]
 exact ⟨rfl, hw.trans hb8⟩
end Go.Proofs.YtihiicjnjhideaaDoor.Build
end
section
namespace Go.Proofs.YtihiicjnjhideaaDoor.Build
open Go.RowKit Go.Proofs.YtihiicjnjhideaaDoorW.PrintWords Go.Proofs.YtihiicjnjhideaaDoor.PAll Go.Proofs.YtihiicjnjhideaaDoor.Core
set_option linter.unusedVariables false
set_option linter.unusedSimpArgs false
section
variable (gb gm : Nat) (left : Int) (NM : ByteArray → Int) (nd : EN) (ps : List T) (ad : Addr) (n c : Nat) (w : World)
set_option maxHeartbeats 8000000 in
set_option maxRecDepth 100000 in
theorem node_none (hin : NodeIn gb gm left NM nd ps ad n c w) (hlf : layF left NM ps = none) (hnq : ¬ (nd.f0 = 11 ∧ nd.f6 = 0)) : Calls Tryd.prog 31 #[.pointer (some ⟨gb, 0, none⟩), .slice (some ad) n c] w fun e w' => LaidE w.heap.size w' (layT left NM (.mk nd ps)) e ∧ Below w.heap.size w w' := by
 have HNQ := aK hnq
 have hf0 : nd.f0 = nd.f0 := rfl
 by_cases c11 : nd.f0 = 11
 ·have b11 : (nd.f0 == 11) = true := beq_iff_eq.mpr c11
  have b6 : (nd.f6 == 0) = false := beq_eq_false_iff_ne.mpr (fun h => hnq ⟨c11, h⟩)
  clear hnq c11
  have HIN := aK hin; have HF0 := aK hf0; have hmf : ∀ (fn : Fn) (first cap : Array Value) (w : World), (Instr.makeFunc fn first cap).run Tryd.prog w = .ok (.func fn first cap) w := fun _ _ _ _ => rfl; obtain ⟨l, hl⟩ : ∃ l, lenF ps = l := ⟨_, rfl⟩; have hln := hin.len; rw [hl] at hln; have hix := idx_en ad n c l (by omega); have hna := hin.node; rw [hl] at hna; obtain ⟨p, hp⟩ : ∃ p, ad.add (l * 10) = p := ⟨_, rfl⟩; rw [hp] at hna hix; have HNA := aK hna; have nb : (n : Int) ≤ 1048576 := (by have := hin.n_le; omega); have hw3 : IntKind.i64.wrap ((n : Int) - 1) = (l : Int) := (by rw [IntWalk.i64_in _ (by omega)]; omega); clear hin hf0 hna hp hl hln; go_enter Tryd.func31, Tryd.ntmps31
  (have HLF := aK hlf; clear hlf; go_wp2_with (first | ((with_reducible refine gate_dst (N := 2) rfl ?_); refine box_event (N := 2) rfl rfl (cs := #[.pointer (some ⟨gb, 0, none⟩)]) (t := 63) ?hr2 ?_; (case hr2 => first | (go_simp; done) | (go_simp; rfl)); intro g2 hg2 w2 hbox hb2; have H2 := aK (show RowAt w2 g2 63 [.pointer (some ⟨gb, 0, none⟩)] from ⟨_, hbox, rfl⟩); have HG2 := aK (show w.heap.size ≤ g2 by rw [hg2]; exact Nat.le_refl _); have HW := aK hb2; clear hbox hb2 hg2) | ((with_reducible refine gate_dst (N := 3) rfl ?_); refine box_event (N := 3) rfl rfl (cs := #[.slice (some ad) n c]) (t := 38) ?hr3 ?_; (case hr3 => first | (go_simp; done) | (go_simp; rfl)); intro g3 hg3 w3 hbox hb3; have H3 := aK (show RowAt w3 g3 38 [.slice (some ad) n c] from ⟨_, hbox, rfl⟩); have n1_ := aK (H2.out.below hb3); have n2_ := aK (below_step HW.out hb3); clear H2 HW hbox hb3 hg3; have H2 := n1_; have HW := n2_; clear n1_ n2_; have e3 : w3.cell? ⟨g3, 0, none⟩ = some (.slice (some ad) n c) := H3.out.cell 0; obtain ⟨x0, x1, x2, x3, x4, x5, x6, x7, x8, x9⟩ := HNA.out.below HW.out) | ((with_reducible refine gate_dst (N := 5) rfl ?_); refine box_event ?hg (N := 5) ?hd (cs := #[.int .i64 0, .int .i64 0, .string (⟨#[]⟩ : ByteArray), .bool false, .int .u64 0, .int .u64 0, .int .u64 0, .int .u64 0, .int .i64 0, .int .i64 0]) (t := 51) ?hr ?_; (case hd => rfl); (case hg => rfl); (case hr => first | (go_simp; done) | (go_simp; rfl)); intro g5 hg5 w4 hbox hb4; have H5 := aK (show RowAt w4 g5 51 zCells from ⟨_, hbox, rfl⟩); have HG5 := aK (show w.heap.size ≤ g5 ∧ g2 < g5 ∧ g3 < g5 by rw [hg5]; exact ⟨HW.out.size, H2.out.lt, H3.out.lt⟩); have n1_ := aK (H2.out.below hb4); have n2_ := aK (below_step HW.out hb4); have n3_ := aK (H3.out.below hb4); clear H2 HW H3 hbox hb4 hg5 e3 x0 x1 x2 x3 x4 x5 x6 x7 x8 x9; have H2 := n1_; have HW := n2_; have H3 := n3_; clear n1_ n2_ n3_) | ((with_reducible refine gate_store (t := 51) (p := 5) rfl ?_); refine put_event rfl rfl 51 (.tmp 5) (.tmp 13) rfl (g := g5) (off := 0) (u := .agg (enCells nd).toArray) (seg := enCells nd) rfl rfl H5.out rfl (by kernel_rfl) (Nat.le_refl _) (en_one nd) ?_; intro w5 hrow hg5; have n1_ := aK (show RowAt w5 g5 51 (enCells nd) from hrow); have n2_ := aK (H2.out.grown hg5 (by have := HG5.out; simp; omega)); have n3_ := aK (H3.out.grown hg5 (by have := HG5.out; simp; omega)); have n4_ := aK (pw_below_grown HW.out _ HW.out.size hg5 (fun k hk => by cases hk; exact HG5.out.1)); clear H5 H2 H3 HW hrow hg5; have H5 := n1_; have H2 := n2_; have H3 := n3_; have HW := n4_; clear n1_ n2_ n3_ n4_; have x0 : w5.cell? ⟨g5, 0, none⟩ = some (.int .i64 nd.f0) := (show w5.cell? ⟨g5, 0, none⟩ = some (.int .i64 nd.f0) from H5.out.cell 0).trans (by rw [HF0.out]); have x6 : w5.cell? ⟨g5, 9, none⟩ = some (.int .i64 nd.f6) := H5.out.cell 9) | ((with_reducible refine gate_dst (N := 6) rfl ?_); refine box_event (N := 6) rfl rfl (cs := #[.slice none 0 0]) (t := 95) ?hr6 ?_; (case hr6 => first | (go_simp; done) | (go_simp; rfl)); intro g6 hg6 w6 hbox hb6; have H6 := aK (show RowAt w6 g6 95 [.slice none 0 0] from ⟨_, hbox, rfl⟩); have HG6 := aK (show w.heap.size ≤ g6 ∧ g2 < g6 ∧ g3 < g6 ∧ g5 < g6 by rw [hg6]; exact ⟨HW.out.size, H2.out.lt, H3.out.lt, H5.out.lt⟩); have n1_ := aK (H2.out.below hb6); have n2_ := aK (below_step HW.out hb6); have n3_ := aK (H3.out.below hb6); have n4_ := aK (H5.out.below hb6); clear H2 HW H3 H5 hbox hb6 hg6 x0 x6; have H2 := n1_; have HW := n2_; have H3 := n3_; have H5 := n4_; clear n1_ n2_ n3_ n4_; have HS := aK (show LaySt w w6 g6 (.slice none 0 0) 0 [] [] from ⟨H6.out, World.ownsRow_nil _ _ _ _, Bods.nil _, HW.out, HG6.out.1⟩); clear H6) | ((go_at_call 42; have hcall := HIN.out.call w6 g2 g3 g6 HS.out H2.out H3.out (by have := HG6.out; omega); rw [HLF.out] at hcall; (with_reducible refine hcall.mono ?_); clear hcall); rintro e w7 ⟨rfl, hb7⟩)); exact ⟨rfl, show LaidE w.heap.size w7 (layT left NM (.mk nd ps)) (.panicked tooMuch) by rw [layT, if_neg HNQ.out, HLF.out]; exact rfl, hb7⟩)
 ·have b11 : (nd.f0 == 11) = false := beq_eq_false_iff_ne.mpr c11
  clear hnq c11
  have HIN := aK hin; have HF0 := aK hf0; have hmf : ∀ (fn : Fn) (first cap : Array Value) (w : World), (Instr.makeFunc fn first cap).run Tryd.prog w = .ok (.func fn first cap) w := fun _ _ _ _ => rfl; obtain ⟨l, hl⟩ : ∃ l, lenF ps = l := ⟨_, rfl⟩; have hln := hin.len; rw [hl] at hln; have hix := idx_en ad n c l (by omega); have hna := hin.node; rw [hl] at hna; obtain ⟨p, hp⟩ : ∃ p, ad.add (l * 10) = p := ⟨_, rfl⟩; rw [hp] at hna hix; have HNA := aK hna; have nb : (n : Int) ≤ 1048576 := (by have := hin.n_le; omega); have hw3 : IntKind.i64.wrap ((n : Int) - 1) = (l : Int) := (by rw [IntWalk.i64_in _ (by omega)]; omega); clear hin hf0 hna hp hl hln; go_enter Tryd.func31, Tryd.ntmps31
  (have HLF := aK hlf; clear hlf; go_wp2_with (first | ((with_reducible refine gate_dst (N := 2) rfl ?_); refine box_event (N := 2) rfl rfl (cs := #[.pointer (some ⟨gb, 0, none⟩)]) (t := 63) ?hr2 ?_; (case hr2 => first | (go_simp; done) | (go_simp; rfl)); intro g2 hg2 w2 hbox hb2; have H2 := aK (show RowAt w2 g2 63 [.pointer (some ⟨gb, 0, none⟩)] from ⟨_, hbox, rfl⟩); have HG2 := aK (show w.heap.size ≤ g2 by rw [hg2]; exact Nat.le_refl _); have HW := aK hb2; clear hbox hb2 hg2) | ((with_reducible refine gate_dst (N := 3) rfl ?_); refine box_event (N := 3) rfl rfl (cs := #[.slice (some ad) n c]) (t := 38) ?hr3 ?_; (case hr3 => first | (go_simp; done) | (go_simp; rfl)); intro g3 hg3 w3 hbox hb3; have H3 := aK (show RowAt w3 g3 38 [.slice (some ad) n c] from ⟨_, hbox, rfl⟩); have n1_ := aK (H2.out.below hb3); have n2_ := aK (below_step HW.out hb3); clear H2 HW hbox hb3 hg3; have H2 := n1_; have HW := n2_; clear n1_ n2_; have e3 : w3.cell? ⟨g3, 0, none⟩ = some (.slice (some ad) n c) := H3.out.cell 0; obtain ⟨x0, x1, x2, x3, x4, x5, x6, x7, x8, x9⟩ := HNA.out.below HW.out) | ((with_reducible refine gate_dst (N := 5) rfl ?_); refine box_event ?hg (N := 5) ?hd (cs := #[.int .i64 0, .int .i64 0, .string (⟨#[]⟩ : ByteArray), .bool false, .int .u64 0, .int .u64 0, .int .u64 0, .int .u64 0, .int .i64 0, .int .i64 0]) (t := 51) ?hr ?_; (case hd => rfl); (case hg => rfl); (case hr => first | (go_simp; done) | (go_simp; rfl)); intro g5 hg5 w4 hbox hb4; have H5 := aK (show RowAt w4 g5 51 zCells from ⟨_, hbox, rfl⟩); have HG5 := aK (show w.heap.size ≤ g5 ∧ g2 < g5 ∧ g3 < g5 by rw [hg5]; exact ⟨HW.out.size, H2.out.lt, H3.out.lt⟩); have n1_ := aK (H2.out.below hb4); have n2_ := aK (below_step HW.out hb4); have n3_ := aK (H3.out.below hb4); clear H2 HW H3 hbox hb4 hg5 e3 x0 x1 x2 x3 x4 x5 x6 x7 x8 x9; have H2 := n1_; have HW := n2_; have H3 := n3_; clear n1_ n2_ n3_) | ((with_reducible refine gate_store (t := 51) (p := 5) rfl ?_); refine put_event rfl rfl 51 (.tmp 5) (.tmp 13) rfl (g := g5) (off := 0) (u := .agg (enCells nd).toArray) (seg := enCells nd) rfl rfl H5.out rfl (by kernel_rfl) (Nat.le_refl _) (en_one nd) ?_; intro w5 hrow hg5; have n1_ := aK (show RowAt w5 g5 51 (enCells nd) from hrow); have n2_ := aK (H2.out.grown hg5 (by have := HG5.out; simp; omega)); have n3_ := aK (H3.out.grown hg5 (by have := HG5.out; simp; omega)); have n4_ := aK (pw_below_grown HW.out _ HW.out.size hg5 (fun k hk => by cases hk; exact HG5.out.1)); clear H5 H2 H3 HW hrow hg5; have H5 := n1_; have H2 := n2_; have H3 := n3_; have HW := n4_; clear n1_ n2_ n3_ n4_; have x0 : w5.cell? ⟨g5, 0, none⟩ = some (.int .i64 nd.f0) := (show w5.cell? ⟨g5, 0, none⟩ = some (.int .i64 nd.f0) from H5.out.cell 0).trans (by rw [HF0.out]); have x6 : w5.cell? ⟨g5, 9, none⟩ = some (.int .i64 nd.f6) := H5.out.cell 9) | ((with_reducible refine gate_dst (N := 6) rfl ?_); refine box_event (N := 6) rfl rfl (cs := #[.slice none 0 0]) (t := 95) ?hr6 ?_; (case hr6 => first | (go_simp; done) | (go_simp; rfl)); intro g6 hg6 w6 hbox hb6; have H6 := aK (show RowAt w6 g6 95 [.slice none 0 0] from ⟨_, hbox, rfl⟩); have HG6 := aK (show w.heap.size ≤ g6 ∧ g2 < g6 ∧ g3 < g6 ∧ g5 < g6 by rw [hg6]; exact ⟨HW.out.size, H2.out.lt, H3.out.lt, H5.out.lt⟩); have n1_ := aK (H2.out.below hb6); have n2_ := aK (below_step HW.out hb6); have n3_ := aK (H3.out.below hb6); have n4_ := aK (H5.out.below hb6); clear H2 HW H3 H5 hbox hb6 hg6 x0 x6; have H2 := n1_; have HW := n2_; have H3 := n3_; have H5 := n4_; clear n1_ n2_ n3_ n4_; have HS := aK (show LaySt w w6 g6 (.slice none 0 0) 0 [] [] from ⟨H6.out, World.ownsRow_nil _ _ _ _, Bods.nil _, HW.out, HG6.out.1⟩); clear H6) | ((go_at_call 42; have hcall := HIN.out.call w6 g2 g3 g6 HS.out H2.out H3.out (by have := HG6.out; omega); rw [HLF.out] at hcall; (with_reducible refine hcall.mono ?_); clear hcall); rintro e w7 ⟨rfl, hb7⟩)); exact ⟨rfl, show LaidE w.heap.size w7 (layT left NM (.mk nd ps)) (.panicked tooMuch) by rw [layT, if_neg HNQ.out, HLF.out]; exact rfl, hb7⟩)
end
end Go.Proofs.YtihiicjnjhideaaDoor.Build
end
