/- Parts of the proof of coreGrammars: FreeOuterRa. No condition beyond each lemma's own. -/
import Derived.Test.YtebiogaacikphaaTG27
section
namespace Go.Proofs.Ytebiogaacikphaa.Pack
open Go.RowKit Go.Proofs.YtebiogaacikphaaW.PrintWords Go.Proofs.Ytebiogaacikphaa.PAll Go.Proofs.Ytebiogaacikphaa.Core
set_option linter.unusedVariables false
set_option linter.unusedSimpArgs false
set_option linter.unnecessarySimpa false
theorem ltI {j M : Nat} (h : j < M) : decide ((j : Int) < (M : Int)) = true := decide_eq_true (by omega)
theorem ltI' {j M : Nat} (h : ¬ j < M) : decide ((j : Int) < (M : Int)) = false := decide_eq_false (by omega)
theorem lt20 {j : Nat} (h : j < 20) : decide ((j : Int) < 20) = true := decide_eq_true (by omega)
theorem lt20' {j : Nat} (h : ¬ j < 20) : decide ((j : Int) < 20) = false := decide_eq_false (by omega)
theorem lt0' {j : Nat} : decide ((j : Int) < 0) = false := decide_eq_false (by omega)
theorem lt2I {j : Nat} (h : j < 2) : decide ((j : Int) < 2) = true := decide_eq_true (by omega)
theorem lt2I' {j : Nat} (h : ¬ j < 2) : decide ((j : Int) < 2) = false := decide_eq_false (by omega)
theorem le20 {j : Nat} (h : j ≤ 20) : (j : Int) ≤ 20 := by omega
theorem leM {j M : Nat} (h : j ≤ M) (hb : M ≤ 65556) : (j : Int) ≤ 65556 := by omega
section
variable (base gl n : Nat) (w : World) (f : Nat → Nat) (AR : Nat → Option Addr) (CR : Nat → Nat) (v : Nat → Value) (ns : Nat → Nat) (cs : Nat → List Value) (g4 g5 c4 c5 gr cr gu cu i k : Nat)
noncomputable def oReg33a : Code := ((findReg 33 (Try.f70.body.getD .skip))).getD .skip
set_option maxHeartbeats 8000000 in
set_option maxRecDepth 100000 in
theorem oreg33a (HF : Aside0 (∀ W, O2 base w W f v ns cs gl n AR CR → OFin g4 gr g5 gu gl n i AR CR cr cu W)) (c3 : i < 2) (HCK : Aside0 (k < n + 20)) (HCL : Aside0 (k < n)) (wr : World) (HO : Aside0 (O2 base w wr f v ns cs gl n AR CR))
    (Q0 : Exit → Act → World → Prop) (u1 u2 u3 u4 u5 u8 u9 u10 u11 u15 u16 u17 u18 u19 u20 u21 u22 u23 u24 u25 u26 u27 u28 u29 u30 u31 u32 u33 u34 u35 u36 u37 u38 u39 u40 u41 u42 u43 u44 u45 u46 u47 u48 u49 u50 u51 u52 u53 u54 u55 u56 u57 u58 u59 u60 u61 u62 u63 u64 u65 u66 u67 u68 u69 u70 u71 u72 u73 u74 u75 u76 u77 u78 u79 u80 u81 u82 u83 u84 u85 u86 u87 u88 u89 u90 u91 u92 u93 u94 u95 u96 u97 u98 u99 u100 u101 u102 u103 u104 u105 u106 u107 u108 u109 u110 u111 u112 u113 u114 u115 u116 u117 u118 u119 u120 u121 u122 u123 u124 u125 u126 u127 u128 u129 u130 u131 u132 u133 u134 u135 u136 u137 u138 u139 u140 u141 u142 u143 u144 u145 u146 u147 u148 u149 u150 u151 u152 u153 u154 u155 u156 u157 u158 u159 u160 u161 u162 u163 u164 u165 u166 u167 u168 u169 u170 u171 u172 u173 u174 u175 u176 u177 u178 u179 u180 u181 u182 u183 u184 u185 u186 u187 u188 u189 u190 u191 u192 u193 u194 u195 u196 u197 u198 u199 u200 u201 u202 u203 u204 u205 u206 u207 u208 u209 u210 u211 u212 u213 u214 u215 u216 u217 u218 u219 u220 u221 u222 u223 u224 u225 u226 u227 u228 u229 u230 u231 u232 u233 u234 u235 u236 u237 u238 u239 u240 u241 u242 u243 u244 u245 u246 u247 u248 u249 u250 u251 u252 u253 u254 u255 u256 u257 u258 u259 u260 u261 u262 u263 u264 u265 u266 u267 u268 u269 u270 u271 u272 u273 u274 : Value) (hexit : ∀ (x121 x122 x123 x124 x125 x126 x127 x128 x129 x130 x131 x132 x133 x134 x135 x136 x137 x138 x139 x140 x141 x142 x143 x144 x145 x146 x147 x148 x149 x150 x151 x152 x153 x154 x155 x156 x157 x158 x159 x160 x161 x162 x163 x164 x165 x166 x167 : Value) (w' : World), O2 base w w' f v ns cs gl n AR CR → Q0 .normal ⟨#[(.slice (some ⟨gl, 0, none⟩) 2 2), u1, u2, u3, u4, u5, (.slice (some ⟨g4, 0, none⟩) 2 c4), (.slice (some ⟨g5, 0, none⟩) 2 c5), u8, u9, u10, u11, (.bool true), (.int .i64 (i : Int)), (.int .i64 (k : Int)), u15, u16, u17, u18, u19, u20, u21, u22, u23, u24, u25, u26, u27, u28, u29, u30, u31, u32, u33, u34, u35, u36, u37, u38, u39, u40, u41, u42, u43, u44, u45, u46, u47, u48, u49, u50, u51, u52, u53, u54, u55, u56, u57, u58, u59, u60, u61, u62, u63, u64, u65, u66, u67, u68, u69, u70, u71, u72, u73, u74, u75, u76, u77, u78, u79, u80, u81, u82, u83, u84, u85, u86, u87, u88, u89, u90, u91, u92, u93, u94, u95, u96, u97, u98, u99, u100, u101, u102, u103, u104, u105, u106, u107, u108, u109, u110, u111, u112, u113, u114, u115, u116, u117, u118, u119, u120, x121, x122, x123, x124, x125, x126, x127, x128, x129, x130, x131, x132, x133, x134, x135, x136, x137, x138, x139, x140, x141, x142, x143, x144, x145, x146, x147, x148, x149, x150, x151, x152, x153, x154, x155, x156, x157, x158, x159, x160, x161, x162, x163, x164, x165, x166, x167, u168, u169, u170, u171, u172, u173, u174, u175, u176, u177, u178, u179, u180, u181, u182, u183, u184, u185, u186, u187, u188, u189, u190, u191, u192, u193, u194, u195, u196, u197, u198, u199, u200, u201, u202, u203, u204, u205, u206, u207, u208, u209, u210, u211, u212, u213, u214, u215, u216, u217, u218, u219, u220, u221, u222, u223, u224, u225, u226, u227, u228, u229, u230, u231, u232, u233, u234, u235, u236, u237, u238, u239, u240, u241, u242, u243, u244, u245, u246, u247, u248, u249, u250, u251, u252, u253, u254, u255, u256, u257, u258, u259, u260, u261, u262, u263, u264, u265, u266, u267, u268, u269, u270, u271, u272, u273, u274], []⟩ w') :
    Code.wp Try.prog oReg33a Q0 ⟨#[(.slice (some ⟨gl, 0, none⟩) 2 2), u1, u2, u3, u4, u5, (.slice (some ⟨g4, 0, none⟩) 2 c4), (.slice (some ⟨g5, 0, none⟩) 2 c5), u8, u9, u10, u11, (.bool true), (.int .i64 (i : Int)), (.int .i64 (k : Int)), u15, u16, u17, u18, u19, u20, u21, u22, u23, u24, u25, u26, u27, u28, u29, u30, u31, u32, u33, u34, u35, u36, u37, u38, u39, u40, u41, u42, u43, u44, u45, u46, u47, u48, u49, u50, u51, u52, u53, u54, u55, u56, u57, u58, u59, u60, u61, u62, u63, u64, u65, u66, u67, u68, u69, u70, u71, u72, u73, u74, u75, u76, u77, u78, u79, u80, u81, u82, u83, u84, u85, u86, u87, u88, u89, u90, u91, u92, u93, u94, u95, u96, u97, u98, u99, u100, u101, u102, u103, u104, u105, u106, u107, u108, u109, u110, u111, u112, u113, u114, u115, u116, u117, u118, u119, u120, u121, u122, u123, u124, u125, u126, u127, u128, u129, u130, u131, u132, u133, u134, u135, u136, u137, u138, u139, u140, u141, u142, u143, u144, u145, u146, u147, u148, u149, u150, u151, u152, u153, u154, u155, u156, u157, u158, u159, u160, u161, u162, u163, u164, u165, u166, u167, u168, u169, u170, u171, u172, u173, u174, u175, u176, u177, u178, u179, u180, u181, u182, u183, u184, u185, u186, u187, u188, u189, u190, u191, u192, u193, u194, u195, u196, u197, u198, u199, u200, u201, u202, u203, u204, u205, u206, u207, u208, u209, u210, u211, u212, u213, u214, u215, u216, u217, u218, u219, u220, u221, u222, u223, u224, u225, u226, u227, u228, u229, u230, u231, u232, u233, u234, u235, u236, u237, u238, u239, u240, u241, u242, u243, u244, u245, u246, u247, u248, u249, u250, u251, u252, u253, u254, u255, u256, u257, u258, u259, u260, u261, u262, u263, u264, u265, u266, u267, u268, u269, u270, u271, u272, u273, u274], []⟩ wr := by
  dsimp only at hexit ⊢
  conv => arg 2; whnf
  have hix := idx_g gl 2 2 i c3
  have hi4 := idx_rr g4 2 c4 i c3
  have hi5 := idx_uu g5 2 c5 i c3
  have hws := word_size c3
  have hne : ¬ (wordS i ++ ⟨#[43]⟩ : ByteArray).toList = (wordS i).toList := plus_neL i
  have hir := idx_r gr (n + 20) cr k HCK.out
  have cl := HCL.out
  have b5 := ltI cl
  have b5n : decide (k < n) = true := decide_eq_true cl
  clear cl
  refine wp_region_noPanic ?_
  refine wp_region_held_drew (S := fun W => O2 base w W f v ns cs gl n AR CR) (by kernel_rfl) (OS.below HO.out (below_drew (Below.refl _ _))) (fun hH => ?_)
  have n1_ := OS.below HO.out (below_drew (Below.refl wr.heap.size wr))
  clear HO
  have HO := Aside0.mk n1_
  clear n1_
  generalize wr.drew = w5 at *
  refine tk 0 (.bool true) rfl (fun w hw => by go_simp) hH ?_; simp only [gA, gB, gC, Act.put, gD, gE, gF]
  refine tk 1 (.bool true) rfl (fun w hw => by go_simp) hH ?_; simp only [gA, gB, gC, Act.put, gD, gE, gF]
  refine tk 2 (.slice (some ⟨g4, 0, none⟩) 2 c4) rfl (fun w hw => by go_simp) hH ?_; simp only [gA, gB, gC, Act.put, gD, gE, gF]
  refine tk 3 (.int .i64 (i : Int)) rfl (fun w hw => by go_simp) hH ?_; simp only [gA, gB, gC, Act.put, gD, gE, gF]
  refine tk 4 (.pointer (some ⟨g4, i, none⟩)) rfl (fun w hw => by (have := hi4 w; go_simp)) hH ?_; simp only [gA, gB, gC, Act.put, gD, gE, gF]
  refine tk 5 (.slice (some ⟨gr, 0, none⟩) (n + 20) cr) rfl (fun w hw => by (have y0 := (HF.out w hw).rr; go_simp)) hH ?_; simp only [gA, gB, gC, Act.put, gD, gE, gF]
  refine tk 6 (.int .i64 (k : Int)) rfl (fun w hw => by go_simp) hH ?_; simp only [gA, gB, gC, Act.put, gD, gE, gF]
  refine tk 7 (.pointer (some ⟨gr, k * 3, none⟩)) rfl (fun w hw => by (have := hir w; go_simp)) hH ?_; simp only [gA, gB, gC, Act.put, gD, gE, gF]
  refine tk 8 (.pointer (some ⟨gr, k * 3, none⟩)) rfl (fun w hw => by go_simp) hH ?_; simp only [gA, gB, gC, Act.put, gD, gE, gF]
  refine tk 9 (.string (wordS i)) rfl (fun w hw => by (have y0 := (show w.cell? ⟨gr, k * 3, none⟩ = some (.string (wordS i)) from by have z0 := (HF.out w hw).r k HCK.out; rw [if_pos HCL.out] at z0; exact z0); go_simp)) hH ?_; simp only [gA, gB, gC, Act.put, gD, gE, gF]
  refine tk 10 (.int .i64 (i : Int)) rfl (fun w hw => by go_simp) hH ?_; simp only [gA, gB, gC, Act.put, gD, gE, gF]
  refine tk 13 (.int .i64 (k : Int)) rfl (fun w hw => by go_simp) hH ?_; simp only [gA, gB, gC, Act.put, gD, gE, gF]
  refine tk 14 (.slice (some ⟨gl, 0, none⟩) 2 2) rfl (fun w hw => by go_simp) hH ?_; simp only [gA, gB, gC, Act.put, gD, gE, gF]
  refine tk 15 (.int .i64 (i : Int)) rfl (fun w hw => by go_simp) hH ?_; simp only [gA, gB, gC, Act.put, gD, gE, gF]
  refine tk 16 (.pointer (some ⟨gl, i * 2, none⟩)) rfl (fun w hw => by (have := hix w; go_simp)) hH ?_; simp only [gA, gB, gC, Act.put, gD, gE, gF]
  refine tk 17 (.pointer (some ⟨gl, i * 2 + 1, none⟩)) rfl (fun w hw => by go_simp) hH ?_; simp only [gA, gB, gC, Act.put, gD, gE, gF]
  refine tk 18 (.slice (AR i) n (CR i)) rfl (fun w hw => by (have y0 := (HF.out w hw).lr; go_simp)) hH ?_; simp only [gA, gB, gC, Act.put, gD, gE, gF]
  refine tk 19 (.int .i64 (n : Int)) rfl (fun w hw => by go_simp) hH ?_; simp only [gA, gB, gC, Act.put, gD, gE, gF]
  refine tk 20 (.bool true) rfl (fun w hw => by go_simp) hH ?_; simp only [gA, gB, gC, Act.put, gD, gE, gF]
  refine wpAnyH_ready (rs := [11]) (by kernel_rfl) (by simp) ?_; refine AllReadyH.cons (o := _) rfl (fun K hK => ?_) AllReadyH.nil
  refine rstep_call (w1 := w5) (by rfl) (by go_simp) (word_lit i w5) ?_
  rintro _ w6 ⟨rfl, hb6⟩
  refine ⟨_, rfl, ?_⟩
  have n1_ := OS.below HO.out hb6; clear HO hH; have HO := Aside0.mk n1_; have hH : O2 base w w6 f v ns cs gl n AR CR := n1_; clear n1_; refine hK.out _ _ hH (fun _ => ?_); clear hK K hb6; simp only [gA, gB, gC, Act.put, gD, gE, gF]
  refine tk 12 (.bool true) rfl (fun w hw => by go_simp) hH ?_; simp only [gA, gB, gC, Act.put, gD, gE, gF]
  refine tk 21 (.bool true) rfl (fun w hw => by go_simp) hH ?_; simp only [gA, gB, gC, Act.put, gD, gE, gF]
  refine tk 22 (.bool true) rfl (fun w hw => by go_simp) hH ?_; simp only [gA, gB, gC, Act.put, gD, gE, gF]
  refine tk 23 (.bool true) rfl (fun w hw => by go_simp) hH ?_; simp only [gA, gB, gC, Act.put, gD, gE, gF]
  refine tk 24 (.int .i64 (k : Int)) rfl (fun w hw => by go_simp) hH ?_; simp only [gA, gB, gC, Act.put, gD, gE, gF]
  refine tk 25 (.slice (some ⟨gl, 0, none⟩) 2 2) rfl (fun w hw => by go_simp) hH ?_; simp only [gA, gB, gC, Act.put, gD, gE, gF]
  refine tk 26 (.int .i64 (i : Int)) rfl (fun w hw => by go_simp) hH ?_; simp only [gA, gB, gC, Act.put, gD, gE, gF]
  refine tk 27 (.pointer (some ⟨gl, i * 2, none⟩)) rfl (fun w hw => by (have := hix w; go_simp)) hH ?_; simp only [gA, gB, gC, Act.put, gD, gE, gF]
  refine tk 28 (.pointer (some ⟨gl, i * 2 + 1, none⟩)) rfl (fun w hw => by go_simp) hH ?_; simp only [gA, gB, gC, Act.put, gD, gE, gF]
  refine tk 29 (.slice (AR i) n (CR i)) rfl (fun w hw => by (have y0 := (HF.out w hw).lr; go_simp)) hH ?_; simp only [gA, gB, gC, Act.put, gD, gE, gF]
  refine tk 30 (.int .i64 (n : Int)) rfl (fun w hw => by go_simp) hH ?_; simp only [gA, gB, gC, Act.put, gD, gE, gF]
  refine tk 31 (.bool true) rfl (fun w hw => by go_simp) hH ?_; simp only [gA, gB, gC, Act.put, gD, gE, gF]
  refine tk 32 (.bool true) rfl (fun w hw => by go_simp) hH ?_; simp only [gA, gB, gC, Act.put, gD, gE, gF]
  refine tks 33 rfl hH ?_; simp only [gA, gB, gC, Act.put, gD, gE, gF]
  refine tks 34 rfl hH ?_; simp only [gA, gB, gC, Act.put, gD, gE, gF]
  refine tks 35 rfl hH ?_; simp only [gA, gB, gC, Act.put, gD, gE, gF]
  refine tks 36 rfl hH ?_; simp only [gA, gB, gC, Act.put, gD, gE, gF]
  refine tks 37 rfl hH ?_; simp only [gA, gB, gC, Act.put, gD, gE, gF]
  refine tks 38 rfl hH ?_; simp only [gA, gB, gC, Act.put, gD, gE, gF]
  refine tks 39 rfl hH ?_; simp only [gA, gB, gC, Act.put, gD, gE, gF]
  refine tks 40 rfl hH ?_; simp only [gA, gB, gC, Act.put, gD, gE, gF]
  refine tks 41 rfl hH ?_; simp only [gA, gB, gC, Act.put, gD, gE, gF]
  refine wpAnyH_ready (rs := [42]) (by kernel_rfl) (by simp) ?_; refine AllReadyH.cons (o := _) rfl (fun K hK => ?_) AllReadyH.nil
  refine rstep_off (by rfl) ?_
  refine hK.out _ _ hH (fun _ => ?_)
  clear hK K
  simp only [gA, gB, gC, Act.put, gD, gE, gF]
  refine tks 43 rfl hH ?_; simp only [gA, gB, gC, Act.put, gD, gE, gF]
  refine tks 44 rfl hH ?_; simp only [gA, gB, gC, Act.put, gD, gE, gF]
  refine tk 45 (.bool true) rfl (fun w hw => by go_simp) hH ?_; simp only [gA, gB, gC, Act.put, gD, gE, gF]
  refine tk 46 (.bool true) rfl (fun w hw => by go_simp) hH ?_; simp only [gA, gB, gC, Act.put, gD, gE, gF]
  refine tk 47 (.bool true) rfl (fun w hw => by go_simp) hH ?_; simp only [gA, gB, gC, Act.put, gD, gE, gF]
  refine wpAnyH_done (by kernel_rfl) ?_ _
  refine NoPanic.normal ?_
  exact hexit _ _ _ _ _ _ _ _ _ _ _ _ _ _ _ _ _ _ _ _ _ _ _ _ _ _ _ _ _ _ _ _ _ _ _ _ _ _ _ _ _ _ _ _ _ _ _ _ HO.out
end
end Go.Proofs.Ytebiogaacikphaa.Pack
end
