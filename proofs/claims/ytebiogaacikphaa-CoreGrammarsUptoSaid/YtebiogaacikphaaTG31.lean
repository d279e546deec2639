/- Parts of the proof of coreGrammars: FreeOuterC. No condition beyond each lemma's own. -/
import Derived.Test.YtebiogaacikphaaTG30
section
namespace Go.Proofs.Ytebiogaacikphaa.Pack
open Go.RowKit Go.Proofs.YtebiogaacikphaaW.PrintWords Go.Proofs.Ytebiogaacikphaa.PAll Go.Proofs.Ytebiogaacikphaa.Core
set_option linter.unusedVariables false
set_option linter.unusedSimpArgs false
set_option linter.unnecessarySimpa false
noncomputable def oBody3 : Code := ((loopsOf (Try.f70.body.getD .skip))[2]?).getD .skip
section
variable (base gl n : Nat) (w : World) (f : Nat → Nat) (AR : Nat → Option Addr) (CR : Nat → Nat) (v : Nat → Value) (ns : Nat → Nat) (cs : Nat → List Value) (g4 g5 c4 c5 : Nat)
set_option maxHeartbeats 8000000 in
set_option maxRecDepth 100000 in
theorem oLoop3 (HN : Aside0 (n ≤ 65536)) (HP : Aside0 (PR n AR CR 2 0 v ns cs)) (HQ : Aside0 (PU 2 0 v ns cs)) (HG4 : Aside0 (v (E1 2) = .slice (some ⟨g4, 0, none⟩) 2 c4)) (HG5 : Aside0 (v (E2 2) = .slice (some ⟨g5, 0, none⟩) 2 c5)) (wr : World) (HO : Aside0 (O2 base w wr f v ns cs gl n AR CR))
  (Q0 : Exit → Act → World → Prop) (u1 u2 u3 u4 u5 u8 u9 u10 u11 u14 u15 u16 u17 u18 u19 u20 u21 u22 u23 u24 u25 u26 u27 u28 u29 u30 u31 u32 u33 u34 u35 u36 u37 u38 u39 u40 u41 u42 u43 u44 u45 u46 u47 u48 u49 u50 u51 u52 u53 u54 u55 u56 u57 u58 u59 u60 u61 u62 u63 u64 u65 u66 u67 u68 u69 u70 u71 u72 u73 u74 u75 u76 u77 u78 u79 u80 u81 u82 u83 u84 u85 u86 u87 u88 u89 u90 u91 u92 u93 u94 u95 u96 u97 u98 u99 u100 u101 u102 u103 u104 u105 u106 u107 u108 u109 u110 u111 u112 u113 u114 u115 u116 u117 u118 u119 u120 u121 u122 u123 u124 u125 u126 u127 u128 u129 u130 u131 u132 u133 u134 u135 u136 u137 u138 u139 u140 u141 u142 u143 u144 u145 u146 u147 u148 u149 u150 u151 u152 u153 u154 u155 u156 u157 u158 u159 u160 u161 u162 u163 u164 u165 u166 u167 u168 u169 u170 u171 u172 u173 u174 u175 u176 u177 u178 u179 u180 u181 u182 u183 u184 u185 u186 u187 u188 u189 u190 u191 u192 u193 u194 u195 u196 u197 u198 u199 u200 u201 u202 u203 u204 u205 u206 u207 u208 u209 u210 u211 u212 u213 u214 u215 u216 u217 u218 u219 u220 u221 u222 u223 u224 u225 u226 u227 u228 u229 u230 u231 u232 u233 u234 u235 u236 u237 u238 u239 u240 u241 u242 u243 u244 u245 u246 u247 u248 u249 u250 u251 u252 u253 u254 u255 u256 u257 u258 u259 u260 u261 u262 u263 u264 u265 u266 u267 u268 u269 u270 u271 u272 u273 u274 : Value) (hexit : ∀ (x1 x2 x3 x4 x5 x6 x7 x8 x9 x10 x11 x13 x14 x15 x16 x17 x18 x19 x20 x21 x22 x23 x24 x25 x26 x27 x28 x29 x30 x31 x32 x33 x34 x35 x36 x37 x38 x39 x40 x41 x42 x43 x44 x45 x46 x47 x48 x49 x50 x51 x52 x53 x54 x55 x56 x57 x58 x59 x60 x61 x62 x63 x64 x65 x66 x67 x68 x69 x70 x71 x72 x73 x74 x75 x76 x77 x78 x79 x80 x81 x82 x83 x84 x85 x86 x87 x88 x89 x90 x91 x92 x93 x94 x95 x96 x97 x98 x99 x100 x101 x102 x103 x104 x105 x106 x107 x108 x109 x110 x111 x112 x113 x114 x115 x116 x117 x118 x119 x120 x121 x122 x123 x124 x125 x126 x127 x128 x129 x130 x131 x132 x133 x134 x135 x136 x137 x138 x139 x140 x141 x142 x143 x144 x145 x146 x147 x148 x149 x150 x151 x152 x153 x154 x155 x156 x157 x158 x159 x160 x161 x162 x163 x164 x165 x166 x167 x168 x169 x170 x171 x172 x173 x174 x175 x176 x177 x178 x179 x180 x181 x182 x183 x184 x185 x186 x187 x188 x189 x190 x191 x192 x193 x194 x195 x196 x197 x198 x199 x200 x201 x202 x203 x204 x205 x206 x207 x208 x209 x210 x211 x212 x213 x214 x215 x216 x217 x218 x219 x220 x221 x222 x223 x224 x225 x226 x227 x228 x229 x230 x231 x232 x233 x234 x235 x236 x237 x238 x239 x240 x241 x242 x243 x244 x245 x246 x247 x248 x249 x250 x251 x252 x253 x254 x255 x256 x257 x258 x259 x260 x261 x262 x263 x264 x265 x266 x267 x268 x269 x270 x271 x272 x273 x274 : Value) (w' : World), O2 base w w' f v ns cs gl n AR CR → Q0 (.exit 10) ⟨#[(.slice (some ⟨gl, 0, none⟩) 2 2), x1, x2, x3, x4, x5, x6, x7, x8, x9, x10, x11, (.bool true), x13, x14, x15, x16, x17, x18, x19, x20, x21, x22, x23, x24, x25, x26, x27, x28, x29, x30, x31, x32, x33, x34, x35, x36, x37, x38, x39, x40, x41, x42, x43, x44, x45, x46, x47, x48, x49, x50, x51, x52, x53, x54, x55, x56, x57, x58, x59, x60, x61, x62, x63, x64, x65, x66, x67, x68, x69, x70, x71, x72, x73, x74, x75, x76, x77, x78, x79, x80, x81, x82, x83, x84, x85, x86, x87, x88, x89, x90, x91, x92, x93, x94, x95, x96, x97, x98, x99, x100, x101, x102, x103, x104, x105, x106, x107, x108, x109, x110, x111, x112, x113, x114, x115, x116, x117, x118, x119, x120, x121, x122, x123, x124, x125, x126, x127, x128, x129, x130, x131, x132, x133, x134, x135, x136, x137, x138, x139, x140, x141, x142, x143, x144, x145, x146, x147, x148, x149, x150, x151, x152, x153, x154, x155, x156, x157, x158, x159, x160, x161, x162, x163, x164, x165, x166, x167, x168, x169, x170, x171, x172, x173, x174, x175, x176, x177, x178, x179, x180, x181, x182, x183, x184, x185, x186, x187, x188, x189, x190, x191, x192, x193, x194, x195, x196, x197, x198, x199, x200, x201, x202, x203, x204, x205, x206, x207, x208, x209, x210, x211, x212, x213, x214, x215, x216, x217, x218, x219, x220, x221, x222, x223, x224, x225, x226, x227, x228, x229, x230, x231, x232, x233, x234, x235, x236, x237, x238, x239, x240, x241, x242, x243, x244, x245, x246, x247, x248, x249, x250, x251, x252, x253, x254, x255, x256, x257, x258, x259, x260, x261, x262, x263, x264, x265, x266, x267, x268, x269, x270, x271, x272, x273, x274], []⟩ w') :
  Code.wp Try.prog (Code.loop oBody3) Q0 ⟨#[(.slice (some ⟨gl, 0, none⟩) 2 2), u1, u2, u3, u4, u5, (.slice (some ⟨g4, 0, none⟩) 2 c4), (.slice (some ⟨g5, 0, none⟩) 2 c5), u8, u9, u10, u11, (.bool true), (.int .i64 0), u14, u15, u16, u17, u18, u19, u20, u21, u22, u23, u24, u25, u26, u27, u28, u29, u30, u31, u32, u33, u34, u35, u36, u37, u38, u39, u40, u41, u42, u43, u44, u45, u46, u47, u48, u49, u50, u51, u52, u53, u54, u55, u56, u57, u58, u59, u60, u61, u62, u63, u64, u65, u66, u67, u68, u69, u70, u71, u72, u73, u74, u75, u76, u77, u78, u79, u80, u81, u82, u83, u84, u85, u86, u87, u88, u89, u90, u91, u92, u93, u94, u95, u96, u97, u98, u99, u100, u101, u102, u103, u104, u105, u106, u107, u108, u109, u110, u111, u112, u113, u114, u115, u116, u117, u118, u119, u120, u121, u122, u123, u124, u125, u126, u127, u128, u129, u130, u131, u132, u133, u134, u135, u136, u137, u138, u139, u140, u141, u142, u143, u144, u145, u146, u147, u148, u149, u150, u151, u152, u153, u154, u155, u156, u157, u158, u159, u160, u161, u162, u163, u164, u165, u166, u167, u168, u169, u170, u171, u172, u173, u174, u175, u176, u177, u178, u179, u180, u181, u182, u183, u184, u185, u186, u187, u188, u189, u190, u191, u192, u193, u194, u195, u196, u197, u198, u199, u200, u201, u202, u203, u204, u205, u206, u207, u208, u209, u210, u211, u212, u213, u214, u215, u216, u217, u218, u219, u220, u221, u222, u223, u224, u225, u226, u227, u228, u229, u230, u231, u232, u233, u234, u235, u236, u237, u238, u239, u240, u241, u242, u243, u244, u245, u246, u247, u248, u249, u250, u251, u252, u253, u254, u255, u256, u257, u258, u259, u260, u261, u262, u263, u264, u265, u266, u267, u268, u269, u270, u271, u272, u273, u274], []⟩ wr := by
 dsimp only at hexit ⊢
 conv => arg 2; arg 1; whnf
 go_loopw [12, 13] (fun v12 v13 wr => ∃ (i : Nat), v12 = .bool true ∧ v13 = .int .i64 i ∧ Aside0 (i ≤ 2) ∧ Aside0 (O2 base w wr f v ns cs gl n AR CR)) (fun _ v13 _ => 2 - (intOf v13).toNat)
 case atStart => exact ⟨0, rfl, rfl, ⟨Nat.zero_le _⟩, HO⟩
 case round =>
  clear HO
  obtain ⟨i, rfl, rfl, HI, HO⟩ := hrel
  by_cases c3 : i < 2
  ·have b3 := lt2I c3
   have b3n : decide (i < 2) = true := decide_eq_true c3
   have hix := idx_g gl 2 2 i c3
   have hi4 := idx_rr g4 2 c4 i c3
   have hi5 := idx_uu g5 2 c5 i c3
   have hws := word_size c3
   have hne : ¬ (wordS i ++ ⟨#[43]⟩ : ByteArray).toList = (wordS i).toList := plus_neL i
   obtain ⟨gr, cr, gu, cu, hv1, hv2⟩ := O2.views HO.out HP.out HQ.out c3
   have HF := Aside0.mk (show ∀ W, O2 base w W f v ns cs gl n AR CR → OFin g4 gr g5 gu gl n i AR CR cr cu W from fun W hW => O2.final HP.out HQ.out HG4.out HG5.out c3 hv1 hv2 W hW)
   clear hv1 hv2
   obtain ⟨M, hM⟩ : ∃ M, n + 20 = M := ⟨_, rfl⟩
   have HMM := Aside0.mk hM
   have HMB := Aside0.mk (show M ≤ 65556 by have := HN.out; omega)
   clear hM
   go_wp2
   go_loopw [12, 14] (fun v12 v14 wr => ∃ (k : Nat), v12 = .bool true ∧ v14 = .int .i64 k ∧ Aside0 (k ≤ M) ∧ Aside0 (O2 base w wr f v ns cs gl n AR CR)) (fun _ v14 _ => M - (intOf v14).toNat)
   case atStart => exact ⟨0, rfl, rfl, ⟨Nat.zero_le _⟩, HO⟩
   case round =>
    clear HO
    obtain ⟨k, rfl, rfl, HK, HO⟩ := hrel
    have kb := leM HK.out HMB.out
    have hrr := (HF.out wr HO.out).rr
    rw [HMM.out] at hrr
    by_cases ck : k < M
    ·have b4 := ltI ck
     have b4n : decide (k < M) = true := decide_eq_true ck
     have HCK := Aside0.mk (show k < n + 20 by rw [HMM.out]; exact ck)
     have hir := idx_r gr (n + 20) cr k HCK.out
     go_wp2
     clear hrr
     by_cases cl : k < n
     ·have b5 := ltI cl
      have b5n : decide (k < n) = true := decide_eq_true cl
      have cn : (if k < n then wordS i else (wordS i ++ ⟨#[43]⟩ : ByteArray)) = wordS i := if_pos cl
      refine oreg33a base gl n w f AR CR v ns cs g4 g5 c4 c5 gr cr gu cu i k HF c3 HCK ⟨cl⟩ _ HO _ _ _ _ _ _ _ _ _ _ _ _ _ _ _ _ _ _ _ _ _ _ _ _ _ _ _ _ _ _ _ _ _ _ _ _ _ _ _ _ _ _ _ _ _ _ _ _ _ _ _ _ _ _ _ _ _ _ _ _ _ _ _ _ _ _ _ _ _ _ _ _ _ _ _ _ _ _ _ _ _ _ _ _ _ _ _ _ _ _ _ _ _ _ _ _ _ _ _ _ _ _ _ _ _ _ _ _ _ _ _ _ _ _ _ _ _ _ _ _ _ _ _ _ _ _ _ _ _ _ _ _ _ _ _ _ _ _ _ _ _ _ _ _ _ _ _ _ _ _ _ _ _ _ _ _ _ _ _ _ _ _ _ _ _ _ _ _ _ _ _ _ _ _ _ _ _ _ _ _ _ _ _ _ _ _ _ _ _ _ _ _ _ _ _ _ _ _ _ _ _ _ _ _ _ _ _ _ _ _ _ _ _ _ _ _ _ _ _ _ _ _ _ _ _ _ _ _ _ _ _ _ _ _ _ _ _ _ _ _ _ _ _ _ _ _ _ _ _ _ _ _ _ _ _ _ _ _ _ _ _ _ _ _ _ _ _ _ _ _ ?_
      intro x121 x122 x123 x124 x125 x126 x127 x128 x129 x130 x131 x132 x133 x134 x135 x136 x137 x138 x139 x140 x141 x142 x143 x144 x145 x146 x147 x148 x149 x150 x151 x152 x153 x154 x155 x156 x157 x158 x159 x160 x161 x162 x163 x164 x165 x166 x167 w7 hO
      clear HO; have HO := Aside0.mk hO; clear hO
      dsimp only
      go_wp2
      go_roundw
      case measure => simp [intOf]; omega
      case rel => exact ⟨k + 1, rfl, by go_num, ⟨by have := HMM.out; omega⟩, HO⟩
     ·have b5 := ltI' cl
      have b5n : decide (k < n) = false := decide_eq_false cl
      have cn : (if k < n then wordS i else (wordS i ++ ⟨#[43]⟩ : ByteArray)) = wordS i ++ ⟨#[43]⟩ := if_neg cl
      refine oreg33b base gl n w f AR CR v ns cs g4 g5 c4 c5 gr cr gu cu i k HF c3 HCK ⟨cl⟩ _ HO _ _ _ _ _ _ _ _ _ _ _ _ _ _ _ _ _ _ _ _ _ _ _ _ _ _ _ _ _ _ _ _ _ _ _ _ _ _ _ _ _ _ _ _ _ _ _ _ _ _ _ _ _ _ _ _ _ _ _ _ _ _ _ _ _ _ _ _ _ _ _ _ _ _ _ _ _ _ _ _ _ _ _ _ _ _ _ _ _ _ _ _ _ _ _ _ _ _ _ _ _ _ _ _ _ _ _ _ _ _ _ _ _ _ _ _ _ _ _ _ _ _ _ _ _ _ _ _ _ _ _ _ _ _ _ _ _ _ _ _ _ _ _ _ _ _ _ _ _ _ _ _ _ _ _ _ _ _ _ _ _ _ _ _ _ _ _ _ _ _ _ _ _ _ _ _ _ _ _ _ _ _ _ _ _ _ _ _ _ _ _ _ _ _ _ _ _ _ _ _ _ _ _ _ _ _ _ _ _ _ _ _ _ _ _ _ _ _ _ _ _ _ _ _ _ _ _ _ _ _ _ _ _ _ _ _ _ _ _ _ _ _ _ _ _ _ _ _ _ _ _ _ _ _ _ _ _ _ _ _ _ _ _ _ _ _ _ _ _ _ ?_
      intro x121 x122 x123 x124 x125 x126 x127 x128 x129 x130 x131 x132 x133 x134 x135 x136 x137 x138 x139 x140 x141 x142 x143 x144 x145 x146 x147 x148 x149 x150 x151 x152 x153 x154 x155 x156 x157 x158 x159 x160 x161 x162 x163 x164 x165 x166 x167 w7 hO
      clear HO; have HO := Aside0.mk hO; clear hO
      dsimp only
      go_wp2
      go_roundw
      case measure => simp [intOf]; omega
      case rel => exact ⟨k + 1, rfl, by go_num, ⟨by have := HMM.out; omega⟩, HO⟩
    ·have b4 := ltI' ck
     have b4n : decide (k < M) = false := decide_eq_false ck
     go_wp2
     clear hrr
     go_loopw [12, 15] (fun v12 v15 wr => ∃ (k : Nat), v12 = .bool true ∧ v15 = .int .i64 k ∧ Aside0 (k ≤ 20) ∧ Aside0 (O2 base w wr f v ns cs gl n AR CR)) (fun _ v15 _ => 20 - (intOf v15).toNat)
     case atStart => exact ⟨0, rfl, rfl, ⟨Nat.zero_le _⟩, HO⟩
     case round =>
      clear HO HK ck b4 b4n kb
      obtain ⟨k, rfl, rfl, HK, HO⟩ := hrel
      have kb := le20 HK.out
      have huu := (HF.out wr HO.out).uu
      have hlu := (HF.out wr HO.out).lu
      have hlr := (HF.out wr HO.out).lr
      by_cases ck : k < 20
      ·have b4 := lt20 ck
       have b4n : decide (k < 20) = true := decide_eq_true ck
       have hiu := idx_u gu 20 cu k ck
       have b5 := lt0' (j := k)
       go_wp2
       clear huu hlu hlr
       refine oreg37 base gl n w f AR CR v ns cs g4 g5 c4 c5 gr cr gu cu i k HF c3 ck _ HO _ _ _ _ _ _ _ _ _ _ _ _ _ _ _ _ _ _ _ _ _ _ _ _ _ _ _ _ _ _ _ _ _ _ _ _ _ _ _ _ _ _ _ _ _ _ _ _ _ _ _ _ _ _ _ _ _ _ _ _ _ _ _ _ _ _ _ _ _ _ _ _ _ _ _ _ _ _ _ _ _ _ _ _ _ _ _ _ _ _ _ _ _ _ _ _ _ _ _ _ _ _ _ _ _ _ _ _ _ _ _ _ _ _ _ _ _ _ _ _ _ _ _ _ _ _ _ _ _ _ _ _ _ _ _ _ _ _ _ _ _ _ _ _ _ _ _ _ _ _ _ _ _ _ _ _ _ _ _ _ _ _ _ _ _ _ _ _ _ _ _ _ _ _ _ _ _ _ _ _ _ _ _ _ _ _ _ _ _ _ _ _ _ _ _ _ _ _ _ _ _ _ _ _ _ _ _ _ _ _ _ _ _ _ _ _ _ _ _ _ _ _ _ _ _ _ _ _ _ _ _ _ _ _ _ _ _ _ _ _ _ _ _ _ _ _ _ _ _ _ _ _ _ _ _ _ _ _ _ _ _ _ _ _ _ _ _ _ _ _ ?_
       intro x177 x178 x179 x180 x181 x182 x183 x184 x185 x186 x187 x188 x189 x190 x191 x192 x193 x194 x195 x196 x197 x198 x199 x200 x201 x202 x203 x204 x205 x206 x207 x208 x209 x210 x211 x212 x213 x214 x215 x216 x217 x218 x219 x220 x221 x222 x223 w7 hO
       clear HO; have HO := Aside0.mk hO; clear hO
       dsimp only
       go_wp2
       go_roundw
       case measure => simp [intOf]; omega
       case rel => exact ⟨k + 1, rfl, by go_num, ⟨ck⟩, HO⟩
      ·have b4 := lt20' ck
       have b4n : decide (k < 20) = false := decide_eq_false ck
       go_wp2
       clear huu hlu hlr
       go_loopw [12, 16] (fun v12 v16 wr => ∃ (k : Nat), v12 = .bool true ∧ v16 = .int .i64 k ∧ Aside0 (k ≤ n) ∧ Aside0 (O2 base w wr f v ns cs gl n AR CR)) (fun _ v16 _ => n - (intOf v16).toNat)
       case atStart => exact ⟨0, rfl, rfl, ⟨Nat.zero_le _⟩, HO⟩
       case round =>
        clear HO HK ck b4 b4n kb
        obtain ⟨k, rfl, rfl, HK, HO⟩ := hrel
        have kb := leM HK.out (Nat.le_trans HN.out (by decide))
        have hlr := (HF.out wr HO.out).lr
        have hlu := (HF.out wr HO.out).lu
        by_cases ck : k < n
        ·have b4 := ltI ck
         have b4n : decide (k < n) = true := decide_eq_true ck
         obtain ⟨g, hA, _⟩ := (HF.out wr HO.out).l k ck
         have HA := Aside0.mk hA
         have hixr := idx_r g n (CR i) k ck
         clear hA
         go_wp2
         clear hlr hlu
         refine oreg41 base gl n w f AR CR v ns cs g4 g5 c4 c5 gr cr gu cu i k HF c3 ck _ HO _ _ _ _ _ _ _ _ _ _ _ _ _ _ _ _ _ _ _ _ _ _ _ _ _ _ _ _ _ _ _ _ _ _ _ _ _ _ _ _ _ _ _ _ _ _ _ _ _ _ _ _ _ _ _ _ _ _ _ _ _ _ _ _ _ _ _ _ _ _ _ _ _ _ _ _ _ _ _ _ _ _ _ _ _ _ _ _ _ _ _ _ _ _ _ _ _ _ _ _ _ _ _ _ _ _ _ _ _ _ _ _ _ _ _ _ _ _ _ _ _ _ _ _ _ _ _ _ _ _ _ _ _ _ _ _ _ _ _ _ _ _ _ _ _ _ _ _ _ _ _ _ _ _ _ _ _ _ _ _ _ _ _ _ _ _ _ _ _ _ _ _ _ _ _ _ _ _ _ _ _ _ _ _ _ _ _ _ _ _ _ _ _ _ _ _ _ _ _ _ _ _ _ _ _ _ _ _ _ _ _ _ _ _ _ _ _ _ _ _ _ _ _ _ _ _ _ _ _ _ _ _ _ _ _ _ _ _ _ _ _ _ _ _ _ _ _ _ _ _ _ _ _ _ _ _ _ _ _ _ _ _ _ _ _ _ _ _ _ _ ?_
         intro x234 x235 x236 x237 x238 x239 x240 x241 x242 x243 x244 x245 x246 x247 x248 w7 hO
         clear HO; have HO := Aside0.mk hO; clear hO
         dsimp only
         go_wp2
         go_roundw
         case measure => simp [intOf]; omega
         case rel => exact ⟨k + 1, rfl, by go_num, ⟨ck⟩, HO⟩
        ·have b4 := ltI' ck
         have b4n : decide (k < n) = false := decide_eq_false ck
         go_wp2
         clear hlr hlu
         go_loopw [12, 17] (fun v12 v17 wr => v12 = .bool true ∧ v17 = .int .i64 0 ∧ Aside0 (O2 base w wr f v ns cs gl n AR CR)) (fun _ v17 _ => 0)
         case atStart => exact ⟨rfl, rfl, HO⟩
         case round =>
          clear HO
          obtain ⟨rfl, rfl, HO⟩ := hrel
          have hlu := (HF.out wr HO.out).lu
          go_wp2
          go_roundw
          case measure => simp [intOf]; omega
          case rel => exact ⟨i + 1, rfl, by go_num, ⟨c3⟩, HO⟩
  ·have b3 := lt2I' c3
   have b3n : decide (i < 2) = false := decide_eq_false c3
   go_wp2
   exact HO.out
end
end Go.Proofs.Ytebiogaacikphaa.Pack
end
