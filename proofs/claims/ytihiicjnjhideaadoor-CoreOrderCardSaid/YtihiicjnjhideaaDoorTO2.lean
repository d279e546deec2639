/- Parts of the proof of coreOrder: Shelf. No condition beyond each lemma's own. -/
import Derived.Shelf.Small.Strs
import Derived.Shelf.Small.Utf8
import Derived.Shelf.Strings.AsciiSet
import Derived.Shelf.Strings.IndexAny
import Derived.Shelf.Strings.IndexAnyAll
import Derived.Shelf.Strings.Prefix
import Derived.Shelf.Strings.Runes
import Derived.Shelf.Strings.Search1
import Derived.Test.YtihiicjnjhideaaDoorProg
section
namespace Go.Proofs
open Go.Shelf
def Tryd.lays150_ren : Go.Shelf.Ren := ⟨fun | 150 => 33 | 153 => 54 | 152 => 63 | 226 => 64 | 227 => 65 | 228 => 66 | 137 => 70 | 119 => 71 | 224 => 72 | 225 => 73 | 217 => 76 | 266 => 77 | n => n, fun | 9 => 9 | 4 => 4 | 3 => 3 | 5 => 5 | 21 => 21 | 117 => 116 | 116 => 115 | 0 => 0 | 46 => 72 | 124 => 120 | n => n, fun | n => n⟩
theorem Tryd.lays150 : Go.Proofs.Lays.n150 Tryd.prog Tryd.lays150_ren := {
 mixed := by kernel_rfl
 f119 := Tryd.func71.trans (congrArg some (by kernel_rfl))
 f137 := Tryd.func70.trans (congrArg some (by kernel_rfl))
 f150 := Tryd.func33.trans (congrArg some (by kernel_rfl))
 f152 := Tryd.func63.trans (congrArg some (by kernel_rfl))
 f153 := Tryd.func54.trans (congrArg some (by kernel_rfl))
 f217 := Tryd.func76.trans (congrArg some (by kernel_rfl))
 f224 := Tryd.func72.trans (congrArg some (by kernel_rfl))
 f225 := Tryd.func73.trans (congrArg some (by kernel_rfl))
 f226 := Tryd.func64.trans (congrArg some (by kernel_rfl))
 f227 := Tryd.func65.trans (congrArg some (by kernel_rfl))
 f228 := Tryd.func66.trans (congrArg some (by kernel_rfl))
 f266 := Tryd.func77.trans (congrArg some (by kernel_rfl))
 t0 := Tryd.underlying0
 a0 := Tryd.isAgg0
 z0 := Tryd.sizeOf0
 v0 := Tryd.zeroValue0
 t3 := Tryd.underlying3
 a3 := Tryd.isAgg3
 z3 := Tryd.sizeOf3
 v3 := Tryd.zeroValue3
 t4 := Tryd.underlying4
 a4 := Tryd.isAgg4
 z4 := Tryd.sizeOf4
 v4 := Tryd.zeroValue4
 t5 := Tryd.underlying5
 a5 := Tryd.isAgg5
 z5 := Tryd.sizeOf5
 v5 := Tryd.zeroValue5
 t9 := Tryd.underlying9
 a9 := Tryd.isAgg9
 z9 := Tryd.sizeOf9
 v9 := Tryd.zeroValue9
 t21 := Tryd.underlying21
 a21 := Tryd.isAgg21
 z21 := Tryd.sizeOf21
 v21 := Tryd.zeroValue21
 t46 := Tryd.underlying72
 a46 := Tryd.isAgg72
 z46 := Tryd.sizeOf72
 v46 := Tryd.zeroValue72
 t116 := Tryd.underlying115
 a116 := Tryd.isAgg115
 z116 := Tryd.sizeOf115
 t117 := Tryd.underlying116
 a117 := Tryd.isAgg116
 z117 := Tryd.sizeOf116
 v117 := Tryd.zeroValue116
 t124 := Tryd.underlying120
 a124 := Tryd.isAgg120
 z124 := Tryd.sizeOf120
 v124 := Tryd.zeroValue120 }
open Go.RowKit Go.Lib in
theorem Tryd.strings_ContainsAny_laid (s chars : ByteArray) (w : World) (hs : s.size < 4294967281) (hcs : chars.size < 4294967281) (has : ∀ (j : Nat) b, s.data.toList[j]? = some b → b.toNat < 128) (hac : ∀ (j : Nat) b, chars.data.toList[j]? = some b → b.toNat < 128) :
  Calls Tryd.prog 33 #[.string s, .string chars] w fun e w' => e = .returned (.bool (Lib.containsAny s.data.toList chars.data.toList)) ∧ Below w.heap.size w w' := Any.strings_ContainsAny_laid Tryd.lays150 (by kernel_rfl) s chars w hs hcs has hac
end Go.Proofs
end
