/-
  No cell of these rows narrows 'for every input' (looked for: loops, veiled, ifaces, maps, wideKeys, modest, calm, conditions, laid).
  DERIVED. THE GIVEN ROWS OF THIS SEAT. 11 by the template 'for every input the law returns true; each argument reads behind the call as it read before'; 0 by the template 'total and deterministic' (their statements: YtebiogaacikphaaTotals.lean).
  GIVEN WITH THE SEED: the statements are not yours to turn. If you find one false, say at which input.
  Laid BY PROGRAM, IN A SANDBOX (cutbox-rows.mjs): the forced cells as the released guide's own fill.sh prints them over the translation 26d114b9baa45577… (all of the seat's roots in one cut). By AI agents, Wed Nov 11 2026. No macro, syntax, notation, axiom, sorry.
-/
import Derived.Test.YtebiogaacikphaaChecked
import GoSem.Claim
import GoSem.ClaimJoined
import GoSem.ClaimMapViews
import Derived.JoinedTies
import Derived.KernelRfl
namespace Go.Proofs.Ytebiogaacikphaa
/- THE CELL 'sum', in the pinned program and in every row, IS THE sha256 OF THE DUMP (.gsa) THAT YtebiogaacikphaaProg.lean LOADS. Nothing in Lean hashes anything: it is a label: what it is worth is what the hold of that sum in a sandbox is worth. -/
noncomputable def Try.pinned : Pinned := { name := "ytebiogaacikphaa", sum := "26d114b9baa45577428f732996823aa83bed5cdbb91240019acdaa1748cee7fe", checked := Try.checked }
namespace Rows
def none {H : Type} : Left H := { results := [], args := [] }

/-- 'dowellaw09.CoreParts': WHATEVER THE INPUT: true; the input reads as it did. -/
def corePartsSpec : ChangeSpec := { name := "coreParts", fn := fun _ => fun
  | [d1, d2, d3] => { results := [.lit (.bool true)], args := [d1, d2, d3] }
  | _ => none }
def corePartsRow : OpenClaim := { program := "ytebiogaacikphaa", sum := "26d114b9baa45577428f732996823aa83bed5cdbb91240019acdaa1748cee7fe", func := "dowel/dowellaw09.CoreParts", spec := "coreParts", plainKeys := false, apart := false }
def CorePartsSaid : Prop := corePartsRow.holds Try.pinned (OpenSpec.ofChange corePartsSpec)

/-- ITS FALSE NEIGHBOUR: 'it returns false'. Refute it at one input. -/
def corePartsWrong : ChangeSpec := { name := "coreParts", fn := fun _ => fun
  | [d1, d2, d3] => { results := [.lit (.bool false)], args := [d1, d2, d3] }
  | _ => none }
def CorePartsWrongFalsely : Prop := corePartsRow.holds Try.pinned (OpenSpec.ofChange corePartsWrong)

/-- 'dowellaw09.CoreChecks': WHATEVER THE INPUT: true; the input reads as it did. -/
def coreChecksSpec : ChangeSpec := { name := "coreChecks", fn := fun _ => fun
  | [d] => { results := [.lit (.bool true)], args := [d] }
  | _ => none }
def coreChecksRow : OpenClaim := { program := "ytebiogaacikphaa", sum := "26d114b9baa45577428f732996823aa83bed5cdbb91240019acdaa1748cee7fe", func := "dowel/dowellaw09.CoreChecks", spec := "coreChecks", inPlace := ["internal/bytealg.IndexByteString", "internal/bytealg.IndexString"], named := ["internal/bytealg.MaxLen"], plainKeys := false, apart := false }
def CoreChecksSaid : Prop := coreChecksRow.holds Try.pinned (OpenSpec.ofChange coreChecksSpec)

/-- ITS FALSE NEIGHBOUR: 'it returns false'. Refute it at one input. -/
def coreChecksWrong : ChangeSpec := { name := "coreChecks", fn := fun _ => fun
  | [d] => { results := [.lit (.bool false)], args := [d] }
  | _ => none }
def CoreChecksWrongFalsely : Prop := coreChecksRow.holds Try.pinned (OpenSpec.ofChange coreChecksWrong)

/-- 'dowellaw20.PackDecodes': WHATEVER THE INPUT: true; the input reads as it did. -/
def packDecodesSpec : ChangeSpec := { name := "packDecodes", fn := fun _ => fun
  | [d1, d2] => { results := [.lit (.bool true)], args := [d1, d2] }
  | _ => none }
def packDecodesRow : OpenClaim := { program := "ytebiogaacikphaa", sum := "26d114b9baa45577428f732996823aa83bed5cdbb91240019acdaa1748cee7fe", func := "dowel/dowellaw20.PackDecodes", spec := "packDecodes", plainKeys := false, apart := false }
def PackDecodesSaid : Prop := packDecodesRow.holds Try.pinned (OpenSpec.ofChange packDecodesSpec)

/-- ITS FALSE NEIGHBOUR: 'it returns false'. Refute it at one input. -/
def packDecodesWrong : ChangeSpec := { name := "packDecodes", fn := fun _ => fun
  | [d1, d2] => { results := [.lit (.bool false)], args := [d1, d2] }
  | _ => none }
def PackDecodesWrongFalsely : Prop := packDecodesRow.holds Try.pinned (OpenSpec.ofChange packDecodesWrong)

/-- 'dowellaw20.PackForged': WHATEVER THE INPUT: true; the input reads as it did. -/
def packForgedSpec : ChangeSpec := { name := "packForged", fn := fun _ => fun
  | [d] => { results := [.lit (.bool true)], args := [d] }
  | _ => none }
def packForgedRow : OpenClaim := { program := "ytebiogaacikphaa", sum := "26d114b9baa45577428f732996823aa83bed5cdbb91240019acdaa1748cee7fe", func := "dowel/dowellaw20.PackForged", spec := "packForged", plainKeys := false, apart := false }
def PackForgedSaid : Prop := packForgedRow.holds Try.pinned (OpenSpec.ofChange packForgedSpec)

/-- ITS FALSE NEIGHBOUR: 'it returns false'. Refute it at one input. -/
def packForgedWrong : ChangeSpec := { name := "packForged", fn := fun _ => fun
  | [d] => { results := [.lit (.bool false)], args := [d] }
  | _ => none }
def PackForgedWrongFalsely : Prop := packForgedRow.holds Try.pinned (OpenSpec.ofChange packForgedWrong)

/-- 'dowellaw09.CoreGrammars': WHATEVER THE INPUT: true; the input reads as it did. -/
def coreGrammarsSpec : ChangeSpec := { name := "coreGrammars", fn := fun _ => fun
  | [d] => { results := [.lit (.bool true)], args := [d] }
  | _ => none }
def coreGrammarsRow : OpenClaim := { program := "ytebiogaacikphaa", sum := "26d114b9baa45577428f732996823aa83bed5cdbb91240019acdaa1748cee7fe", func := "dowel/dowellaw09.CoreGrammars", spec := "coreGrammars", inPlace := ["internal/bytealg.IndexByteString", "internal/bytealg.IndexString"], named := ["internal/bytealg.MaxLen"], plainKeys := false, apart := false }
def CoreGrammarsSaid : Prop := coreGrammarsRow.holds Try.pinned (OpenSpec.ofChange coreGrammarsSpec)

/-- ITS FALSE NEIGHBOUR: 'it returns false'. Refute it at one input. -/
def coreGrammarsWrong : ChangeSpec := { name := "coreGrammars", fn := fun _ => fun
  | [d] => { results := [.lit (.bool false)], args := [d] }
  | _ => none }
def CoreGrammarsWrongFalsely : Prop := coreGrammarsRow.holds Try.pinned (OpenSpec.ofChange coreGrammarsWrong)

/-- 'dowellaw20.PackEncodes': WHATEVER THE INPUT: true; the input reads as it did. -/
def packEncodesSpec : ChangeSpec := { name := "packEncodes", fn := fun _ => fun
  | [d] => { results := [.lit (.bool true)], args := [d] }
  | _ => none }
def packEncodesRow : OpenClaim := { program := "ytebiogaacikphaa", sum := "26d114b9baa45577428f732996823aa83bed5cdbb91240019acdaa1748cee7fe", func := "dowel/dowellaw20.PackEncodes", spec := "packEncodes", inPlace := ["internal/bytealg.IndexByteString", "internal/bytealg.IndexString"], named := ["internal/bytealg.MaxLen"], plainKeys := false, apart := false }
def PackEncodesSaid : Prop := packEncodesRow.holds Try.pinned (OpenSpec.ofChange packEncodesSpec)

/-- ITS FALSE NEIGHBOUR: 'it returns false'. Refute it at one input. -/
def packEncodesWrong : ChangeSpec := { name := "packEncodes", fn := fun _ => fun
  | [d] => { results := [.lit (.bool false)], args := [d] }
  | _ => none }
def PackEncodesWrongFalsely : Prop := packEncodesRow.holds Try.pinned (OpenSpec.ofChange packEncodesWrong)

/-- 'dowellaw20.PackBack': WHATEVER THE INPUT: true; the input reads as it did. -/
def packBackSpec : ChangeSpec := { name := "packBack", fn := fun _ => fun
  | [d] => { results := [.lit (.bool true)], args := [d] }
  | _ => none }
def packBackRow : OpenClaim := { program := "ytebiogaacikphaa", sum := "26d114b9baa45577428f732996823aa83bed5cdbb91240019acdaa1748cee7fe", func := "dowel/dowellaw20.PackBack", spec := "packBack", inPlace := ["internal/bytealg.IndexByteString", "internal/bytealg.IndexString"], named := ["internal/bytealg.MaxLen"], plainKeys := false, apart := false }
def PackBackSaid : Prop := packBackRow.holds Try.pinned (OpenSpec.ofChange packBackSpec)

/-- ITS FALSE NEIGHBOUR: 'it returns false'. Refute it at one input. -/
def packBackWrong : ChangeSpec := { name := "packBack", fn := fun _ => fun
  | [d] => { results := [.lit (.bool false)], args := [d] }
  | _ => none }
def PackBackWrongFalsely : Prop := packBackRow.holds Try.pinned (OpenSpec.ofChange packBackWrong)

/-- 'dowellaw20.PackOne': WHATEVER THE INPUT: true; the input reads as it did. -/
def packOneSpec : ChangeSpec := { name := "packOne", fn := fun _ => fun
  | [d] => { results := [.lit (.bool true)], args := [d] }
  | _ => none }
def packOneRow : OpenClaim := { program := "ytebiogaacikphaa", sum := "26d114b9baa45577428f732996823aa83bed5cdbb91240019acdaa1748cee7fe", func := "dowel/dowellaw20.PackOne", spec := "packOne", inPlace := ["internal/bytealg.IndexByteString", "internal/bytealg.IndexString"], named := ["internal/bytealg.MaxLen"], plainKeys := false, apart := false }
def PackOneSaid : Prop := packOneRow.holds Try.pinned (OpenSpec.ofChange packOneSpec)

/-- ITS FALSE NEIGHBOUR: 'it returns false'. Refute it at one input. -/
def packOneWrong : ChangeSpec := { name := "packOne", fn := fun _ => fun
  | [d] => { results := [.lit (.bool false)], args := [d] }
  | _ => none }
def PackOneWrongFalsely : Prop := packOneRow.holds Try.pinned (OpenSpec.ofChange packOneWrong)

/-- 'dowellaw20.PackSpoilt': WHATEVER THE INPUT: true; the input reads as it did. -/
def packSpoiltSpec : ChangeSpec := { name := "packSpoilt", fn := fun _ => fun
  | [d1, d2, d3] => { results := [.lit (.bool true)], args := [d1, d2, d3] }
  | _ => none }
def packSpoiltRow : OpenClaim := { program := "ytebiogaacikphaa", sum := "26d114b9baa45577428f732996823aa83bed5cdbb91240019acdaa1748cee7fe", func := "dowel/dowellaw20.PackSpoilt", spec := "packSpoilt", inPlace := ["internal/bytealg.IndexByteString", "internal/bytealg.IndexString"], named := ["internal/bytealg.MaxLen"], plainKeys := false, apart := false }
def PackSpoiltSaid : Prop := packSpoiltRow.holds Try.pinned (OpenSpec.ofChange packSpoiltSpec)

/-- ITS FALSE NEIGHBOUR: 'it returns false'. Refute it at one input. -/
def packSpoiltWrong : ChangeSpec := { name := "packSpoilt", fn := fun _ => fun
  | [d1, d2, d3] => { results := [.lit (.bool false)], args := [d1, d2, d3] }
  | _ => none }
def PackSpoiltWrongFalsely : Prop := packSpoiltRow.holds Try.pinned (OpenSpec.ofChange packSpoiltWrong)

/-- 'dowellaw20.PackSmall': WHATEVER THE INPUT: true; the input reads as it did. -/
def packSmallSpec : ChangeSpec := { name := "packSmall", fn := fun _ => fun
  | [d] => { results := [.lit (.bool true)], args := [d] }
  | _ => none }
def packSmallRow : OpenClaim := { program := "ytebiogaacikphaa", sum := "26d114b9baa45577428f732996823aa83bed5cdbb91240019acdaa1748cee7fe", func := "dowel/dowellaw20.PackSmall", spec := "packSmall", inPlace := ["internal/bytealg.IndexByteString", "internal/bytealg.IndexString"], named := ["internal/bytealg.MaxLen"], plainKeys := false, apart := false }
def PackSmallSaid : Prop := packSmallRow.holds Try.pinned (OpenSpec.ofChange packSmallSpec)

/-- ITS FALSE NEIGHBOUR: 'it returns false'. Refute it at one input. -/
def packSmallWrong : ChangeSpec := { name := "packSmall", fn := fun _ => fun
  | [d] => { results := [.lit (.bool false)], args := [d] }
  | _ => none }
def PackSmallWrongFalsely : Prop := packSmallRow.holds Try.pinned (OpenSpec.ofChange packSmallWrong)

/-- 'dowellaw20.PackCuts': WHATEVER THE INPUT: true; the input reads as it did. -/
def packCutsSpec : ChangeSpec := { name := "packCuts", fn := fun _ => fun
  | [d1, d2] => { results := [.lit (.bool true)], args := [d1, d2] }
  | _ => none }
def packCutsRow : OpenClaim := { program := "ytebiogaacikphaa", sum := "26d114b9baa45577428f732996823aa83bed5cdbb91240019acdaa1748cee7fe", func := "dowel/dowellaw20.PackCuts", spec := "packCuts", inPlace := ["internal/bytealg.IndexByteString", "internal/bytealg.IndexString"], named := ["internal/bytealg.MaxLen"], plainKeys := false, apart := false }
def PackCutsSaid : Prop := packCutsRow.holds Try.pinned (OpenSpec.ofChange packCutsSpec)

/-- ITS FALSE NEIGHBOUR: 'it returns false'. Refute it at one input. -/
def packCutsWrong : ChangeSpec := { name := "packCuts", fn := fun _ => fun
  | [d1, d2] => { results := [.lit (.bool false)], args := [d1, d2] }
  | _ => none }
def PackCutsWrongFalsely : Prop := packCutsRow.holds Try.pinned (OpenSpec.ofChange packCutsWrong)

/- THE SECOND FORM. 'bulk': how many values and letters a reading holds, each counted each time it is reached (what is shared counts as often as it is met; a slice's spare places count too). A statement '..UptoSaid' is the law's where the arguments, and the package variables that the reading takes, are together of bulk at most 1048576: NARROWER than '..Said'. Prove '..Said' where nothing that the law and all that it calls make is longer than what came in: it says more and counts as full. Else prove '..UptoSaid'. A law counts once. -/
mutual
def uptoBulk {H : Type} : DataW H → Nat
  | .lit (.string bytes) => bytes.length + 1
  | .lit _ => 1
  | .nil => 1
  | .ptr d => uptoBulk d + 1
  | .slice elems spare => uptoBulkAll elems + uptoBulkAll spare + 1
  | .agg parts => uptoBulkAll parts + 1
  | .iface _ d => uptoBulk d + 1
  | .map entries => uptoBulkEntries entries + 1
  | .held _ => 1
def uptoBulkAll {H : Type} : List (DataW H) → Nat
  | [] => 0
  | d :: r => uptoBulk d + uptoBulkAll r
def uptoBulkEntries {H : Type} : List (Lit × DataW H) → Nat
  | [] => 0
  | x :: r => uptoBulkEntry x + uptoBulkEntries r
def uptoBulkEntry {H : Type} : Lit × DataW H → Nat
  | (.string bytes, d) => bytes.length + uptoBulk d + 1
  | (_, d) => uptoBulk d + 1
 end
def uptoSmall : (H : Type) → List (DataW H) → Bool := fun _ ds => decide (uptoBulkAll ds ≤ 1048576)
def OpenSpec.upto (s : _root_.Go.ChangeSpec) : _root_.Go.OpenSpec := { _root_.Go.OpenSpec.ofChange s with cond := some uptoSmall }

/-- 'dowellaw09.CoreParts', WHERE WHAT IT READS IS OF BULK AT MOST 1048576: true; the input reads as it did. -/
def corePartsUptoRow : OpenClaim := { program := "ytebiogaacikphaa", sum := "26d114b9baa45577428f732996823aa83bed5cdbb91240019acdaa1748cee7fe", func := "dowel/dowellaw09.CoreParts", spec := "coreParts", plainKeys := false, apart := false, narrowed := true }
def CorePartsUptoSaid : Prop := corePartsUptoRow.holds Try.pinned (OpenSpec.upto corePartsSpec)

/-- 'dowellaw09.CoreChecks', WHERE WHAT IT READS IS OF BULK AT MOST 1048576: true; the input reads as it did. -/
def coreChecksUptoRow : OpenClaim := { program := "ytebiogaacikphaa", sum := "26d114b9baa45577428f732996823aa83bed5cdbb91240019acdaa1748cee7fe", func := "dowel/dowellaw09.CoreChecks", spec := "coreChecks", inPlace := ["internal/bytealg.IndexByteString", "internal/bytealg.IndexString"], named := ["internal/bytealg.MaxLen"], plainKeys := false, apart := false, narrowed := true }
def CoreChecksUptoSaid : Prop := coreChecksUptoRow.holds Try.pinned (OpenSpec.upto coreChecksSpec)

/-- 'dowellaw20.PackDecodes', WHERE WHAT IT READS IS OF BULK AT MOST 1048576: true; the input reads as it did. -/
def packDecodesUptoRow : OpenClaim := { program := "ytebiogaacikphaa", sum := "26d114b9baa45577428f732996823aa83bed5cdbb91240019acdaa1748cee7fe", func := "dowel/dowellaw20.PackDecodes", spec := "packDecodes", plainKeys := false, apart := false, narrowed := true }
def PackDecodesUptoSaid : Prop := packDecodesUptoRow.holds Try.pinned (OpenSpec.upto packDecodesSpec)

/-- 'dowellaw20.PackForged', WHERE WHAT IT READS IS OF BULK AT MOST 1048576: true; the input reads as it did. -/
def packForgedUptoRow : OpenClaim := { program := "ytebiogaacikphaa", sum := "26d114b9baa45577428f732996823aa83bed5cdbb91240019acdaa1748cee7fe", func := "dowel/dowellaw20.PackForged", spec := "packForged", plainKeys := false, apart := false, narrowed := true }
def PackForgedUptoSaid : Prop := packForgedUptoRow.holds Try.pinned (OpenSpec.upto packForgedSpec)

/-- 'dowellaw09.CoreGrammars', WHERE WHAT IT READS IS OF BULK AT MOST 1048576: true; the input reads as it did. -/
def coreGrammarsUptoRow : OpenClaim := { program := "ytebiogaacikphaa", sum := "26d114b9baa45577428f732996823aa83bed5cdbb91240019acdaa1748cee7fe", func := "dowel/dowellaw09.CoreGrammars", spec := "coreGrammars", inPlace := ["internal/bytealg.IndexByteString", "internal/bytealg.IndexString"], named := ["internal/bytealg.MaxLen"], plainKeys := false, apart := false, narrowed := true }
def CoreGrammarsUptoSaid : Prop := coreGrammarsUptoRow.holds Try.pinned (OpenSpec.upto coreGrammarsSpec)

/-- 'dowellaw20.PackEncodes', WHERE WHAT IT READS IS OF BULK AT MOST 1048576: true; the input reads as it did. -/
def packEncodesUptoRow : OpenClaim := { program := "ytebiogaacikphaa", sum := "26d114b9baa45577428f732996823aa83bed5cdbb91240019acdaa1748cee7fe", func := "dowel/dowellaw20.PackEncodes", spec := "packEncodes", inPlace := ["internal/bytealg.IndexByteString", "internal/bytealg.IndexString"], named := ["internal/bytealg.MaxLen"], plainKeys := false, apart := false, narrowed := true }
def PackEncodesUptoSaid : Prop := packEncodesUptoRow.holds Try.pinned (OpenSpec.upto packEncodesSpec)

/-- 'dowellaw20.PackBack', WHERE WHAT IT READS IS OF BULK AT MOST 1048576: true; the input reads as it did. -/
def packBackUptoRow : OpenClaim := { program := "ytebiogaacikphaa", sum := "26d114b9baa45577428f732996823aa83bed5cdbb91240019acdaa1748cee7fe", func := "dowel/dowellaw20.PackBack", spec := "packBack", inPlace := ["internal/bytealg.IndexByteString", "internal/bytealg.IndexString"], named := ["internal/bytealg.MaxLen"], plainKeys := false, apart := false, narrowed := true }
def PackBackUptoSaid : Prop := packBackUptoRow.holds Try.pinned (OpenSpec.upto packBackSpec)

/-- 'dowellaw20.PackOne', WHERE WHAT IT READS IS OF BULK AT MOST 1048576: true; the input reads as it did. -/
def packOneUptoRow : OpenClaim := { program := "ytebiogaacikphaa", sum := "26d114b9baa45577428f732996823aa83bed5cdbb91240019acdaa1748cee7fe", func := "dowel/dowellaw20.PackOne", spec := "packOne", inPlace := ["internal/bytealg.IndexByteString", "internal/bytealg.IndexString"], named := ["internal/bytealg.MaxLen"], plainKeys := false, apart := false, narrowed := true }
def PackOneUptoSaid : Prop := packOneUptoRow.holds Try.pinned (OpenSpec.upto packOneSpec)

/-- 'dowellaw20.PackSpoilt', WHERE WHAT IT READS IS OF BULK AT MOST 1048576: true; the input reads as it did. -/
def packSpoiltUptoRow : OpenClaim := { program := "ytebiogaacikphaa", sum := "26d114b9baa45577428f732996823aa83bed5cdbb91240019acdaa1748cee7fe", func := "dowel/dowellaw20.PackSpoilt", spec := "packSpoilt", inPlace := ["internal/bytealg.IndexByteString", "internal/bytealg.IndexString"], named := ["internal/bytealg.MaxLen"], plainKeys := false, apart := false, narrowed := true }
def PackSpoiltUptoSaid : Prop := packSpoiltUptoRow.holds Try.pinned (OpenSpec.upto packSpoiltSpec)

/-- 'dowellaw20.PackSmall', WHERE WHAT IT READS IS OF BULK AT MOST 1048576: true; the input reads as it did. -/
def packSmallUptoRow : OpenClaim := { program := "ytebiogaacikphaa", sum := "26d114b9baa45577428f732996823aa83bed5cdbb91240019acdaa1748cee7fe", func := "dowel/dowellaw20.PackSmall", spec := "packSmall", inPlace := ["internal/bytealg.IndexByteString", "internal/bytealg.IndexString"], named := ["internal/bytealg.MaxLen"], plainKeys := false, apart := false, narrowed := true }
def PackSmallUptoSaid : Prop := packSmallUptoRow.holds Try.pinned (OpenSpec.upto packSmallSpec)

/-- 'dowellaw20.PackCuts', WHERE WHAT IT READS IS OF BULK AT MOST 1048576: true; the input reads as it did. -/
def packCutsUptoRow : OpenClaim := { program := "ytebiogaacikphaa", sum := "26d114b9baa45577428f732996823aa83bed5cdbb91240019acdaa1748cee7fe", func := "dowel/dowellaw20.PackCuts", spec := "packCuts", inPlace := ["internal/bytealg.IndexByteString", "internal/bytealg.IndexString"], named := ["internal/bytealg.MaxLen"], plainKeys := false, apart := false, narrowed := true }
def PackCutsUptoSaid : Prop := packCutsUptoRow.holds Try.pinned (OpenSpec.upto packCutsSpec)

end Rows
end Go.Proofs.Ytebiogaacikphaa
