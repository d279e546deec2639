/-
  NARROWER THAN 'FOR EVERY INPUT', by the rows' own cells (each row's printed sentence says how): CoreRight: laid · CoreLabels: laid · CoreOrder: laid · CoreBack: laid.
  DERIVED. THE GIVEN ROWS OF THIS SEAT. 4 by the template 'for every input the law returns true; each argument reads behind the call as it read before'; 0 by the template 'total and deterministic' (their statements: YtihiicjnjhideaaDoorTotals.lean).
  GIVEN WITH THE SEED: the statements are not yours to turn. If you find one false, say at which input.
  Laid BY PROGRAM, IN A SANDBOX (cutbox-rows.mjs): the forced cells as the released guide's own fill.sh prints them over the translation 45c70dd6ee309d6f… (all of the seat's roots in one cut). By AI agents, Wed Nov 11 2026. No macro, syntax, notation, axiom, sorry.
-/
import Derived.Test.YtihiicjnjhideaaDoorChecked
import GoSem.Claim
import GoSem.ClaimJoined
import GoSem.ClaimMapViews
import Derived.JoinedTies
import Derived.KernelRfl
namespace Go.Proofs.YtihiicjnjhideaaDoor
/- THE CELL 'sum', in the pinned program and in every row, IS THE sha256 OF THE DUMP (.gsa) THAT YtihiicjnjhideaaDoorProg.lean LOADS. Nothing in Lean hashes anything: it is a label: what it is worth is what the hold of that sum in a sandbox is worth. -/
noncomputable def Tryd.pinned : Pinned := { name := "ytihiicjnjhideaadoor", sum := "45c70dd6ee309d6f14a163c6a26245da345028b8f56147e7076827e3850400c6", checked := Tryd.checked }
namespace Rows
def none {H : Type} : Left H := { results := [], args := [] }

/- WHAT THE LISTED PACKAGE-LEVEL VARIABLES READ AS WHEN THE CALL BEGINS. Each datum BY PROGRAM (the guide's laid-datum.mjs) off the statement by which the dump's own 'gosem.cut.vars' lays the variable. In a bare row this is a premise. The card (YtihiicjnjhideaaDoorCards.lean) ties it to the program's text. -/
def laid_dowel_core_all {H : Type} : DataW H := .agg [.lit (.int .u64 18446744073709551615), .lit (.int .u64 18446744073709551615), .lit (.int .u64 18446744073709551615), .lit (.int .u64 18446744073709551615)]

/-- 'dowellaw09.CoreRight': WHATEVER THE INPUT: true; the input reads as it did. -/
def coreRightSpec : ChangeSpec := { name := "coreRight", fn := fun _ => fun
  | [d1, d2] => { results := [.lit (.bool true)], args := [d1, d2] }
  | _ => none }
def coreRightRow : OpenClaim := { program := "ytihiicjnjhideaadoor", sum := "45c70dd6ee309d6f14a163c6a26245da345028b8f56147e7076827e3850400c6", func := "dowel/dowellaw09.CoreRight", spec := "coreRight", inPlace := ["internal/bytealg.IndexByteString", "internal/bytealg.IndexString"], unfollowed := true, recurses := true, named := ["dowel/core.all", "internal/bytealg.MaxLen"], apart := false, laid := [("dowel/core.all", laid_dowel_core_all)] }
def CoreRightSaid : Prop := coreRightRow.holds Tryd.pinned (OpenSpec.ofChange coreRightSpec)

/-- ITS FALSE NEIGHBOUR: 'it returns false'. Refute it at one input. -/
def coreRightWrong : ChangeSpec := { name := "coreRight", fn := fun _ => fun
  | [d1, d2] => { results := [.lit (.bool false)], args := [d1, d2] }
  | _ => none }
def CoreRightWrongFalsely : Prop := coreRightRow.holds Tryd.pinned (OpenSpec.ofChange coreRightWrong)

/-- 'dowellaw09.CoreLabels': WHATEVER THE INPUT: true; the input reads as it did. -/
def coreLabelsSpec : ChangeSpec := { name := "coreLabels", fn := fun _ => fun
  | [d1, d2] => { results := [.lit (.bool true)], args := [d1, d2] }
  | _ => none }
def coreLabelsRow : OpenClaim := { program := "ytihiicjnjhideaadoor", sum := "45c70dd6ee309d6f14a163c6a26245da345028b8f56147e7076827e3850400c6", func := "dowel/dowellaw09.CoreLabels", spec := "coreLabels", inPlace := ["internal/bytealg.IndexByteString", "internal/bytealg.IndexString"], unfollowed := true, recurses := true, named := ["dowel/core.all", "internal/bytealg.MaxLen"], apart := false, laid := [("dowel/core.all", laid_dowel_core_all)] }
def CoreLabelsSaid : Prop := coreLabelsRow.holds Tryd.pinned (OpenSpec.ofChange coreLabelsSpec)

/-- ITS FALSE NEIGHBOUR: 'it returns false'. Refute it at one input. -/
def coreLabelsWrong : ChangeSpec := { name := "coreLabels", fn := fun _ => fun
  | [d1, d2] => { results := [.lit (.bool false)], args := [d1, d2] }
  | _ => none }
def CoreLabelsWrongFalsely : Prop := coreLabelsRow.holds Tryd.pinned (OpenSpec.ofChange coreLabelsWrong)

/-- 'dowellaw09.CoreOrder': WHATEVER THE INPUT: true; the input reads as it did. -/
def coreOrderSpec : ChangeSpec := { name := "coreOrder", fn := fun _ => fun
  | [d1, d2, d3] => { results := [.lit (.bool true)], args := [d1, d2, d3] }
  | _ => none }
def coreOrderRow : OpenClaim := { program := "ytihiicjnjhideaadoor", sum := "45c70dd6ee309d6f14a163c6a26245da345028b8f56147e7076827e3850400c6", func := "dowel/dowellaw09.CoreOrder", spec := "coreOrder", inPlace := ["internal/bytealg.IndexByteString", "internal/bytealg.IndexString"], unfollowed := true, recurses := true, named := ["dowel/core.all", "internal/bytealg.MaxLen"], apart := false, laid := [("dowel/core.all", laid_dowel_core_all)] }
def CoreOrderSaid : Prop := coreOrderRow.holds Tryd.pinned (OpenSpec.ofChange coreOrderSpec)

/-- ITS FALSE NEIGHBOUR: 'it returns false'. Refute it at one input. -/
def coreOrderWrong : ChangeSpec := { name := "coreOrder", fn := fun _ => fun
  | [d1, d2, d3] => { results := [.lit (.bool false)], args := [d1, d2, d3] }
  | _ => none }
def CoreOrderWrongFalsely : Prop := coreOrderRow.holds Tryd.pinned (OpenSpec.ofChange coreOrderWrong)

/-- 'dowellaw09.CoreBack': WHATEVER THE INPUT: true; the input reads as it did. -/
def coreBackSpec : ChangeSpec := { name := "coreBack", fn := fun _ => fun
  | [d1, d2, d3] => { results := [.lit (.bool true)], args := [d1, d2, d3] }
  | _ => none }
def coreBackRow : OpenClaim := { program := "ytihiicjnjhideaadoor", sum := "45c70dd6ee309d6f14a163c6a26245da345028b8f56147e7076827e3850400c6", func := "dowel/dowellaw09.CoreBack", spec := "coreBack", inPlace := ["internal/bytealg.IndexByteString", "internal/bytealg.IndexString"], unfollowed := true, recurses := true, named := ["dowel/core.all", "internal/bytealg.MaxLen"], apart := false, laid := [("dowel/core.all", laid_dowel_core_all)] }
def CoreBackSaid : Prop := coreBackRow.holds Tryd.pinned (OpenSpec.ofChange coreBackSpec)

/-- ITS FALSE NEIGHBOUR: 'it returns false'. Refute it at one input. -/
def coreBackWrong : ChangeSpec := { name := "coreBack", fn := fun _ => fun
  | [d1, d2, d3] => { results := [.lit (.bool false)], args := [d1, d2, d3] }
  | _ => none }
def CoreBackWrongFalsely : Prop := coreBackRow.holds Tryd.pinned (OpenSpec.ofChange coreBackWrong)

/- THE SECOND FORM. 'bulk': how many values and letters a reading holds, each counted each time it is reached (what is shared counts as often as it is met; a slice's spare places count too). A statement '..UptoSaid' is the law's where the arguments, and the package variables that the reading takes, are together of bulk at most 1048576: NARROWER than '..Said'. Prove '..Said' where nothing that the law and all that it calls make is longer than what came in: it says more and counts as full. Else prove '..UptoSaid'. A law counts once. -/
mutual
def uptoBulk {H : Type} : DataW H → Nat
  | .lit (.string bytes) => bytes.length + 1
  | .lit _ => 1
  | .nil => 1
  | .ptr d => uptoBulk d + 1
  | .slice elems spare => uptoBulkAll elems + uptoBulkAll spare + 1
  | .agg parts => uptoBulkAll parts + 1
  | .iface _ d => uptoBulk d + 1
  | .map entries => uptoBulkEntries entries + 1
  | .held _ => 1
def uptoBulkAll {H : Type} : List (DataW H) → Nat
  | [] => 0
  | d :: r => uptoBulk d + uptoBulkAll r
def uptoBulkEntries {H : Type} : List (Lit × DataW H) → Nat
  | [] => 0
  | x :: r => uptoBulkEntry x + uptoBulkEntries r
def uptoBulkEntry {H : Type} : Lit × DataW H → Nat
  | (.string bytes, d) => bytes.length + uptoBulk d + 1
  | (_, d) => uptoBulk d + 1
 end
def uptoSmall : (H : Type) → List (DataW H) → Bool := fun _ ds => decide (uptoBulkAll ds ≤ 1048576)
def OpenSpec.upto (s : _root_.Go.ChangeSpec) : _root_.Go.OpenSpec := { _root_.Go.OpenSpec.ofChange s with cond := some uptoSmall }

/-- 'dowellaw09.CoreRight', WHERE WHAT IT READS IS OF BULK AT MOST 1048576: true; the input reads as it did. -/
def coreRightUptoRow : OpenClaim := { program := "ytihiicjnjhideaadoor", sum := "45c70dd6ee309d6f14a163c6a26245da345028b8f56147e7076827e3850400c6", func := "dowel/dowellaw09.CoreRight", spec := "coreRight", inPlace := ["internal/bytealg.IndexByteString", "internal/bytealg.IndexString"], unfollowed := true, recurses := true, named := ["dowel/core.all", "internal/bytealg.MaxLen"], apart := false, laid := [("dowel/core.all", laid_dowel_core_all)], narrowed := true }
def CoreRightUptoSaid : Prop := coreRightUptoRow.holds Tryd.pinned (OpenSpec.upto coreRightSpec)

/-- 'dowellaw09.CoreLabels', WHERE WHAT IT READS IS OF BULK AT MOST 1048576: true; the input reads as it did. -/
def coreLabelsUptoRow : OpenClaim := { program := "ytihiicjnjhideaadoor", sum := "45c70dd6ee309d6f14a163c6a26245da345028b8f56147e7076827e3850400c6", func := "dowel/dowellaw09.CoreLabels", spec := "coreLabels", inPlace := ["internal/bytealg.IndexByteString", "internal/bytealg.IndexString"], unfollowed := true, recurses := true, named := ["dowel/core.all", "internal/bytealg.MaxLen"], apart := false, laid := [("dowel/core.all", laid_dowel_core_all)], narrowed := true }
def CoreLabelsUptoSaid : Prop := coreLabelsUptoRow.holds Tryd.pinned (OpenSpec.upto coreLabelsSpec)

/-- 'dowellaw09.CoreOrder', WHERE WHAT IT READS IS OF BULK AT MOST 1048576: true; the input reads as it did. -/
def coreOrderUptoRow : OpenClaim := { program := "ytihiicjnjhideaadoor", sum := "45c70dd6ee309d6f14a163c6a26245da345028b8f56147e7076827e3850400c6", func := "dowel/dowellaw09.CoreOrder", spec := "coreOrder", inPlace := ["internal/bytealg.IndexByteString", "internal/bytealg.IndexString"], unfollowed := true, recurses := true, named := ["dowel/core.all", "internal/bytealg.MaxLen"], apart := false, laid := [("dowel/core.all", laid_dowel_core_all)], narrowed := true }
def CoreOrderUptoSaid : Prop := coreOrderUptoRow.holds Tryd.pinned (OpenSpec.upto coreOrderSpec)

/-- 'dowellaw09.CoreBack', WHERE WHAT IT READS IS OF BULK AT MOST 1048576: true; the input reads as it did. -/
def coreBackUptoRow : OpenClaim := { program := "ytihiicjnjhideaadoor", sum := "45c70dd6ee309d6f14a163c6a26245da345028b8f56147e7076827e3850400c6", func := "dowel/dowellaw09.CoreBack", spec := "coreBack", inPlace := ["internal/bytealg.IndexByteString", "internal/bytealg.IndexString"], unfollowed := true, recurses := true, named := ["dowel/core.all", "internal/bytealg.MaxLen"], apart := false, laid := [("dowel/core.all", laid_dowel_core_all)], narrowed := true }
def CoreBackUptoSaid : Prop := coreBackUptoRow.holds Tryd.pinned (OpenSpec.upto coreBackSpec)

end Rows
end Go.Proofs.YtihiicjnjhideaaDoor
