/-
  No cell of these rows narrows 'for every input' (looked for: loops, veiled, ifaces, maps, wideKeys, modest, calm, conditions, laid).
  DERIVED. THE GIVEN ROWS OF THIS SEAT. 8 by the template 'for every input the law returns true; each argument reads behind the call as it read before'; 0 by the template 'total and deterministic' (their statements: YtehbkplbemcolaaTotals.lean).
  GIVEN WITH THE SEED: the statements are not yours to turn. If you find one false, say at which input.
  Laid BY PROGRAM, IN A SANDBOX (cutbox-rows.mjs): the forced cells as the released guide's own fill.sh prints them over the translation c463605be9b0a6bc… (all of the seat's roots in one cut). By AI agents, Wed Nov 11 2026. No macro, syntax, notation, axiom, sorry.
-/
import Derived.Test.YtehbkplbemcolaaChecked
import GoSem.Claim
import GoSem.ClaimJoined
import GoSem.ClaimMapViews
import Derived.JoinedTies
import Derived.KernelRfl
namespace Go.Proofs.Ytehbkplbemcolaa
/- THE CELL 'sum', in the pinned program and in every row, IS THE sha256 OF THE DUMP (.gsa) THAT YtehbkplbemcolaaProg.lean LOADS. Nothing in Lean hashes anything: it is a label: what it is worth is what the hold of that sum in a sandbox is worth. -/
noncomputable def Try.pinned : Pinned := { name := "ytehbkplbemcolaa", sum := "c463605be9b0a6bc3b29dba05e2f3a8b67cec6475ce11ec4c36fbdabf2f24fd1", checked := Try.checked }
namespace Rows
def none {H : Type} : Left H := { results := [], args := [] }

/-- 'dowellaw09.CoreNames': WHATEVER THE INPUT: true; the input reads as it did. -/
def coreNamesSpec : ChangeSpec := { name := "coreNames", fn := fun _ => fun
  | [] => { results := [.lit (.bool true)], args := [] }
  | _ => none }
def coreNamesRow : OpenClaim := { program := "ytehbkplbemcolaa", sum := "c463605be9b0a6bc3b29dba05e2f3a8b67cec6475ce11ec4c36fbdabf2f24fd1", func := "dowel/dowellaw09.CoreNames", spec := "coreNames", apart := false }
def CoreNamesSaid : Prop := coreNamesRow.holds Try.pinned (OpenSpec.ofChange coreNamesSpec)

/-- ITS FALSE NEIGHBOUR: 'it returns false'. Refute it at one input. -/
def coreNamesWrong : ChangeSpec := { name := "coreNames", fn := fun _ => fun
  | [] => { results := [.lit (.bool false)], args := [] }
  | _ => none }
def CoreNamesWrongFalsely : Prop := coreNamesRow.holds Try.pinned (OpenSpec.ofChange coreNamesWrong)

/-- 'dowellaw27.CrowdNames': WHATEVER THE INPUT: true; the input reads as it did. -/
def crowdNamesSpec : ChangeSpec := { name := "crowdNames", fn := fun _ => fun
  | [] => { results := [.lit (.bool true)], args := [] }
  | _ => none }
def crowdNamesRow : OpenClaim := { program := "ytehbkplbemcolaa", sum := "c463605be9b0a6bc3b29dba05e2f3a8b67cec6475ce11ec4c36fbdabf2f24fd1", func := "dowel/dowellaw27.CrowdNames", spec := "crowdNames", apart := false }
def CrowdNamesSaid : Prop := crowdNamesRow.holds Try.pinned (OpenSpec.ofChange crowdNamesSpec)

/-- ITS FALSE NEIGHBOUR: 'it returns false'. Refute it at one input. -/
def crowdNamesWrong : ChangeSpec := { name := "crowdNames", fn := fun _ => fun
  | [] => { results := [.lit (.bool false)], args := [] }
  | _ => none }
def CrowdNamesWrongFalsely : Prop := crowdNamesRow.holds Try.pinned (OpenSpec.ofChange crowdNamesWrong)

/-- 'dowellaw11.SoundNames': WHATEVER THE INPUT: true; the input reads as it did. -/
def soundNamesSpec : ChangeSpec := { name := "soundNames", fn := fun _ => fun
  | [] => { results := [.lit (.bool true)], args := [] }
  | _ => none }
def soundNamesRow : OpenClaim := { program := "ytehbkplbemcolaa", sum := "c463605be9b0a6bc3b29dba05e2f3a8b67cec6475ce11ec4c36fbdabf2f24fd1", func := "dowel/dowellaw11.SoundNames", spec := "soundNames", apart := false }
def SoundNamesSaid : Prop := soundNamesRow.holds Try.pinned (OpenSpec.ofChange soundNamesSpec)

/-- ITS FALSE NEIGHBOUR: 'it returns false'. Refute it at one input. -/
def soundNamesWrong : ChangeSpec := { name := "soundNames", fn := fun _ => fun
  | [] => { results := [.lit (.bool false)], args := [] }
  | _ => none }
def SoundNamesWrongFalsely : Prop := soundNamesRow.holds Try.pinned (OpenSpec.ofChange soundNamesWrong)

/-- 'dowellaw17.GrowNames': WHATEVER THE INPUT: true; the input reads as it did. -/
def growNamesSpec : ChangeSpec := { name := "growNames", fn := fun _ => fun
  | [] => { results := [.lit (.bool true)], args := [] }
  | _ => none }
def growNamesRow : OpenClaim := { program := "ytehbkplbemcolaa", sum := "c463605be9b0a6bc3b29dba05e2f3a8b67cec6475ce11ec4c36fbdabf2f24fd1", func := "dowel/dowellaw17.GrowNames", spec := "growNames", apart := false }
def GrowNamesSaid : Prop := growNamesRow.holds Try.pinned (OpenSpec.ofChange growNamesSpec)

/-- ITS FALSE NEIGHBOUR: 'it returns false'. Refute it at one input. -/
def growNamesWrong : ChangeSpec := { name := "growNames", fn := fun _ => fun
  | [] => { results := [.lit (.bool false)], args := [] }
  | _ => none }
def GrowNamesWrongFalsely : Prop := growNamesRow.holds Try.pinned (OpenSpec.ofChange growNamesWrong)

/-- 'dowellaw18.TrimNames': WHATEVER THE INPUT: true; the input reads as it did. -/
def trimNamesSpec : ChangeSpec := { name := "trimNames", fn := fun _ => fun
  | [] => { results := [.lit (.bool true)], args := [] }
  | _ => none }
def trimNamesRow : OpenClaim := { program := "ytehbkplbemcolaa", sum := "c463605be9b0a6bc3b29dba05e2f3a8b67cec6475ce11ec4c36fbdabf2f24fd1", func := "dowel/dowellaw18.TrimNames", spec := "trimNames", apart := false }
def TrimNamesSaid : Prop := trimNamesRow.holds Try.pinned (OpenSpec.ofChange trimNamesSpec)

/-- ITS FALSE NEIGHBOUR: 'it returns false'. Refute it at one input. -/
def trimNamesWrong : ChangeSpec := { name := "trimNames", fn := fun _ => fun
  | [] => { results := [.lit (.bool false)], args := [] }
  | _ => none }
def TrimNamesWrongFalsely : Prop := trimNamesRow.holds Try.pinned (OpenSpec.ofChange trimNamesWrong)

/-- 'dowellaw16.MemoNames': WHATEVER THE INPUT: true; the input reads as it did. -/
def memoNamesSpec : ChangeSpec := { name := "memoNames", fn := fun _ => fun
  | [] => { results := [.lit (.bool true)], args := [] }
  | _ => none }
def memoNamesRow : OpenClaim := { program := "ytehbkplbemcolaa", sum := "c463605be9b0a6bc3b29dba05e2f3a8b67cec6475ce11ec4c36fbdabf2f24fd1", func := "dowel/dowellaw16.MemoNames", spec := "memoNames", apart := false }
def MemoNamesSaid : Prop := memoNamesRow.holds Try.pinned (OpenSpec.ofChange memoNamesSpec)

/-- ITS FALSE NEIGHBOUR: 'it returns false'. Refute it at one input. -/
def memoNamesWrong : ChangeSpec := { name := "memoNames", fn := fun _ => fun
  | [] => { results := [.lit (.bool false)], args := [] }
  | _ => none }
def MemoNamesWrongFalsely : Prop := memoNamesRow.holds Try.pinned (OpenSpec.ofChange memoNamesWrong)

/-- 'dowellaw23.ReviseNames': WHATEVER THE INPUT: true; the input reads as it did. -/
def reviseNamesSpec : ChangeSpec := { name := "reviseNames", fn := fun _ => fun
  | [] => { results := [.lit (.bool true)], args := [] }
  | _ => none }
def reviseNamesRow : OpenClaim := { program := "ytehbkplbemcolaa", sum := "c463605be9b0a6bc3b29dba05e2f3a8b67cec6475ce11ec4c36fbdabf2f24fd1", func := "dowel/dowellaw23.ReviseNames", spec := "reviseNames", apart := false }
def ReviseNamesSaid : Prop := reviseNamesRow.holds Try.pinned (OpenSpec.ofChange reviseNamesSpec)

/-- ITS FALSE NEIGHBOUR: 'it returns false'. Refute it at one input. -/
def reviseNamesWrong : ChangeSpec := { name := "reviseNames", fn := fun _ => fun
  | [] => { results := [.lit (.bool false)], args := [] }
  | _ => none }
def ReviseNamesWrongFalsely : Prop := reviseNamesRow.holds Try.pinned (OpenSpec.ofChange reviseNamesWrong)

/-- 'dowellaw20.PackNames': WHATEVER THE INPUT: true; the input reads as it did. -/
def packNamesSpec : ChangeSpec := { name := "packNames", fn := fun _ => fun
  | [] => { results := [.lit (.bool true)], args := [] }
  | _ => none }
def packNamesRow : OpenClaim := { program := "ytehbkplbemcolaa", sum := "c463605be9b0a6bc3b29dba05e2f3a8b67cec6475ce11ec4c36fbdabf2f24fd1", func := "dowel/dowellaw20.PackNames", spec := "packNames", apart := false }
def PackNamesSaid : Prop := packNamesRow.holds Try.pinned (OpenSpec.ofChange packNamesSpec)

/-- ITS FALSE NEIGHBOUR: 'it returns false'. Refute it at one input. -/
def packNamesWrong : ChangeSpec := { name := "packNames", fn := fun _ => fun
  | [] => { results := [.lit (.bool false)], args := [] }
  | _ => none }
def PackNamesWrongFalsely : Prop := packNamesRow.holds Try.pinned (OpenSpec.ofChange packNamesWrong)

/- THE SECOND FORM. 'bulk': how many values and letters a reading holds, each counted each time it is reached (what is shared counts as often as it is met; a slice's spare places count too). A statement '..UptoSaid' is the law's where the arguments, and the package variables that the reading takes, are together of bulk at most 1048576: NARROWER than '..Said'. Prove '..Said' where nothing that the law and all that it calls make is longer than what came in: it says more and counts as full. Else prove '..UptoSaid'. A law counts once. -/
mutual
def uptoBulk {H : Type} : DataW H → Nat
  | .lit (.string bytes) => bytes.length + 1
  | .lit _ => 1
  | .nil => 1
  | .ptr d => uptoBulk d + 1
  | .slice elems spare => uptoBulkAll elems + uptoBulkAll spare + 1
  | .agg parts => uptoBulkAll parts + 1
  | .iface _ d => uptoBulk d + 1
  | .map entries => uptoBulkEntries entries + 1
  | .held _ => 1
def uptoBulkAll {H : Type} : List (DataW H) → Nat
  | [] => 0
  | d :: r => uptoBulk d + uptoBulkAll r
def uptoBulkEntries {H : Type} : List (Lit × DataW H) → Nat
  | [] => 0
  | x :: r => uptoBulkEntry x + uptoBulkEntries r
def uptoBulkEntry {H : Type} : Lit × DataW H → Nat
  | (.string bytes, d) => bytes.length + uptoBulk d + 1
  | (_, d) => uptoBulk d + 1
 end
def uptoSmall : (H : Type) → List (DataW H) → Bool := fun _ ds => decide (uptoBulkAll ds ≤ 1048576)
def OpenSpec.upto (s : _root_.Go.ChangeSpec) : _root_.Go.OpenSpec := { _root_.Go.OpenSpec.ofChange s with cond := some uptoSmall }

/-- 'dowellaw09.CoreNames', WHERE WHAT IT READS IS OF BULK AT MOST 1048576: true; the input reads as it did. -/
def coreNamesUptoRow : OpenClaim := { program := "ytehbkplbemcolaa", sum := "c463605be9b0a6bc3b29dba05e2f3a8b67cec6475ce11ec4c36fbdabf2f24fd1", func := "dowel/dowellaw09.CoreNames", spec := "coreNames", apart := false, narrowed := true }
def CoreNamesUptoSaid : Prop := coreNamesUptoRow.holds Try.pinned (OpenSpec.upto coreNamesSpec)

/-- 'dowellaw27.CrowdNames', WHERE WHAT IT READS IS OF BULK AT MOST 1048576: true; the input reads as it did. -/
def crowdNamesUptoRow : OpenClaim := { program := "ytehbkplbemcolaa", sum := "c463605be9b0a6bc3b29dba05e2f3a8b67cec6475ce11ec4c36fbdabf2f24fd1", func := "dowel/dowellaw27.CrowdNames", spec := "crowdNames", apart := false, narrowed := true }
def CrowdNamesUptoSaid : Prop := crowdNamesUptoRow.holds Try.pinned (OpenSpec.upto crowdNamesSpec)

/-- 'dowellaw11.SoundNames', WHERE WHAT IT READS IS OF BULK AT MOST 1048576: true; the input reads as it did. -/
def soundNamesUptoRow : OpenClaim := { program := "ytehbkplbemcolaa", sum := "c463605be9b0a6bc3b29dba05e2f3a8b67cec6475ce11ec4c36fbdabf2f24fd1", func := "dowel/dowellaw11.SoundNames", spec := "soundNames", apart := false, narrowed := true }
def SoundNamesUptoSaid : Prop := soundNamesUptoRow.holds Try.pinned (OpenSpec.upto soundNamesSpec)

/-- 'dowellaw17.GrowNames', WHERE WHAT IT READS IS OF BULK AT MOST 1048576: true; the input reads as it did. -/
def growNamesUptoRow : OpenClaim := { program := "ytehbkplbemcolaa", sum := "c463605be9b0a6bc3b29dba05e2f3a8b67cec6475ce11ec4c36fbdabf2f24fd1", func := "dowel/dowellaw17.GrowNames", spec := "growNames", apart := false, narrowed := true }
def GrowNamesUptoSaid : Prop := growNamesUptoRow.holds Try.pinned (OpenSpec.upto growNamesSpec)

/-- 'dowellaw18.TrimNames', WHERE WHAT IT READS IS OF BULK AT MOST 1048576: true; the input reads as it did. -/
def trimNamesUptoRow : OpenClaim := { program := "ytehbkplbemcolaa", sum := "c463605be9b0a6bc3b29dba05e2f3a8b67cec6475ce11ec4c36fbdabf2f24fd1", func := "dowel/dowellaw18.TrimNames", spec := "trimNames", apart := false, narrowed := true }
def TrimNamesUptoSaid : Prop := trimNamesUptoRow.holds Try.pinned (OpenSpec.upto trimNamesSpec)

/-- 'dowellaw16.MemoNames', WHERE WHAT IT READS IS OF BULK AT MOST 1048576: true; the input reads as it did. -/
def memoNamesUptoRow : OpenClaim := { program := "ytehbkplbemcolaa", sum := "c463605be9b0a6bc3b29dba05e2f3a8b67cec6475ce11ec4c36fbdabf2f24fd1", func := "dowel/dowellaw16.MemoNames", spec := "memoNames", apart := false, narrowed := true }
def MemoNamesUptoSaid : Prop := memoNamesUptoRow.holds Try.pinned (OpenSpec.upto memoNamesSpec)

/-- 'dowellaw23.ReviseNames', WHERE WHAT IT READS IS OF BULK AT MOST 1048576: true; the input reads as it did. -/
def reviseNamesUptoRow : OpenClaim := { program := "ytehbkplbemcolaa", sum := "c463605be9b0a6bc3b29dba05e2f3a8b67cec6475ce11ec4c36fbdabf2f24fd1", func := "dowel/dowellaw23.ReviseNames", spec := "reviseNames", apart := false, narrowed := true }
def ReviseNamesUptoSaid : Prop := reviseNamesUptoRow.holds Try.pinned (OpenSpec.upto reviseNamesSpec)

/-- 'dowellaw20.PackNames', WHERE WHAT IT READS IS OF BULK AT MOST 1048576: true; the input reads as it did. -/
def packNamesUptoRow : OpenClaim := { program := "ytehbkplbemcolaa", sum := "c463605be9b0a6bc3b29dba05e2f3a8b67cec6475ce11ec4c36fbdabf2f24fd1", func := "dowel/dowellaw20.PackNames", spec := "packNames", apart := false, narrowed := true }
def PackNamesUptoSaid : Prop := packNamesUptoRow.holds Try.pinned (OpenSpec.upto packNamesSpec)

end Rows
end Go.Proofs.Ytehbkplbemcolaa
