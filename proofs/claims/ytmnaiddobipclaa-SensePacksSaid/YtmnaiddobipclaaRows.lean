/-
  No cell of these rows narrows 'for every input' (looked for: loops, veiled, ifaces, maps, wideKeys, modest, calm, conditions, laid).
  DERIVED. THE GIVEN ROWS OF THIS SEAT. 10 by the template 'for every input the law returns true; each argument reads behind the call as it read before'; 0 by the template 'total and deterministic' (their statements: YtmnaiddobipclaaTotals.lean).
  GIVEN WITH THE SEED: the statements are not yours to turn. If you find one false, say at which input.
  Laid BY PROGRAM, IN A SANDBOX (cutbox-rows.mjs): the forced cells as the released guide's own fill.sh prints them over the translation 894518b836299396… (all of the seat's roots in one cut). By AI agents, Wed Nov 11 2026. No macro, syntax, notation, axiom, sorry.
-/
import Derived.Test.YtmnaiddobipclaaChecked
import GoSem.Claim
import GoSem.ClaimJoined
import GoSem.ClaimMapViews
import Derived.JoinedTies
import Derived.KernelRfl
namespace Go.Proofs.Ytmnaiddobipclaa
/- THE CELL 'sum', in the pinned program and in every row, IS THE sha256 OF THE DUMP (.gsa) THAT YtmnaiddobipclaaProg.lean LOADS. Nothing in Lean hashes anything: it is a label: what it is worth is what the hold of that sum in a sandbox is worth. -/
noncomputable def Try.pinned : Pinned := { name := "ytmnaiddobipclaa", sum := "894518b83629939674c50df6ba726f60692aabd61c7a61ca893836bc5cf50b86", checked := Try.checked }
namespace Rows
def none {H : Type} : Left H := { results := [], args := [] }

/-- 'ganglionlaw12.SenseSees': WHATEVER THE INPUT: true; the input reads as it did. -/
def senseSeesSpec : ChangeSpec := { name := "senseSees", fn := fun _ => fun
  | [d1, d2, d3, d4, d5, d6] => { results := [.lit (.bool true)], args := [d1, d2, d3, d4, d5, d6] }
  | _ => none }
def senseSeesRow : OpenClaim := { program := "ytmnaiddobipclaa", sum := "894518b83629939674c50df6ba726f60692aabd61c7a61ca893836bc5cf50b86", func := "ganglion/ganglionlaw12.SenseSees", spec := "senseSees", unfollowed := true, recurses := true, plainKeys := false, apart := false }
def SenseSeesSaid : Prop := senseSeesRow.holds Try.pinned (OpenSpec.ofChange senseSeesSpec)

/-- ITS FALSE NEIGHBOUR: 'it returns false'. Refute it at one input. -/
def senseSeesWrong : ChangeSpec := { name := "senseSees", fn := fun _ => fun
  | [d1, d2, d3, d4, d5, d6] => { results := [.lit (.bool false)], args := [d1, d2, d3, d4, d5, d6] }
  | _ => none }
def SenseSeesWrongFalsely : Prop := senseSeesRow.holds Try.pinned (OpenSpec.ofChange senseSeesWrong)

/-- 'ganglionlaw12.SenseFeels': WHATEVER THE INPUT: true; the input reads as it did. -/
def senseFeelsSpec : ChangeSpec := { name := "senseFeels", fn := fun _ => fun
  | [d1, d2, d3, d4] => { results := [.lit (.bool true)], args := [d1, d2, d3, d4] }
  | _ => none }
def senseFeelsRow : OpenClaim := { program := "ytmnaiddobipclaa", sum := "894518b83629939674c50df6ba726f60692aabd61c7a61ca893836bc5cf50b86", func := "ganglion/ganglionlaw12.SenseFeels", spec := "senseFeels", unfollowed := true, recurses := true, plainKeys := false, apart := false }
def SenseFeelsSaid : Prop := senseFeelsRow.holds Try.pinned (OpenSpec.ofChange senseFeelsSpec)

/-- ITS FALSE NEIGHBOUR: 'it returns false'. Refute it at one input. -/
def senseFeelsWrong : ChangeSpec := { name := "senseFeels", fn := fun _ => fun
  | [d1, d2, d3, d4] => { results := [.lit (.bool false)], args := [d1, d2, d3, d4] }
  | _ => none }
def SenseFeelsWrongFalsely : Prop := senseFeelsRow.holds Try.pinned (OpenSpec.ofChange senseFeelsWrong)

/-- 'ganglionlaw12.SensePacks': WHATEVER THE INPUT: true; the input reads as it did. -/
def sensePacksSpec : ChangeSpec := { name := "sensePacks", fn := fun _ => fun
  | [d1, d2, d3, d4, d5] => { results := [.lit (.bool true)], args := [d1, d2, d3, d4, d5] }
  | _ => none }
def sensePacksRow : OpenClaim := { program := "ytmnaiddobipclaa", sum := "894518b83629939674c50df6ba726f60692aabd61c7a61ca893836bc5cf50b86", func := "ganglion/ganglionlaw12.SensePacks", spec := "sensePacks", unfollowed := true, recurses := true, plainKeys := false, apart := false }
def SensePacksSaid : Prop := sensePacksRow.holds Try.pinned (OpenSpec.ofChange sensePacksSpec)

/-- ITS FALSE NEIGHBOUR: 'it returns false'. Refute it at one input. -/
def sensePacksWrong : ChangeSpec := { name := "sensePacks", fn := fun _ => fun
  | [d1, d2, d3, d4, d5] => { results := [.lit (.bool false)], args := [d1, d2, d3, d4, d5] }
  | _ => none }
def SensePacksWrongFalsely : Prop := sensePacksRow.holds Try.pinned (OpenSpec.ofChange sensePacksWrong)

/-- 'ganglionlaw12.SenseLevels': WHATEVER THE INPUT: true; the input reads as it did. -/
def senseLevelsSpec : ChangeSpec := { name := "senseLevels", fn := fun _ => fun
  | [d1, d2, d3, d4, d5, d6] => { results := [.lit (.bool true)], args := [d1, d2, d3, d4, d5, d6] }
  | _ => none }
def senseLevelsRow : OpenClaim := { program := "ytmnaiddobipclaa", sum := "894518b83629939674c50df6ba726f60692aabd61c7a61ca893836bc5cf50b86", func := "ganglion/ganglionlaw12.SenseLevels", spec := "senseLevels", unfollowed := true, recurses := true, plainKeys := false, apart := false }
def SenseLevelsSaid : Prop := senseLevelsRow.holds Try.pinned (OpenSpec.ofChange senseLevelsSpec)

/-- ITS FALSE NEIGHBOUR: 'it returns false'. Refute it at one input. -/
def senseLevelsWrong : ChangeSpec := { name := "senseLevels", fn := fun _ => fun
  | [d1, d2, d3, d4, d5, d6] => { results := [.lit (.bool false)], args := [d1, d2, d3, d4, d5, d6] }
  | _ => none }
def SenseLevelsWrongFalsely : Prop := senseLevelsRow.holds Try.pinned (OpenSpec.ofChange senseLevelsWrong)

/-- 'ganglionlaw12.SenseAlone': WHATEVER THE INPUT: true; the input reads as it did. -/
def senseAloneSpec : ChangeSpec := { name := "senseAlone", fn := fun _ => fun
  | [d1, d2, d3, d4, d5] => { results := [.lit (.bool true)], args := [d1, d2, d3, d4, d5] }
  | _ => none }
def senseAloneRow : OpenClaim := { program := "ytmnaiddobipclaa", sum := "894518b83629939674c50df6ba726f60692aabd61c7a61ca893836bc5cf50b86", func := "ganglion/ganglionlaw12.SenseAlone", spec := "senseAlone", unfollowed := true, recurses := true, plainKeys := false, apart := false }
def SenseAloneSaid : Prop := senseAloneRow.holds Try.pinned (OpenSpec.ofChange senseAloneSpec)

/-- ITS FALSE NEIGHBOUR: 'it returns false'. Refute it at one input. -/
def senseAloneWrong : ChangeSpec := { name := "senseAlone", fn := fun _ => fun
  | [d1, d2, d3, d4, d5] => { results := [.lit (.bool false)], args := [d1, d2, d3, d4, d5] }
  | _ => none }
def SenseAloneWrongFalsely : Prop := senseAloneRow.holds Try.pinned (OpenSpec.ofChange senseAloneWrong)

/-- 'ganglionlaw12.SenseCauses': WHATEVER THE INPUT: true; the input reads as it did. -/
def senseCausesSpec : ChangeSpec := { name := "senseCauses", fn := fun _ => fun
  | [d1, d2, d3, d4, d5, d6] => { results := [.lit (.bool true)], args := [d1, d2, d3, d4, d5, d6] }
  | _ => none }
def senseCausesRow : OpenClaim := { program := "ytmnaiddobipclaa", sum := "894518b83629939674c50df6ba726f60692aabd61c7a61ca893836bc5cf50b86", func := "ganglion/ganglionlaw12.SenseCauses", spec := "senseCauses", unfollowed := true, recurses := true, plainKeys := false, apart := false }
def SenseCausesSaid : Prop := senseCausesRow.holds Try.pinned (OpenSpec.ofChange senseCausesSpec)

/-- ITS FALSE NEIGHBOUR: 'it returns false'. Refute it at one input. -/
def senseCausesWrong : ChangeSpec := { name := "senseCauses", fn := fun _ => fun
  | [d1, d2, d3, d4, d5, d6] => { results := [.lit (.bool false)], args := [d1, d2, d3, d4, d5, d6] }
  | _ => none }
def SenseCausesWrongFalsely : Prop := senseCausesRow.holds Try.pinned (OpenSpec.ofChange senseCausesWrong)

/-- 'ganglionlaw12.SensePacked': WHATEVER THE INPUT: true; the input reads as it did. -/
def sensePackedSpec : ChangeSpec := { name := "sensePacked", fn := fun _ => fun
  | [d1, d2, d3, d4] => { results := [.lit (.bool true)], args := [d1, d2, d3, d4] }
  | _ => none }
def sensePackedRow : OpenClaim := { program := "ytmnaiddobipclaa", sum := "894518b83629939674c50df6ba726f60692aabd61c7a61ca893836bc5cf50b86", func := "ganglion/ganglionlaw12.SensePacked", spec := "sensePacked", unfollowed := true, recurses := true, plainKeys := false, apart := false }
def SensePackedSaid : Prop := sensePackedRow.holds Try.pinned (OpenSpec.ofChange sensePackedSpec)

/-- ITS FALSE NEIGHBOUR: 'it returns false'. Refute it at one input. -/
def sensePackedWrong : ChangeSpec := { name := "sensePacked", fn := fun _ => fun
  | [d1, d2, d3, d4] => { results := [.lit (.bool false)], args := [d1, d2, d3, d4] }
  | _ => none }
def SensePackedWrongFalsely : Prop := sensePackedRow.holds Try.pinned (OpenSpec.ofChange sensePackedWrong)

/-- 'ganglionlaw12.SenseParts': WHATEVER THE INPUT: true; the input reads as it did. -/
def sensePartsSpec : ChangeSpec := { name := "senseParts", fn := fun _ => fun
  | [d1, d2, d3, d4] => { results := [.lit (.bool true)], args := [d1, d2, d3, d4] }
  | _ => none }
def sensePartsRow : OpenClaim := { program := "ytmnaiddobipclaa", sum := "894518b83629939674c50df6ba726f60692aabd61c7a61ca893836bc5cf50b86", func := "ganglion/ganglionlaw12.SenseParts", spec := "senseParts", unfollowed := true, recurses := true, plainKeys := false, apart := false }
def SensePartsSaid : Prop := sensePartsRow.holds Try.pinned (OpenSpec.ofChange sensePartsSpec)

/-- ITS FALSE NEIGHBOUR: 'it returns false'. Refute it at one input. -/
def sensePartsWrong : ChangeSpec := { name := "senseParts", fn := fun _ => fun
  | [d1, d2, d3, d4] => { results := [.lit (.bool false)], args := [d1, d2, d3, d4] }
  | _ => none }
def SensePartsWrongFalsely : Prop := sensePartsRow.holds Try.pinned (OpenSpec.ofChange sensePartsWrong)

/-- 'ganglionlaw12.SenseRecords': WHATEVER THE INPUT: true; the input reads as it did. -/
def senseRecordsSpec : ChangeSpec := { name := "senseRecords", fn := fun _ => fun
  | [d] => { results := [.lit (.bool true)], args := [d] }
  | _ => none }
def senseRecordsRow : OpenClaim := { program := "ytmnaiddobipclaa", sum := "894518b83629939674c50df6ba726f60692aabd61c7a61ca893836bc5cf50b86", func := "ganglion/ganglionlaw12.SenseRecords", spec := "senseRecords", unfollowed := true, recurses := true, plainKeys := false, apart := false }
def SenseRecordsSaid : Prop := senseRecordsRow.holds Try.pinned (OpenSpec.ofChange senseRecordsSpec)

/-- ITS FALSE NEIGHBOUR: 'it returns false'. Refute it at one input. -/
def senseRecordsWrong : ChangeSpec := { name := "senseRecords", fn := fun _ => fun
  | [d] => { results := [.lit (.bool false)], args := [d] }
  | _ => none }
def SenseRecordsWrongFalsely : Prop := senseRecordsRow.holds Try.pinned (OpenSpec.ofChange senseRecordsWrong)

/-- 'ganglionlaw12.SenseNil': WHATEVER THE INPUT: true; the input reads as it did. -/
def senseNilSpec : ChangeSpec := { name := "senseNil", fn := fun _ => fun
  | [d] => { results := [.lit (.bool true)], args := [d] }
  | _ => none }
def senseNilRow : OpenClaim := { program := "ytmnaiddobipclaa", sum := "894518b83629939674c50df6ba726f60692aabd61c7a61ca893836bc5cf50b86", func := "ganglion/ganglionlaw12.SenseNil", spec := "senseNil", unfollowed := true, recurses := true, plainKeys := false, apart := false }
def SenseNilSaid : Prop := senseNilRow.holds Try.pinned (OpenSpec.ofChange senseNilSpec)

/-- ITS FALSE NEIGHBOUR: 'it returns false'. Refute it at one input. -/
def senseNilWrong : ChangeSpec := { name := "senseNil", fn := fun _ => fun
  | [d] => { results := [.lit (.bool false)], args := [d] }
  | _ => none }
def SenseNilWrongFalsely : Prop := senseNilRow.holds Try.pinned (OpenSpec.ofChange senseNilWrong)

/- THE SECOND FORM. 'bulk': how many values and letters a reading holds, each counted each time it is reached (what is shared counts as often as it is met; a slice's spare places count too). A statement '..UptoSaid' is the law's where the arguments, and the package variables that the reading takes, are together of bulk at most 1048576: NARROWER than '..Said'. Prove '..Said' where nothing that the law and all that it calls make is longer than what came in: it says more and counts as full. Else prove '..UptoSaid'. A law counts once. -/
mutual
def uptoBulk {H : Type} : DataW H → Nat
  | .lit (.string bytes) => bytes.length + 1
  | .lit _ => 1
  | .nil => 1
  | .ptr d => uptoBulk d + 1
  | .slice elems spare => uptoBulkAll elems + uptoBulkAll spare + 1
  | .agg parts => uptoBulkAll parts + 1
  | .iface _ d => uptoBulk d + 1
  | .map entries => uptoBulkEntries entries + 1
  | .held _ => 1
def uptoBulkAll {H : Type} : List (DataW H) → Nat
  | [] => 0
  | d :: r => uptoBulk d + uptoBulkAll r
def uptoBulkEntries {H : Type} : List (Lit × DataW H) → Nat
  | [] => 0
  | x :: r => uptoBulkEntry x + uptoBulkEntries r
def uptoBulkEntry {H : Type} : Lit × DataW H → Nat
  | (.string bytes, d) => bytes.length + uptoBulk d + 1
  | (_, d) => uptoBulk d + 1
 end
def uptoSmall : (H : Type) → List (DataW H) → Bool := fun _ ds => decide (uptoBulkAll ds ≤ 1048576)
def OpenSpec.upto (s : _root_.Go.ChangeSpec) : _root_.Go.OpenSpec := { _root_.Go.OpenSpec.ofChange s with cond := some uptoSmall }

/-- 'ganglionlaw12.SenseSees', WHERE WHAT IT READS IS OF BULK AT MOST 1048576: true; the input reads as it did. -/
def senseSeesUptoRow : OpenClaim := { program := "ytmnaiddobipclaa", sum := "894518b83629939674c50df6ba726f60692aabd61c7a61ca893836bc5cf50b86", func := "ganglion/ganglionlaw12.SenseSees", spec := "senseSees", unfollowed := true, recurses := true, plainKeys := false, apart := false, narrowed := true }
def SenseSeesUptoSaid : Prop := senseSeesUptoRow.holds Try.pinned (OpenSpec.upto senseSeesSpec)

/-- 'ganglionlaw12.SenseFeels', WHERE WHAT IT READS IS OF BULK AT MOST 1048576: true; the input reads as it did. -/
def senseFeelsUptoRow : OpenClaim := { program := "ytmnaiddobipclaa", sum := "894518b83629939674c50df6ba726f60692aabd61c7a61ca893836bc5cf50b86", func := "ganglion/ganglionlaw12.SenseFeels", spec := "senseFeels", unfollowed := true, recurses := true, plainKeys := false, apart := false, narrowed := true }
def SenseFeelsUptoSaid : Prop := senseFeelsUptoRow.holds Try.pinned (OpenSpec.upto senseFeelsSpec)

/-- 'ganglionlaw12.SensePacks', WHERE WHAT IT READS IS OF BULK AT MOST 1048576: true; the input reads as it did. -/
def sensePacksUptoRow : OpenClaim := { program := "ytmnaiddobipclaa", sum := "894518b83629939674c50df6ba726f60692aabd61c7a61ca893836bc5cf50b86", func := "ganglion/ganglionlaw12.SensePacks", spec := "sensePacks", unfollowed := true, recurses := true, plainKeys := false, apart := false, narrowed := true }
def SensePacksUptoSaid : Prop := sensePacksUptoRow.holds Try.pinned (OpenSpec.upto sensePacksSpec)

/-- 'ganglionlaw12.SenseLevels', WHERE WHAT IT READS IS OF BULK AT MOST 1048576: true; the input reads as it did. -/
def senseLevelsUptoRow : OpenClaim := { program := "ytmnaiddobipclaa", sum := "894518b83629939674c50df6ba726f60692aabd61c7a61ca893836bc5cf50b86", func := "ganglion/ganglionlaw12.SenseLevels", spec := "senseLevels", unfollowed := true, recurses := true, plainKeys := false, apart := false, narrowed := true }
def SenseLevelsUptoSaid : Prop := senseLevelsUptoRow.holds Try.pinned (OpenSpec.upto senseLevelsSpec)

/-- 'ganglionlaw12.SenseAlone', WHERE WHAT IT READS IS OF BULK AT MOST 1048576: true; the input reads as it did. -/
def senseAloneUptoRow : OpenClaim := { program := "ytmnaiddobipclaa", sum := "894518b83629939674c50df6ba726f60692aabd61c7a61ca893836bc5cf50b86", func := "ganglion/ganglionlaw12.SenseAlone", spec := "senseAlone", unfollowed := true, recurses := true, plainKeys := false, apart := false, narrowed := true }
def SenseAloneUptoSaid : Prop := senseAloneUptoRow.holds Try.pinned (OpenSpec.upto senseAloneSpec)

/-- 'ganglionlaw12.SenseCauses', WHERE WHAT IT READS IS OF BULK AT MOST 1048576: true; the input reads as it did. -/
def senseCausesUptoRow : OpenClaim := { program := "ytmnaiddobipclaa", sum := "894518b83629939674c50df6ba726f60692aabd61c7a61ca893836bc5cf50b86", func := "ganglion/ganglionlaw12.SenseCauses", spec := "senseCauses", unfollowed := true, recurses := true, plainKeys := false, apart := false, narrowed := true }
def SenseCausesUptoSaid : Prop := senseCausesUptoRow.holds Try.pinned (OpenSpec.upto senseCausesSpec)

/-- 'ganglionlaw12.SensePacked', WHERE WHAT IT READS IS OF BULK AT MOST 1048576: true; the input reads as it did. -/
def sensePackedUptoRow : OpenClaim := { program := "ytmnaiddobipclaa", sum := "894518b83629939674c50df6ba726f60692aabd61c7a61ca893836bc5cf50b86", func := "ganglion/ganglionlaw12.SensePacked", spec := "sensePacked", unfollowed := true, recurses := true, plainKeys := false, apart := false, narrowed := true }
def SensePackedUptoSaid : Prop := sensePackedUptoRow.holds Try.pinned (OpenSpec.upto sensePackedSpec)

/-- 'ganglionlaw12.SenseParts', WHERE WHAT IT READS IS OF BULK AT MOST 1048576: true; the input reads as it did. -/
def sensePartsUptoRow : OpenClaim := { program := "ytmnaiddobipclaa", sum := "894518b83629939674c50df6ba726f60692aabd61c7a61ca893836bc5cf50b86", func := "ganglion/ganglionlaw12.SenseParts", spec := "senseParts", unfollowed := true, recurses := true, plainKeys := false, apart := false, narrowed := true }
def SensePartsUptoSaid : Prop := sensePartsUptoRow.holds Try.pinned (OpenSpec.upto sensePartsSpec)

/-- 'ganglionlaw12.SenseRecords', WHERE WHAT IT READS IS OF BULK AT MOST 1048576: true; the input reads as it did. -/
def senseRecordsUptoRow : OpenClaim := { program := "ytmnaiddobipclaa", sum := "894518b83629939674c50df6ba726f60692aabd61c7a61ca893836bc5cf50b86", func := "ganglion/ganglionlaw12.SenseRecords", spec := "senseRecords", unfollowed := true, recurses := true, plainKeys := false, apart := false, narrowed := true }
def SenseRecordsUptoSaid : Prop := senseRecordsUptoRow.holds Try.pinned (OpenSpec.upto senseRecordsSpec)

/-- 'ganglionlaw12.SenseNil', WHERE WHAT IT READS IS OF BULK AT MOST 1048576: true; the input reads as it did. -/
def senseNilUptoRow : OpenClaim := { program := "ytmnaiddobipclaa", sum := "894518b83629939674c50df6ba726f60692aabd61c7a61ca893836bc5cf50b86", func := "ganglion/ganglionlaw12.SenseNil", spec := "senseNil", unfollowed := true, recurses := true, plainKeys := false, apart := false, narrowed := true }
def SenseNilUptoSaid : Prop := senseNilUptoRow.holds Try.pinned (OpenSpec.upto senseNilSpec)

end Rows
end Go.Proofs.Ytmnaiddobipclaa
