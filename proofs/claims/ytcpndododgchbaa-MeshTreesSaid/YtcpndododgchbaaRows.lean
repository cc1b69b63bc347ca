/-
  No cell of these rows narrows 'for every input' (looked for: loops, veiled, ifaces, maps, wideKeys, modest, calm, conditions, laid).
  DERIVED. THE GIVEN ROWS OF THIS SEAT. 10 by the template 'for every input the law returns true; each argument reads behind the call as it read before'; 0 by the template 'total and deterministic' (their statements: YtcpndododgchbaaTotals.lean).
  GIVEN WITH THE SEED: the statements are not yours to turn. If you find one false, say at which input.
  Laid BY PROGRAM, IN A SANDBOX (cutbox-rows.mjs): the forced cells as the released guide's own fill.sh prints them over the translation 9e8151185e1152e2… (all of the seat's roots in one cut). By AI agents, Wed Nov 11 2026. No macro, syntax, notation, axiom, sorry.
-/
import Derived.Test.YtcpndododgchbaaChecked
import GoSem.Claim
import GoSem.ClaimJoined
import GoSem.ClaimMapViews
import Derived.JoinedTies
import Derived.KernelRfl
namespace Go.Proofs.Ytcpndododgchbaa
/- THE CELL 'sum', in the pinned program and in every row, IS THE sha256 OF THE DUMP (.gsa) THAT YtcpndododgchbaaProg.lean LOADS. Nothing in Lean hashes anything: it is a label: what it is worth is what the hold of that sum in a sandbox is worth. -/
noncomputable def Try.pinned : Pinned := { name := "ytcpndododgchbaa", sum := "9e8151185e1152e2930fe3eda95f65c6021bbdc1eab42990f63f1e3675a3c0a6", checked := Try.checked }
namespace Rows
def none {H : Type} : Left H := { results := [], args := [] }

/-- 'ganglionlaw04.MeshRoutes': WHATEVER THE INPUT: true; the input reads as it did. -/
def meshRoutesSpec : ChangeSpec := { name := "meshRoutes", fn := fun _ => fun
  | [d1, d2, d3, d4] => { results := [.lit (.bool true)], args := [d1, d2, d3, d4] }
  | _ => none }
def meshRoutesRow : OpenClaim := { program := "ytcpndododgchbaa", sum := "9e8151185e1152e2930fe3eda95f65c6021bbdc1eab42990f63f1e3675a3c0a6", func := "ganglion/ganglionlaw04.MeshRoutes", spec := "meshRoutes", unfollowed := true, recurses := true, plainKeys := false, apart := false }
def MeshRoutesSaid : Prop := meshRoutesRow.holds Try.pinned (OpenSpec.ofChange meshRoutesSpec)

/-- ITS FALSE NEIGHBOUR: 'it returns false'. Refute it at one input. -/
def meshRoutesWrong : ChangeSpec := { name := "meshRoutes", fn := fun _ => fun
  | [d1, d2, d3, d4] => { results := [.lit (.bool false)], args := [d1, d2, d3, d4] }
  | _ => none }
def MeshRoutesWrongFalsely : Prop := meshRoutesRow.holds Try.pinned (OpenSpec.ofChange meshRoutesWrong)

/-- 'ganglionlaw04.MeshTables': WHATEVER THE INPUT: true; the input reads as it did. -/
def meshTablesSpec : ChangeSpec := { name := "meshTables", fn := fun _ => fun
  | [d1, d2] => { results := [.lit (.bool true)], args := [d1, d2] }
  | _ => none }
def meshTablesRow : OpenClaim := { program := "ytcpndododgchbaa", sum := "9e8151185e1152e2930fe3eda95f65c6021bbdc1eab42990f63f1e3675a3c0a6", func := "ganglion/ganglionlaw04.MeshTables", spec := "meshTables", unfollowed := true, recurses := true, plainKeys := false, apart := false }
def MeshTablesSaid : Prop := meshTablesRow.holds Try.pinned (OpenSpec.ofChange meshTablesSpec)

/-- ITS FALSE NEIGHBOUR: 'it returns false'. Refute it at one input. -/
def meshTablesWrong : ChangeSpec := { name := "meshTables", fn := fun _ => fun
  | [d1, d2] => { results := [.lit (.bool false)], args := [d1, d2] }
  | _ => none }
def MeshTablesWrongFalsely : Prop := meshTablesRow.holds Try.pinned (OpenSpec.ofChange meshTablesWrong)

/-- 'ganglionlaw04.MeshMerges': WHATEVER THE INPUT: true; the input reads as it did. -/
def meshMergesSpec : ChangeSpec := { name := "meshMerges", fn := fun _ => fun
  | [d1, d2, d3] => { results := [.lit (.bool true)], args := [d1, d2, d3] }
  | _ => none }
def meshMergesRow : OpenClaim := { program := "ytcpndododgchbaa", sum := "9e8151185e1152e2930fe3eda95f65c6021bbdc1eab42990f63f1e3675a3c0a6", func := "ganglion/ganglionlaw04.MeshMerges", spec := "meshMerges", unfollowed := true, recurses := true, plainKeys := false, apart := false }
def MeshMergesSaid : Prop := meshMergesRow.holds Try.pinned (OpenSpec.ofChange meshMergesSpec)

/-- ITS FALSE NEIGHBOUR: 'it returns false'. Refute it at one input. -/
def meshMergesWrong : ChangeSpec := { name := "meshMerges", fn := fun _ => fun
  | [d1, d2, d3] => { results := [.lit (.bool false)], args := [d1, d2, d3] }
  | _ => none }
def MeshMergesWrongFalsely : Prop := meshMergesRow.holds Try.pinned (OpenSpec.ofChange meshMergesWrong)

/-- 'ganglionlaw04.MeshRuns': WHATEVER THE INPUT: true; the input reads as it did. -/
def meshRunsSpec : ChangeSpec := { name := "meshRuns", fn := fun _ => fun
  | [d1, d2, d3, d4] => { results := [.lit (.bool true)], args := [d1, d2, d3, d4] }
  | _ => none }
def meshRunsRow : OpenClaim := { program := "ytcpndododgchbaa", sum := "9e8151185e1152e2930fe3eda95f65c6021bbdc1eab42990f63f1e3675a3c0a6", func := "ganglion/ganglionlaw04.MeshRuns", spec := "meshRuns", unfollowed := true, recurses := true, plainKeys := false, apart := false }
def MeshRunsSaid : Prop := meshRunsRow.holds Try.pinned (OpenSpec.ofChange meshRunsSpec)

/-- ITS FALSE NEIGHBOUR: 'it returns false'. Refute it at one input. -/
def meshRunsWrong : ChangeSpec := { name := "meshRuns", fn := fun _ => fun
  | [d1, d2, d3, d4] => { results := [.lit (.bool false)], args := [d1, d2, d3, d4] }
  | _ => none }
def MeshRunsWrongFalsely : Prop := meshRunsRow.holds Try.pinned (OpenSpec.ofChange meshRunsWrong)

/-- 'ganglionlaw04.MeshBarriers': WHATEVER THE INPUT: true; the input reads as it did. -/
def meshBarriersSpec : ChangeSpec := { name := "meshBarriers", fn := fun _ => fun
  | [d1, d2] => { results := [.lit (.bool true)], args := [d1, d2] }
  | _ => none }
def meshBarriersRow : OpenClaim := { program := "ytcpndododgchbaa", sum := "9e8151185e1152e2930fe3eda95f65c6021bbdc1eab42990f63f1e3675a3c0a6", func := "ganglion/ganglionlaw04.MeshBarriers", spec := "meshBarriers", unfollowed := true, recurses := true, plainKeys := false, apart := false }
def MeshBarriersSaid : Prop := meshBarriersRow.holds Try.pinned (OpenSpec.ofChange meshBarriersSpec)

/-- ITS FALSE NEIGHBOUR: 'it returns false'. Refute it at one input. -/
def meshBarriersWrong : ChangeSpec := { name := "meshBarriers", fn := fun _ => fun
  | [d1, d2] => { results := [.lit (.bool false)], args := [d1, d2] }
  | _ => none }
def MeshBarriersWrongFalsely : Prop := meshBarriersRow.holds Try.pinned (OpenSpec.ofChange meshBarriersWrong)

/-- 'ganglionlaw04.MeshTrees': WHATEVER THE INPUT: true; the input reads as it did. -/
def meshTreesSpec : ChangeSpec := { name := "meshTrees", fn := fun _ => fun
  | [d1, d2, d3, d4] => { results := [.lit (.bool true)], args := [d1, d2, d3, d4] }
  | _ => none }
def meshTreesRow : OpenClaim := { program := "ytcpndododgchbaa", sum := "9e8151185e1152e2930fe3eda95f65c6021bbdc1eab42990f63f1e3675a3c0a6", func := "ganglion/ganglionlaw04.MeshTrees", spec := "meshTrees", unfollowed := true, recurses := true, plainKeys := false, apart := false }
def MeshTreesSaid : Prop := meshTreesRow.holds Try.pinned (OpenSpec.ofChange meshTreesSpec)

/-- ITS FALSE NEIGHBOUR: 'it returns false'. Refute it at one input. -/
def meshTreesWrong : ChangeSpec := { name := "meshTrees", fn := fun _ => fun
  | [d1, d2, d3, d4] => { results := [.lit (.bool false)], args := [d1, d2, d3, d4] }
  | _ => none }
def MeshTreesWrongFalsely : Prop := meshTreesRow.holds Try.pinned (OpenSpec.ofChange meshTreesWrong)

/-- 'ganglionlaw04.MeshPackets': WHATEVER THE INPUT: true; the input reads as it did. -/
def meshPacketsSpec : ChangeSpec := { name := "meshPackets", fn := fun _ => fun
  | [d1, d2, d3, d4, d5] => { results := [.lit (.bool true)], args := [d1, d2, d3, d4, d5] }
  | _ => none }
def meshPacketsRow : OpenClaim := { program := "ytcpndododgchbaa", sum := "9e8151185e1152e2930fe3eda95f65c6021bbdc1eab42990f63f1e3675a3c0a6", func := "ganglion/ganglionlaw04.MeshPackets", spec := "meshPackets", unfollowed := true, recurses := true, plainKeys := false, apart := false }
def MeshPacketsSaid : Prop := meshPacketsRow.holds Try.pinned (OpenSpec.ofChange meshPacketsSpec)

/-- ITS FALSE NEIGHBOUR: 'it returns false'. Refute it at one input. -/
def meshPacketsWrong : ChangeSpec := { name := "meshPackets", fn := fun _ => fun
  | [d1, d2, d3, d4, d5] => { results := [.lit (.bool false)], args := [d1, d2, d3, d4, d5] }
  | _ => none }
def MeshPacketsWrongFalsely : Prop := meshPacketsRow.holds Try.pinned (OpenSpec.ofChange meshPacketsWrong)

/-- 'ganglionlaw04.MeshClasses': WHATEVER THE INPUT: true; the input reads as it did. -/
def meshClassesSpec : ChangeSpec := { name := "meshClasses", fn := fun _ => fun
  | [d1, d2, d3, d4, d5] => { results := [.lit (.bool true)], args := [d1, d2, d3, d4, d5] }
  | _ => none }
def meshClassesRow : OpenClaim := { program := "ytcpndododgchbaa", sum := "9e8151185e1152e2930fe3eda95f65c6021bbdc1eab42990f63f1e3675a3c0a6", func := "ganglion/ganglionlaw04.MeshClasses", spec := "meshClasses", unfollowed := true, recurses := true, plainKeys := false, apart := false }
def MeshClassesSaid : Prop := meshClassesRow.holds Try.pinned (OpenSpec.ofChange meshClassesSpec)

/-- ITS FALSE NEIGHBOUR: 'it returns false'. Refute it at one input. -/
def meshClassesWrong : ChangeSpec := { name := "meshClasses", fn := fun _ => fun
  | [d1, d2, d3, d4, d5] => { results := [.lit (.bool false)], args := [d1, d2, d3, d4, d5] }
  | _ => none }
def MeshClassesWrongFalsely : Prop := meshClassesRow.holds Try.pinned (OpenSpec.ofChange meshClassesWrong)

/-- 'ganglionlaw04.MeshSame': WHATEVER THE INPUT: true; the input reads as it did. -/
def meshSameSpec : ChangeSpec := { name := "meshSame", fn := fun _ => fun
  | [d1, d2] => { results := [.lit (.bool true)], args := [d1, d2] }
  | _ => none }
def meshSameRow : OpenClaim := { program := "ytcpndododgchbaa", sum := "9e8151185e1152e2930fe3eda95f65c6021bbdc1eab42990f63f1e3675a3c0a6", func := "ganglion/ganglionlaw04.MeshSame", spec := "meshSame", unfollowed := true, recurses := true, plainKeys := false, apart := false }
def MeshSameSaid : Prop := meshSameRow.holds Try.pinned (OpenSpec.ofChange meshSameSpec)

/-- ITS FALSE NEIGHBOUR: 'it returns false'. Refute it at one input. -/
def meshSameWrong : ChangeSpec := { name := "meshSame", fn := fun _ => fun
  | [d1, d2] => { results := [.lit (.bool false)], args := [d1, d2] }
  | _ => none }
def MeshSameWrongFalsely : Prop := meshSameRow.holds Try.pinned (OpenSpec.ofChange meshSameWrong)

/-- 'ganglionlaw04.MeshTogether': WHATEVER THE INPUT: true; the input reads as it did. -/
def meshTogetherSpec : ChangeSpec := { name := "meshTogether", fn := fun _ => fun
  | [d1, d2, d3, d4] => { results := [.lit (.bool true)], args := [d1, d2, d3, d4] }
  | _ => none }
def meshTogetherRow : OpenClaim := { program := "ytcpndododgchbaa", sum := "9e8151185e1152e2930fe3eda95f65c6021bbdc1eab42990f63f1e3675a3c0a6", func := "ganglion/ganglionlaw04.MeshTogether", spec := "meshTogether", unfollowed := true, recurses := true, plainKeys := false, apart := false }
def MeshTogetherSaid : Prop := meshTogetherRow.holds Try.pinned (OpenSpec.ofChange meshTogetherSpec)

/-- ITS FALSE NEIGHBOUR: 'it returns false'. Refute it at one input. -/
def meshTogetherWrong : ChangeSpec := { name := "meshTogether", fn := fun _ => fun
  | [d1, d2, d3, d4] => { results := [.lit (.bool false)], args := [d1, d2, d3, d4] }
  | _ => none }
def MeshTogetherWrongFalsely : Prop := meshTogetherRow.holds Try.pinned (OpenSpec.ofChange meshTogetherWrong)

/- THE SECOND FORM. 'bulk': how many values and letters a reading holds, each counted each time it is reached (what is shared counts as often as it is met; a slice's spare places count too). A statement '..UptoSaid' is the law's where the arguments, and the package variables that the reading takes, are together of bulk at most 1048576: NARROWER than '..Said'. Prove '..Said' where nothing that the law and all that it calls make is longer than what came in: it says more and counts as full. Else prove '..UptoSaid'. A law counts once. -/
mutual
def uptoBulk {H : Type} : DataW H → Nat
  | .lit (.string bytes) => bytes.length + 1
  | .lit _ => 1
  | .nil => 1
  | .ptr d => uptoBulk d + 1
  | .slice elems spare => uptoBulkAll elems + uptoBulkAll spare + 1
  | .agg parts => uptoBulkAll parts + 1
  | .iface _ d => uptoBulk d + 1
  | .map entries => uptoBulkEntries entries + 1
  | .held _ => 1
def uptoBulkAll {H : Type} : List (DataW H) → Nat
  | [] => 0
  | d :: r => uptoBulk d + uptoBulkAll r
def uptoBulkEntries {H : Type} : List (Lit × DataW H) → Nat
  | [] => 0
  | x :: r => uptoBulkEntry x + uptoBulkEntries r
def uptoBulkEntry {H : Type} : Lit × DataW H → Nat
  | (.string bytes, d) => bytes.length + uptoBulk d + 1
  | (_, d) => uptoBulk d + 1
 end
def uptoSmall : (H : Type) → List (DataW H) → Bool := fun _ ds => decide (uptoBulkAll ds ≤ 1048576)
def OpenSpec.upto (s : _root_.Go.ChangeSpec) : _root_.Go.OpenSpec := { _root_.Go.OpenSpec.ofChange s with cond := some uptoSmall }

/-- 'ganglionlaw04.MeshRoutes', WHERE WHAT IT READS IS OF BULK AT MOST 1048576: true; the input reads as it did. -/
def meshRoutesUptoRow : OpenClaim := { program := "ytcpndododgchbaa", sum := "9e8151185e1152e2930fe3eda95f65c6021bbdc1eab42990f63f1e3675a3c0a6", func := "ganglion/ganglionlaw04.MeshRoutes", spec := "meshRoutes", unfollowed := true, recurses := true, plainKeys := false, apart := false, narrowed := true }
def MeshRoutesUptoSaid : Prop := meshRoutesUptoRow.holds Try.pinned (OpenSpec.upto meshRoutesSpec)

/-- 'ganglionlaw04.MeshTables', WHERE WHAT IT READS IS OF BULK AT MOST 1048576: true; the input reads as it did. -/
def meshTablesUptoRow : OpenClaim := { program := "ytcpndododgchbaa", sum := "9e8151185e1152e2930fe3eda95f65c6021bbdc1eab42990f63f1e3675a3c0a6", func := "ganglion/ganglionlaw04.MeshTables", spec := "meshTables", unfollowed := true, recurses := true, plainKeys := false, apart := false, narrowed := true }
def MeshTablesUptoSaid : Prop := meshTablesUptoRow.holds Try.pinned (OpenSpec.upto meshTablesSpec)

/-- 'ganglionlaw04.MeshMerges', WHERE WHAT IT READS IS OF BULK AT MOST 1048576: true; the input reads as it did. -/
def meshMergesUptoRow : OpenClaim := { program := "ytcpndododgchbaa", sum := "9e8151185e1152e2930fe3eda95f65c6021bbdc1eab42990f63f1e3675a3c0a6", func := "ganglion/ganglionlaw04.MeshMerges", spec := "meshMerges", unfollowed := true, recurses := true, plainKeys := false, apart := false, narrowed := true }
def MeshMergesUptoSaid : Prop := meshMergesUptoRow.holds Try.pinned (OpenSpec.upto meshMergesSpec)

/-- 'ganglionlaw04.MeshRuns', WHERE WHAT IT READS IS OF BULK AT MOST 1048576: true; the input reads as it did. -/
def meshRunsUptoRow : OpenClaim := { program := "ytcpndododgchbaa", sum := "9e8151185e1152e2930fe3eda95f65c6021bbdc1eab42990f63f1e3675a3c0a6", func := "ganglion/ganglionlaw04.MeshRuns", spec := "meshRuns", unfollowed := true, recurses := true, plainKeys := false, apart := false, narrowed := true }
def MeshRunsUptoSaid : Prop := meshRunsUptoRow.holds Try.pinned (OpenSpec.upto meshRunsSpec)

/-- 'ganglionlaw04.MeshBarriers', WHERE WHAT IT READS IS OF BULK AT MOST 1048576: true; the input reads as it did. -/
def meshBarriersUptoRow : OpenClaim := { program := "ytcpndododgchbaa", sum := "9e8151185e1152e2930fe3eda95f65c6021bbdc1eab42990f63f1e3675a3c0a6", func := "ganglion/ganglionlaw04.MeshBarriers", spec := "meshBarriers", unfollowed := true, recurses := true, plainKeys := false, apart := false, narrowed := true }
def MeshBarriersUptoSaid : Prop := meshBarriersUptoRow.holds Try.pinned (OpenSpec.upto meshBarriersSpec)

/-- 'ganglionlaw04.MeshTrees', WHERE WHAT IT READS IS OF BULK AT MOST 1048576: true; the input reads as it did. -/
def meshTreesUptoRow : OpenClaim := { program := "ytcpndododgchbaa", sum := "9e8151185e1152e2930fe3eda95f65c6021bbdc1eab42990f63f1e3675a3c0a6", func := "ganglion/ganglionlaw04.MeshTrees", spec := "meshTrees", unfollowed := true, recurses := true, plainKeys := false, apart := false, narrowed := true }
def MeshTreesUptoSaid : Prop := meshTreesUptoRow.holds Try.pinned (OpenSpec.upto meshTreesSpec)

/-- 'ganglionlaw04.MeshPackets', WHERE WHAT IT READS IS OF BULK AT MOST 1048576: true; the input reads as it did. -/
def meshPacketsUptoRow : OpenClaim := { program := "ytcpndododgchbaa", sum := "9e8151185e1152e2930fe3eda95f65c6021bbdc1eab42990f63f1e3675a3c0a6", func := "ganglion/ganglionlaw04.MeshPackets", spec := "meshPackets", unfollowed := true, recurses := true, plainKeys := false, apart := false, narrowed := true }
def MeshPacketsUptoSaid : Prop := meshPacketsUptoRow.holds Try.pinned (OpenSpec.upto meshPacketsSpec)

/-- 'ganglionlaw04.MeshClasses', WHERE WHAT IT READS IS OF BULK AT MOST 1048576: true; the input reads as it did. -/
def meshClassesUptoRow : OpenClaim := { program := "ytcpndododgchbaa", sum := "9e8151185e1152e2930fe3eda95f65c6021bbdc1eab42990f63f1e3675a3c0a6", func := "ganglion/ganglionlaw04.MeshClasses", spec := "meshClasses", unfollowed := true, recurses := true, plainKeys := false, apart := false, narrowed := true }
def MeshClassesUptoSaid : Prop := meshClassesUptoRow.holds Try.pinned (OpenSpec.upto meshClassesSpec)

/-- 'ganglionlaw04.MeshSame', WHERE WHAT IT READS IS OF BULK AT MOST 1048576: true; the input reads as it did. -/
def meshSameUptoRow : OpenClaim := { program := "ytcpndododgchbaa", sum := "9e8151185e1152e2930fe3eda95f65c6021bbdc1eab42990f63f1e3675a3c0a6", func := "ganglion/ganglionlaw04.MeshSame", spec := "meshSame", unfollowed := true, recurses := true, plainKeys := false, apart := false, narrowed := true }
def MeshSameUptoSaid : Prop := meshSameUptoRow.holds Try.pinned (OpenSpec.upto meshSameSpec)

/-- 'ganglionlaw04.MeshTogether', WHERE WHAT IT READS IS OF BULK AT MOST 1048576: true; the input reads as it did. -/
def meshTogetherUptoRow : OpenClaim := { program := "ytcpndododgchbaa", sum := "9e8151185e1152e2930fe3eda95f65c6021bbdc1eab42990f63f1e3675a3c0a6", func := "ganglion/ganglionlaw04.MeshTogether", spec := "meshTogether", unfollowed := true, recurses := true, plainKeys := false, apart := false, narrowed := true }
def MeshTogetherUptoSaid : Prop := meshTogetherUptoRow.holds Try.pinned (OpenSpec.upto meshTogetherSpec)

end Rows
end Go.Proofs.Ytcpndododgchbaa
