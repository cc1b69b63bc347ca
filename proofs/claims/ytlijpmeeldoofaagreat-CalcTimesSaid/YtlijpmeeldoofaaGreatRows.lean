/-
  No cell of these rows narrows 'for every input' (looked for: loops, veiled, ifaces, maps, wideKeys, modest, calm, conditions, laid).
  DERIVED. THE GIVEN ROWS OF THIS SEAT. 6 by the template 'for every input the law returns true; each argument reads behind the call as it read before'; 0 by the template 'total and deterministic' (their statements: YtlijpmeeldoofaaGreatTotals.lean).
  GIVEN WITH THE SEED: the statements are not yours to turn. If you find one false, say at which input.
  Laid BY PROGRAM, IN A SANDBOX (cutbox-rows.mjs): the forced cells as the released guide's own fill.sh prints them over the translation 4e023a29e4c81c19… (all of the seat's roots in one cut). By AI agents, Wed Nov 11 2026. No macro, syntax, notation, axiom, sorry.
-/
import Derived.Test.YtlijpmeeldoofaaGreatChecked
import GoSem.Claim
import GoSem.ClaimJoined
import GoSem.ClaimMapViews
import Derived.JoinedTies
import Derived.KernelRfl
namespace Go.Proofs.YtlijpmeeldoofaaGreat
/- THE CELL 'sum', in the pinned program and in every row, IS THE sha256 OF THE DUMP (.gsa) THAT YtlijpmeeldoofaaGreatProg.lean LOADS. Nothing in Lean hashes anything: it is a label: what it is worth is what the hold of that sum in a sandbox is worth. -/
noncomputable def Tryz.pinned : Pinned := { name := "ytlijpmeeldoofaagreat", sum := "4e023a29e4c81c190036d82441410195785e23df91a7919d83893d0f626db4a9", checked := Tryz.checked }
namespace Rows
def none {H : Type} : Left H := { results := [], args := [] }

/-- 'ganglionlaw05.CalcTimes': WHATEVER THE INPUT: true; the input reads as it did. -/
def calcTimesSpec : ChangeSpec := { name := "calcTimes", fn := fun _ => fun
  | [d1, d2, d3] => { results := [.lit (.bool true)], args := [d1, d2, d3] }
  | _ => none }
def calcTimesRow : OpenClaim := { program := "ytlijpmeeldoofaagreat", sum := "4e023a29e4c81c190036d82441410195785e23df91a7919d83893d0f626db4a9", func := "ganglion/ganglionlaw05.CalcTimes", spec := "calcTimes", unfollowed := true, recurses := true, plainKeys := false, apart := false }
def CalcTimesSaid : Prop := calcTimesRow.holds Tryz.pinned (OpenSpec.ofChange calcTimesSpec)

/-- ITS FALSE NEIGHBOUR: 'it returns false'. Refute it at one input. -/
def calcTimesWrong : ChangeSpec := { name := "calcTimes", fn := fun _ => fun
  | [d1, d2, d3] => { results := [.lit (.bool false)], args := [d1, d2, d3] }
  | _ => none }
def CalcTimesWrongFalsely : Prop := calcTimesRow.holds Tryz.pinned (OpenSpec.ofChange calcTimesWrong)

/-- 'ganglionlaw05.CalcWaits': WHATEVER THE INPUT: true; the input reads as it did. -/
def calcWaitsSpec : ChangeSpec := { name := "calcWaits", fn := fun _ => fun
  | [d1, d2, d3, d4] => { results := [.lit (.bool true)], args := [d1, d2, d3, d4] }
  | _ => none }
def calcWaitsRow : OpenClaim := { program := "ytlijpmeeldoofaagreat", sum := "4e023a29e4c81c190036d82441410195785e23df91a7919d83893d0f626db4a9", func := "ganglion/ganglionlaw05.CalcWaits", spec := "calcWaits", unfollowed := true, recurses := true, plainKeys := false, apart := false }
def CalcWaitsSaid : Prop := calcWaitsRow.holds Tryz.pinned (OpenSpec.ofChange calcWaitsSpec)

/-- ITS FALSE NEIGHBOUR: 'it returns false'. Refute it at one input. -/
def calcWaitsWrong : ChangeSpec := { name := "calcWaits", fn := fun _ => fun
  | [d1, d2, d3, d4] => { results := [.lit (.bool false)], args := [d1, d2, d3, d4] }
  | _ => none }
def CalcWaitsWrongFalsely : Prop := calcWaitsRow.holds Tryz.pinned (OpenSpec.ofChange calcWaitsWrong)

/-- 'ganglionlaw05.CalcReports': WHATEVER THE INPUT: true; the input reads as it did. -/
def calcReportsSpec : ChangeSpec := { name := "calcReports", fn := fun _ => fun
  | [d1, d2] => { results := [.lit (.bool true)], args := [d1, d2] }
  | _ => none }
def calcReportsRow : OpenClaim := { program := "ytlijpmeeldoofaagreat", sum := "4e023a29e4c81c190036d82441410195785e23df91a7919d83893d0f626db4a9", func := "ganglion/ganglionlaw05.CalcReports", spec := "calcReports", unfollowed := true, recurses := true, plainKeys := false, apart := false }
def CalcReportsSaid : Prop := calcReportsRow.holds Tryz.pinned (OpenSpec.ofChange calcReportsSpec)

/-- ITS FALSE NEIGHBOUR: 'it returns false'. Refute it at one input. -/
def calcReportsWrong : ChangeSpec := { name := "calcReports", fn := fun _ => fun
  | [d1, d2] => { results := [.lit (.bool false)], args := [d1, d2] }
  | _ => none }
def CalcReportsWrongFalsely : Prop := calcReportsRow.holds Tryz.pinned (OpenSpec.ofChange calcReportsWrong)

/-- 'ganglionlaw05.CalcVerifies': WHATEVER THE INPUT: true; the input reads as it did. -/
def calcVerifiesSpec : ChangeSpec := { name := "calcVerifies", fn := fun _ => fun
  | [d1, d2, d3] => { results := [.lit (.bool true)], args := [d1, d2, d3] }
  | _ => none }
def calcVerifiesRow : OpenClaim := { program := "ytlijpmeeldoofaagreat", sum := "4e023a29e4c81c190036d82441410195785e23df91a7919d83893d0f626db4a9", func := "ganglion/ganglionlaw05.CalcVerifies", spec := "calcVerifies", unfollowed := true, recurses := true, plainKeys := false, apart := false }
def CalcVerifiesSaid : Prop := calcVerifiesRow.holds Tryz.pinned (OpenSpec.ofChange calcVerifiesSpec)

/-- ITS FALSE NEIGHBOUR: 'it returns false'. Refute it at one input. -/
def calcVerifiesWrong : ChangeSpec := { name := "calcVerifies", fn := fun _ => fun
  | [d1, d2, d3] => { results := [.lit (.bool false)], args := [d1, d2, d3] }
  | _ => none }
def CalcVerifiesWrongFalsely : Prop := calcVerifiesRow.holds Tryz.pinned (OpenSpec.ofChange calcVerifiesWrong)

/-- 'ganglionlaw05.CalcMesh': WHATEVER THE INPUT: true; the input reads as it did. -/
def calcMeshSpec : ChangeSpec := { name := "calcMesh", fn := fun _ => fun
  | [d1, d2, d3, d4] => { results := [.lit (.bool true)], args := [d1, d2, d3, d4] }
  | _ => none }
def calcMeshRow : OpenClaim := { program := "ytlijpmeeldoofaagreat", sum := "4e023a29e4c81c190036d82441410195785e23df91a7919d83893d0f626db4a9", func := "ganglion/ganglionlaw05.CalcMesh", spec := "calcMesh", unfollowed := true, recurses := true, plainKeys := false, apart := false }
def CalcMeshSaid : Prop := calcMeshRow.holds Tryz.pinned (OpenSpec.ofChange calcMeshSpec)

/-- ITS FALSE NEIGHBOUR: 'it returns false'. Refute it at one input. -/
def calcMeshWrong : ChangeSpec := { name := "calcMesh", fn := fun _ => fun
  | [d1, d2, d3, d4] => { results := [.lit (.bool false)], args := [d1, d2, d3, d4] }
  | _ => none }
def CalcMeshWrongFalsely : Prop := calcMeshRow.holds Tryz.pinned (OpenSpec.ofChange calcMeshWrong)

/-- 'ganglionlaw05.CalcOne': WHATEVER THE INPUT: true; the input reads as it did. -/
def calcOneSpec : ChangeSpec := { name := "calcOne", fn := fun _ => fun
  | [d1, d2, d3, d4, d5, d6] => { results := [.lit (.bool true)], args := [d1, d2, d3, d4, d5, d6] }
  | _ => none }
def calcOneRow : OpenClaim := { program := "ytlijpmeeldoofaagreat", sum := "4e023a29e4c81c190036d82441410195785e23df91a7919d83893d0f626db4a9", func := "ganglion/ganglionlaw05.CalcOne", spec := "calcOne", unfollowed := true, recurses := true, plainKeys := false, apart := false }
def CalcOneSaid : Prop := calcOneRow.holds Tryz.pinned (OpenSpec.ofChange calcOneSpec)

/-- ITS FALSE NEIGHBOUR: 'it returns false'. Refute it at one input. -/
def calcOneWrong : ChangeSpec := { name := "calcOne", fn := fun _ => fun
  | [d1, d2, d3, d4, d5, d6] => { results := [.lit (.bool false)], args := [d1, d2, d3, d4, d5, d6] }
  | _ => none }
def CalcOneWrongFalsely : Prop := calcOneRow.holds Tryz.pinned (OpenSpec.ofChange calcOneWrong)

/- THE SECOND FORM. 'bulk': how many values and letters a reading holds, each counted each time it is reached (what is shared counts as often as it is met; a slice's spare places count too). A statement '..UptoSaid' is the law's where the arguments, and the package variables that the reading takes, are together of bulk at most 1048576: NARROWER than '..Said'. Prove '..Said' where nothing that the law and all that it calls make is longer than what came in: it says more and counts as full. Else prove '..UptoSaid'. A law counts once. -/
mutual
def uptoBulk {H : Type} : DataW H → Nat
  | .lit (.string bytes) => bytes.length + 1
  | .lit _ => 1
  | .nil => 1
  | .ptr d => uptoBulk d + 1
  | .slice elems spare => uptoBulkAll elems + uptoBulkAll spare + 1
  | .agg parts => uptoBulkAll parts + 1
  | .iface _ d => uptoBulk d + 1
  | .map entries => uptoBulkEntries entries + 1
  | .held _ => 1
def uptoBulkAll {H : Type} : List (DataW H) → Nat
  | [] => 0
  | d :: r => uptoBulk d + uptoBulkAll r
def uptoBulkEntries {H : Type} : List (Lit × DataW H) → Nat
  | [] => 0
  | x :: r => uptoBulkEntry x + uptoBulkEntries r
def uptoBulkEntry {H : Type} : Lit × DataW H → Nat
  | (.string bytes, d) => bytes.length + uptoBulk d + 1
  | (_, d) => uptoBulk d + 1
 end
def uptoSmall : (H : Type) → List (DataW H) → Bool := fun _ ds => decide (uptoBulkAll ds ≤ 1048576)
def OpenSpec.upto (s : _root_.Go.ChangeSpec) : _root_.Go.OpenSpec := { _root_.Go.OpenSpec.ofChange s with cond := some uptoSmall }

/-- 'ganglionlaw05.CalcTimes', WHERE WHAT IT READS IS OF BULK AT MOST 1048576: true; the input reads as it did. -/
def calcTimesUptoRow : OpenClaim := { program := "ytlijpmeeldoofaagreat", sum := "4e023a29e4c81c190036d82441410195785e23df91a7919d83893d0f626db4a9", func := "ganglion/ganglionlaw05.CalcTimes", spec := "calcTimes", unfollowed := true, recurses := true, plainKeys := false, apart := false, narrowed := true }
def CalcTimesUptoSaid : Prop := calcTimesUptoRow.holds Tryz.pinned (OpenSpec.upto calcTimesSpec)

/-- 'ganglionlaw05.CalcWaits', WHERE WHAT IT READS IS OF BULK AT MOST 1048576: true; the input reads as it did. -/
def calcWaitsUptoRow : OpenClaim := { program := "ytlijpmeeldoofaagreat", sum := "4e023a29e4c81c190036d82441410195785e23df91a7919d83893d0f626db4a9", func := "ganglion/ganglionlaw05.CalcWaits", spec := "calcWaits", unfollowed := true, recurses := true, plainKeys := false, apart := false, narrowed := true }
def CalcWaitsUptoSaid : Prop := calcWaitsUptoRow.holds Tryz.pinned (OpenSpec.upto calcWaitsSpec)

/-- 'ganglionlaw05.CalcReports', WHERE WHAT IT READS IS OF BULK AT MOST 1048576: true; the input reads as it did. -/
def calcReportsUptoRow : OpenClaim := { program := "ytlijpmeeldoofaagreat", sum := "4e023a29e4c81c190036d82441410195785e23df91a7919d83893d0f626db4a9", func := "ganglion/ganglionlaw05.CalcReports", spec := "calcReports", unfollowed := true, recurses := true, plainKeys := false, apart := false, narrowed := true }
def CalcReportsUptoSaid : Prop := calcReportsUptoRow.holds Tryz.pinned (OpenSpec.upto calcReportsSpec)

/-- 'ganglionlaw05.CalcVerifies', WHERE WHAT IT READS IS OF BULK AT MOST 1048576: true; the input reads as it did. -/
def calcVerifiesUptoRow : OpenClaim := { program := "ytlijpmeeldoofaagreat", sum := "4e023a29e4c81c190036d82441410195785e23df91a7919d83893d0f626db4a9", func := "ganglion/ganglionlaw05.CalcVerifies", spec := "calcVerifies", unfollowed := true, recurses := true, plainKeys := false, apart := false, narrowed := true }
def CalcVerifiesUptoSaid : Prop := calcVerifiesUptoRow.holds Tryz.pinned (OpenSpec.upto calcVerifiesSpec)

/-- 'ganglionlaw05.CalcMesh', WHERE WHAT IT READS IS OF BULK AT MOST 1048576: true; the input reads as it did. -/
def calcMeshUptoRow : OpenClaim := { program := "ytlijpmeeldoofaagreat", sum := "4e023a29e4c81c190036d82441410195785e23df91a7919d83893d0f626db4a9", func := "ganglion/ganglionlaw05.CalcMesh", spec := "calcMesh", unfollowed := true, recurses := true, plainKeys := false, apart := false, narrowed := true }
def CalcMeshUptoSaid : Prop := calcMeshUptoRow.holds Tryz.pinned (OpenSpec.upto calcMeshSpec)

/-- 'ganglionlaw05.CalcOne', WHERE WHAT IT READS IS OF BULK AT MOST 1048576: true; the input reads as it did. -/
def calcOneUptoRow : OpenClaim := { program := "ytlijpmeeldoofaagreat", sum := "4e023a29e4c81c190036d82441410195785e23df91a7919d83893d0f626db4a9", func := "ganglion/ganglionlaw05.CalcOne", spec := "calcOne", unfollowed := true, recurses := true, plainKeys := false, apart := false, narrowed := true }
def CalcOneUptoSaid : Prop := calcOneUptoRow.holds Tryz.pinned (OpenSpec.upto calcOneSpec)

end Rows
end Go.Proofs.YtlijpmeeldoofaaGreat
