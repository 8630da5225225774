/-
  NARROWER THAN 'FOR EVERY INPUT', by the rows' own cells (each row's printed sentence says how): EvalFolds: laid · EvalFolded: laid · MachinePlays: laid · MachinePieces: laid · MachineRuns: laid · MachineMeans: laid · LazyLeasts: laid · LazyAlongs: laid · LazyAlones: laid · LazyGates: laid · LazyOrder: laid.
  DERIVED. THE GIVEN ROWS OF THIS SEAT. 11 by the template 'for every input the law returns true; each argument reads behind the call as it read before'; 0 by the template 'total and deterministic' (their statements: YtopifagbbmhgfaaGreatDoorTotals.lean).
  GIVEN WITH THE SEED: the statements are not yours to turn. If you find one false, say at which input.
  Laid BY PROGRAM, IN A SANDBOX (cutbox-rows.mjs): the forced cells as the released guide's own fill.sh prints them over the translation 1e476ed09efd9695… (all of the seat's roots in one cut). By AI agents, Wed Nov 11 2026. No macro, syntax, notation, axiom, sorry.
-/
import Derived.Test.YtopifagbbmhgfaaGreatDoorChecked
import GoSem.Claim
import GoSem.ClaimJoined
import GoSem.ClaimMapViews
import Derived.JoinedTies
import Derived.KernelRfl
namespace Go.Proofs.YtopifagbbmhgfaaGreatDoor
/- THE CELL 'sum', in the pinned program and in every row, IS THE sha256 OF THE DUMP (.gsa) THAT YtopifagbbmhgfaaGreatDoorProg.lean LOADS. Nothing in Lean hashes anything: it is a label: what it is worth is what the hold of that sum in a sandbox is worth. -/
noncomputable def Tryz.pinned : Pinned := { name := "ytopifagbbmhgfaagreatdoor", sum := "1e476ed09efd969519e125e9a1c595c97163b275f06cb595a50dad0396424116", checked := Tryz.checked }
namespace Rows
def none {H : Type} : Left H := { results := [], args := [] }

/- WHAT THE LISTED PACKAGE-LEVEL VARIABLES READ AS WHEN THE CALL BEGINS. Each datum BY PROGRAM (the guide's laid-datum.mjs) off the statement by which the dump's own 'gosem.cut.vars' lays the variable. In a bare row this is a premise. The card (YtopifagbbmhgfaaGreatDoorCards.lean) ties it to the program's text. -/
def laid_onceweb_lex_keys {H : Type} : DataW H := .agg [.lit (.string [99, 101, 108, 108]), .lit (.string [97, 103, 97, 105, 110]), .lit (.string [116, 114, 105, 101, 115]), .lit (.string [98, 97, 115, 101]), .lit (.string [102, 97, 99, 116, 111, 114]), .lit (.string [99, 97, 112]), .lit (.string [99, 108, 111, 115, 101]), .lit (.string [102, 105, 110, 101]), .lit (.string [102, 97, 105, 108]), .lit (.string [112, 97, 110, 105, 99]), .lit (.string [105, 102]), .lit (.string [116, 104, 101, 110]), .lit (.string [101, 108, 115, 101]), .lit (.string [116, 114, 121]), .lit (.string [119, 97, 105, 116]), .lit (.string [108, 101, 116]), .lit (.string [105, 110]), .lit (.string [105, 116, 101, 109]), .lit (.string [115, 105, 122, 101])]
def laid_onceweb_fail_sorts {H : Type} : DataW H := .agg [.lit (.int .i64 0), .lit (.int .i64 1), .lit (.int .i64 1), .lit (.int .i64 1), .lit (.int .i64 1), .lit (.int .i64 1), .lit (.int .i64 1), .lit (.int .i64 1), .lit (.int .i64 2), .lit (.int .i64 3), .lit (.int .i64 4), .lit (.int .i64 1)]
def laid_onceweb_fail_values {H : Type} : DataW H := .agg [.lit (.string [108, 105, 115, 116]), .lit (.string [97, 100, 100]), .lit (.string [115, 117, 98]), .lit (.string [109, 117, 108]), .lit (.string [106, 111, 105, 110]), .lit (.string [105, 116, 101, 109]), .lit (.string [115, 105, 122, 101]), .lit (.string [105, 102]), .lit (.string [102, 97, 105, 108]), .lit (.string [112, 97, 110, 105, 99])]

/-- 'onceweblaw08.EvalFolds': WHATEVER THE INPUT: true; the input reads as it did. -/
def evalFoldsSpec : ChangeSpec := { name := "evalFolds", fn := fun _ => fun
  | [d] => { results := [.lit (.bool true)], args := [d] }
  | _ => none }
def evalFoldsRow : OpenClaim := { program := "ytopifagbbmhgfaagreatdoor", sum := "1e476ed09efd969519e125e9a1c595c97163b275f06cb595a50dad0396424116", func := "onceweb/onceweblaw08.EvalFolds", spec := "evalFolds", inPlace := ["internal/bytealg.abigen_runtime_cmpstring"], unfollowed := true, recurses := true, named := ["onceweb/lex.keys", "onceweb/fail.sorts", "onceweb/fail.values"], apart := false, laid := [("onceweb/lex.keys", laid_onceweb_lex_keys), ("onceweb/fail.sorts", laid_onceweb_fail_sorts), ("onceweb/fail.values", laid_onceweb_fail_values)] }
def EvalFoldsSaid : Prop := evalFoldsRow.holds Tryz.pinned (OpenSpec.ofChange evalFoldsSpec)

/-- ITS FALSE NEIGHBOUR: 'it returns false'. Refute it at one input. -/
def evalFoldsWrong : ChangeSpec := { name := "evalFolds", fn := fun _ => fun
  | [d] => { results := [.lit (.bool false)], args := [d] }
  | _ => none }
def EvalFoldsWrongFalsely : Prop := evalFoldsRow.holds Tryz.pinned (OpenSpec.ofChange evalFoldsWrong)

/-- 'onceweblaw08.EvalFolded': WHATEVER THE INPUT: true; the input reads as it did. -/
def evalFoldedSpec : ChangeSpec := { name := "evalFolded", fn := fun _ => fun
  | [d1, d2, d3] => { results := [.lit (.bool true)], args := [d1, d2, d3] }
  | _ => none }
def evalFoldedRow : OpenClaim := { program := "ytopifagbbmhgfaagreatdoor", sum := "1e476ed09efd969519e125e9a1c595c97163b275f06cb595a50dad0396424116", func := "onceweb/onceweblaw08.EvalFolded", spec := "evalFolded", inPlace := ["internal/bytealg.abigen_runtime_cmpstring"], unfollowed := true, recurses := true, named := ["onceweb/lex.keys", "onceweb/fail.sorts", "onceweb/fail.values"], apart := false, laid := [("onceweb/lex.keys", laid_onceweb_lex_keys), ("onceweb/fail.sorts", laid_onceweb_fail_sorts), ("onceweb/fail.values", laid_onceweb_fail_values)] }
def EvalFoldedSaid : Prop := evalFoldedRow.holds Tryz.pinned (OpenSpec.ofChange evalFoldedSpec)

/-- ITS FALSE NEIGHBOUR: 'it returns false'. Refute it at one input. -/
def evalFoldedWrong : ChangeSpec := { name := "evalFolded", fn := fun _ => fun
  | [d1, d2, d3] => { results := [.lit (.bool false)], args := [d1, d2, d3] }
  | _ => none }
def EvalFoldedWrongFalsely : Prop := evalFoldedRow.holds Tryz.pinned (OpenSpec.ofChange evalFoldedWrong)

/-- 'onceweblaw10.MachinePlays': WHATEVER THE INPUT: true; the input reads as it did. -/
def machinePlaysSpec : ChangeSpec := { name := "machinePlays", fn := fun _ => fun
  | [d1, d2] => { results := [.lit (.bool true)], args := [d1, d2] }
  | _ => none }
def machinePlaysRow : OpenClaim := { program := "ytopifagbbmhgfaagreatdoor", sum := "1e476ed09efd969519e125e9a1c595c97163b275f06cb595a50dad0396424116", func := "onceweb/onceweblaw10.MachinePlays", spec := "machinePlays", inPlace := ["internal/bytealg.abigen_runtime_cmpstring"], unfollowed := true, recurses := true, named := ["onceweb/lex.keys", "onceweb/fail.sorts", "onceweb/fail.values"], apart := false, laid := [("onceweb/lex.keys", laid_onceweb_lex_keys), ("onceweb/fail.sorts", laid_onceweb_fail_sorts), ("onceweb/fail.values", laid_onceweb_fail_values)] }
def MachinePlaysSaid : Prop := machinePlaysRow.holds Tryz.pinned (OpenSpec.ofChange machinePlaysSpec)

/-- ITS FALSE NEIGHBOUR: 'it returns false'. Refute it at one input. -/
def machinePlaysWrong : ChangeSpec := { name := "machinePlays", fn := fun _ => fun
  | [d1, d2] => { results := [.lit (.bool false)], args := [d1, d2] }
  | _ => none }
def MachinePlaysWrongFalsely : Prop := machinePlaysRow.holds Tryz.pinned (OpenSpec.ofChange machinePlaysWrong)

/-- 'onceweblaw10.MachinePieces': WHATEVER THE INPUT: true; the input reads as it did. -/
def machinePiecesSpec : ChangeSpec := { name := "machinePieces", fn := fun _ => fun
  | [d1, d2, d3] => { results := [.lit (.bool true)], args := [d1, d2, d3] }
  | _ => none }
def machinePiecesRow : OpenClaim := { program := "ytopifagbbmhgfaagreatdoor", sum := "1e476ed09efd969519e125e9a1c595c97163b275f06cb595a50dad0396424116", func := "onceweb/onceweblaw10.MachinePieces", spec := "machinePieces", inPlace := ["internal/bytealg.abigen_runtime_cmpstring"], unfollowed := true, recurses := true, named := ["onceweb/lex.keys", "onceweb/fail.sorts", "onceweb/fail.values"], apart := false, laid := [("onceweb/lex.keys", laid_onceweb_lex_keys), ("onceweb/fail.sorts", laid_onceweb_fail_sorts), ("onceweb/fail.values", laid_onceweb_fail_values)] }
def MachinePiecesSaid : Prop := machinePiecesRow.holds Tryz.pinned (OpenSpec.ofChange machinePiecesSpec)

/-- ITS FALSE NEIGHBOUR: 'it returns false'. Refute it at one input. -/
def machinePiecesWrong : ChangeSpec := { name := "machinePieces", fn := fun _ => fun
  | [d1, d2, d3] => { results := [.lit (.bool false)], args := [d1, d2, d3] }
  | _ => none }
def MachinePiecesWrongFalsely : Prop := machinePiecesRow.holds Tryz.pinned (OpenSpec.ofChange machinePiecesWrong)

/-- 'onceweblaw10.MachineRuns': WHATEVER THE INPUT: true; the input reads as it did. -/
def machineRunsSpec : ChangeSpec := { name := "machineRuns", fn := fun _ => fun
  | [d1, d2, d3] => { results := [.lit (.bool true)], args := [d1, d2, d3] }
  | _ => none }
def machineRunsRow : OpenClaim := { program := "ytopifagbbmhgfaagreatdoor", sum := "1e476ed09efd969519e125e9a1c595c97163b275f06cb595a50dad0396424116", func := "onceweb/onceweblaw10.MachineRuns", spec := "machineRuns", inPlace := ["internal/bytealg.abigen_runtime_cmpstring"], unfollowed := true, recurses := true, named := ["onceweb/lex.keys", "onceweb/fail.sorts", "onceweb/fail.values"], apart := false, laid := [("onceweb/lex.keys", laid_onceweb_lex_keys), ("onceweb/fail.sorts", laid_onceweb_fail_sorts), ("onceweb/fail.values", laid_onceweb_fail_values)] }
def MachineRunsSaid : Prop := machineRunsRow.holds Tryz.pinned (OpenSpec.ofChange machineRunsSpec)

/-- ITS FALSE NEIGHBOUR: 'it returns false'. Refute it at one input. -/
def machineRunsWrong : ChangeSpec := { name := "machineRuns", fn := fun _ => fun
  | [d1, d2, d3] => { results := [.lit (.bool false)], args := [d1, d2, d3] }
  | _ => none }
def MachineRunsWrongFalsely : Prop := machineRunsRow.holds Tryz.pinned (OpenSpec.ofChange machineRunsWrong)

/-- 'onceweblaw10.MachineMeans': WHATEVER THE INPUT: true; the input reads as it did. -/
def machineMeansSpec : ChangeSpec := { name := "machineMeans", fn := fun _ => fun
  | [d1, d2, d3] => { results := [.lit (.bool true)], args := [d1, d2, d3] }
  | _ => none }
def machineMeansRow : OpenClaim := { program := "ytopifagbbmhgfaagreatdoor", sum := "1e476ed09efd969519e125e9a1c595c97163b275f06cb595a50dad0396424116", func := "onceweb/onceweblaw10.MachineMeans", spec := "machineMeans", inPlace := ["internal/bytealg.abigen_runtime_cmpstring"], unfollowed := true, recurses := true, named := ["onceweb/lex.keys", "onceweb/fail.sorts", "onceweb/fail.values"], apart := false, laid := [("onceweb/lex.keys", laid_onceweb_lex_keys), ("onceweb/fail.sorts", laid_onceweb_fail_sorts), ("onceweb/fail.values", laid_onceweb_fail_values)] }
def MachineMeansSaid : Prop := machineMeansRow.holds Tryz.pinned (OpenSpec.ofChange machineMeansSpec)

/-- ITS FALSE NEIGHBOUR: 'it returns false'. Refute it at one input. -/
def machineMeansWrong : ChangeSpec := { name := "machineMeans", fn := fun _ => fun
  | [d1, d2, d3] => { results := [.lit (.bool false)], args := [d1, d2, d3] }
  | _ => none }
def MachineMeansWrongFalsely : Prop := machineMeansRow.holds Tryz.pinned (OpenSpec.ofChange machineMeansWrong)

/-- 'onceweblaw25.LazyLeasts': WHATEVER THE INPUT: true; the input reads as it did. -/
def lazyLeastsSpec : ChangeSpec := { name := "lazyLeasts", fn := fun _ => fun
  | [d] => { results := [.lit (.bool true)], args := [d] }
  | _ => none }
def lazyLeastsRow : OpenClaim := { program := "ytopifagbbmhgfaagreatdoor", sum := "1e476ed09efd969519e125e9a1c595c97163b275f06cb595a50dad0396424116", func := "onceweb/onceweblaw25.LazyLeasts", spec := "lazyLeasts", inPlace := ["internal/bytealg.abigen_runtime_cmpstring"], unfollowed := true, recurses := true, named := ["onceweb/lex.keys", "onceweb/fail.sorts", "onceweb/fail.values"], apart := false, laid := [("onceweb/lex.keys", laid_onceweb_lex_keys), ("onceweb/fail.sorts", laid_onceweb_fail_sorts), ("onceweb/fail.values", laid_onceweb_fail_values)] }
def LazyLeastsSaid : Prop := lazyLeastsRow.holds Tryz.pinned (OpenSpec.ofChange lazyLeastsSpec)

/-- ITS FALSE NEIGHBOUR: 'it returns false'. Refute it at one input. -/
def lazyLeastsWrong : ChangeSpec := { name := "lazyLeasts", fn := fun _ => fun
  | [d] => { results := [.lit (.bool false)], args := [d] }
  | _ => none }
def LazyLeastsWrongFalsely : Prop := lazyLeastsRow.holds Tryz.pinned (OpenSpec.ofChange lazyLeastsWrong)

/-- 'onceweblaw25.LazyAlongs': WHATEVER THE INPUT: true; the input reads as it did. -/
def lazyAlongsSpec : ChangeSpec := { name := "lazyAlongs", fn := fun _ => fun
  | [d1, d2] => { results := [.lit (.bool true)], args := [d1, d2] }
  | _ => none }
def lazyAlongsRow : OpenClaim := { program := "ytopifagbbmhgfaagreatdoor", sum := "1e476ed09efd969519e125e9a1c595c97163b275f06cb595a50dad0396424116", func := "onceweb/onceweblaw25.LazyAlongs", spec := "lazyAlongs", inPlace := ["internal/bytealg.abigen_runtime_cmpstring"], unfollowed := true, recurses := true, named := ["onceweb/lex.keys", "onceweb/fail.sorts", "onceweb/fail.values"], apart := false, laid := [("onceweb/lex.keys", laid_onceweb_lex_keys), ("onceweb/fail.sorts", laid_onceweb_fail_sorts), ("onceweb/fail.values", laid_onceweb_fail_values)] }
def LazyAlongsSaid : Prop := lazyAlongsRow.holds Tryz.pinned (OpenSpec.ofChange lazyAlongsSpec)

/-- ITS FALSE NEIGHBOUR: 'it returns false'. Refute it at one input. -/
def lazyAlongsWrong : ChangeSpec := { name := "lazyAlongs", fn := fun _ => fun
  | [d1, d2] => { results := [.lit (.bool false)], args := [d1, d2] }
  | _ => none }
def LazyAlongsWrongFalsely : Prop := lazyAlongsRow.holds Tryz.pinned (OpenSpec.ofChange lazyAlongsWrong)

/-- 'onceweblaw25.LazyAlones': WHATEVER THE INPUT: true; the input reads as it did. -/
def lazyAlonesSpec : ChangeSpec := { name := "lazyAlones", fn := fun _ => fun
  | [d1, d2] => { results := [.lit (.bool true)], args := [d1, d2] }
  | _ => none }
def lazyAlonesRow : OpenClaim := { program := "ytopifagbbmhgfaagreatdoor", sum := "1e476ed09efd969519e125e9a1c595c97163b275f06cb595a50dad0396424116", func := "onceweb/onceweblaw25.LazyAlones", spec := "lazyAlones", inPlace := ["internal/bytealg.abigen_runtime_cmpstring"], unfollowed := true, recurses := true, named := ["onceweb/lex.keys", "onceweb/fail.sorts", "onceweb/fail.values"], apart := false, laid := [("onceweb/lex.keys", laid_onceweb_lex_keys), ("onceweb/fail.sorts", laid_onceweb_fail_sorts), ("onceweb/fail.values", laid_onceweb_fail_values)] }
def LazyAlonesSaid : Prop := lazyAlonesRow.holds Tryz.pinned (OpenSpec.ofChange lazyAlonesSpec)

/-- ITS FALSE NEIGHBOUR: 'it returns false'. Refute it at one input. -/
def lazyAlonesWrong : ChangeSpec := { name := "lazyAlones", fn := fun _ => fun
  | [d1, d2] => { results := [.lit (.bool false)], args := [d1, d2] }
  | _ => none }
def LazyAlonesWrongFalsely : Prop := lazyAlonesRow.holds Tryz.pinned (OpenSpec.ofChange lazyAlonesWrong)

/-- 'onceweblaw25.LazyGates': WHATEVER THE INPUT: true; the input reads as it did. -/
def lazyGatesSpec : ChangeSpec := { name := "lazyGates", fn := fun _ => fun
  | [d1, d2, d3] => { results := [.lit (.bool true)], args := [d1, d2, d3] }
  | _ => none }
def lazyGatesRow : OpenClaim := { program := "ytopifagbbmhgfaagreatdoor", sum := "1e476ed09efd969519e125e9a1c595c97163b275f06cb595a50dad0396424116", func := "onceweb/onceweblaw25.LazyGates", spec := "lazyGates", inPlace := ["internal/bytealg.abigen_runtime_cmpstring"], unfollowed := true, recurses := true, named := ["onceweb/lex.keys", "onceweb/fail.sorts", "onceweb/fail.values"], apart := false, laid := [("onceweb/lex.keys", laid_onceweb_lex_keys), ("onceweb/fail.sorts", laid_onceweb_fail_sorts), ("onceweb/fail.values", laid_onceweb_fail_values)] }
def LazyGatesSaid : Prop := lazyGatesRow.holds Tryz.pinned (OpenSpec.ofChange lazyGatesSpec)

/-- ITS FALSE NEIGHBOUR: 'it returns false'. Refute it at one input. -/
def lazyGatesWrong : ChangeSpec := { name := "lazyGates", fn := fun _ => fun
  | [d1, d2, d3] => { results := [.lit (.bool false)], args := [d1, d2, d3] }
  | _ => none }
def LazyGatesWrongFalsely : Prop := lazyGatesRow.holds Tryz.pinned (OpenSpec.ofChange lazyGatesWrong)

/-- 'onceweblaw25.LazyOrder': WHATEVER THE INPUT: true; the input reads as it did. -/
def lazyOrderSpec : ChangeSpec := { name := "lazyOrder", fn := fun _ => fun
  | [d1, d2] => { results := [.lit (.bool true)], args := [d1, d2] }
  | _ => none }
def lazyOrderRow : OpenClaim := { program := "ytopifagbbmhgfaagreatdoor", sum := "1e476ed09efd969519e125e9a1c595c97163b275f06cb595a50dad0396424116", func := "onceweb/onceweblaw25.LazyOrder", spec := "lazyOrder", inPlace := ["internal/bytealg.abigen_runtime_cmpstring"], unfollowed := true, recurses := true, named := ["onceweb/lex.keys", "onceweb/fail.sorts", "onceweb/fail.values"], apart := false, laid := [("onceweb/lex.keys", laid_onceweb_lex_keys), ("onceweb/fail.sorts", laid_onceweb_fail_sorts), ("onceweb/fail.values", laid_onceweb_fail_values)] }
def LazyOrderSaid : Prop := lazyOrderRow.holds Tryz.pinned (OpenSpec.ofChange lazyOrderSpec)

/-- ITS FALSE NEIGHBOUR: 'it returns false'. Refute it at one input. -/
def lazyOrderWrong : ChangeSpec := { name := "lazyOrder", fn := fun _ => fun
  | [d1, d2] => { results := [.lit (.bool false)], args := [d1, d2] }
  | _ => none }
def LazyOrderWrongFalsely : Prop := lazyOrderRow.holds Tryz.pinned (OpenSpec.ofChange lazyOrderWrong)

/- THE SECOND FORM. 'bulk': how many values and letters a reading holds, each counted each time it is reached (what is shared counts as often as it is met; a slice's spare places count too). A statement '..UptoSaid' is the law's where the arguments, and the package variables that the reading takes, are together of bulk at most 1048576: NARROWER than '..Said'. Prove '..Said' where nothing that the law and all that it calls make is longer than what came in: it says more and counts as full. Else prove '..UptoSaid'. A law counts once. -/
mutual
def uptoBulk {H : Type} : DataW H → Nat
  | .lit (.string bytes) => bytes.length + 1
  | .lit _ => 1
  | .nil => 1
  | .ptr d => uptoBulk d + 1
  | .slice elems spare => uptoBulkAll elems + uptoBulkAll spare + 1
  | .agg parts => uptoBulkAll parts + 1
  | .iface _ d => uptoBulk d + 1
  | .map entries => uptoBulkEntries entries + 1
  | .held _ => 1
def uptoBulkAll {H : Type} : List (DataW H) → Nat
  | [] => 0
  | d :: r => uptoBulk d + uptoBulkAll r
def uptoBulkEntries {H : Type} : List (Lit × DataW H) → Nat
  | [] => 0
  | x :: r => uptoBulkEntry x + uptoBulkEntries r
def uptoBulkEntry {H : Type} : Lit × DataW H → Nat
  | (.string bytes, d) => bytes.length + uptoBulk d + 1
  | (_, d) => uptoBulk d + 1
 end
def uptoSmall : (H : Type) → List (DataW H) → Bool := fun _ ds => decide (uptoBulkAll ds ≤ 1048576)
def OpenSpec.upto (s : _root_.Go.ChangeSpec) : _root_.Go.OpenSpec := { _root_.Go.OpenSpec.ofChange s with cond := some uptoSmall }

/-- 'onceweblaw08.EvalFolds', WHERE WHAT IT READS IS OF BULK AT MOST 1048576: true; the input reads as it did. -/
def evalFoldsUptoRow : OpenClaim := { program := "ytopifagbbmhgfaagreatdoor", sum := "1e476ed09efd969519e125e9a1c595c97163b275f06cb595a50dad0396424116", func := "onceweb/onceweblaw08.EvalFolds", spec := "evalFolds", inPlace := ["internal/bytealg.abigen_runtime_cmpstring"], unfollowed := true, recurses := true, named := ["onceweb/lex.keys", "onceweb/fail.sorts", "onceweb/fail.values"], apart := false, laid := [("onceweb/lex.keys", laid_onceweb_lex_keys), ("onceweb/fail.sorts", laid_onceweb_fail_sorts), ("onceweb/fail.values", laid_onceweb_fail_values)], narrowed := true }
def EvalFoldsUptoSaid : Prop := evalFoldsUptoRow.holds Tryz.pinned (OpenSpec.upto evalFoldsSpec)

/-- 'onceweblaw08.EvalFolded', WHERE WHAT IT READS IS OF BULK AT MOST 1048576: true; the input reads as it did. -/
def evalFoldedUptoRow : OpenClaim := { program := "ytopifagbbmhgfaagreatdoor", sum := "1e476ed09efd969519e125e9a1c595c97163b275f06cb595a50dad0396424116", func := "onceweb/onceweblaw08.EvalFolded", spec := "evalFolded", inPlace := ["internal/bytealg.abigen_runtime_cmpstring"], unfollowed := true, recurses := true, named := ["onceweb/lex.keys", "onceweb/fail.sorts", "onceweb/fail.values"], apart := false, laid := [("onceweb/lex.keys", laid_onceweb_lex_keys), ("onceweb/fail.sorts", laid_onceweb_fail_sorts), ("onceweb/fail.values", laid_onceweb_fail_values)], narrowed := true }
def EvalFoldedUptoSaid : Prop := evalFoldedUptoRow.holds Tryz.pinned (OpenSpec.upto evalFoldedSpec)

/-- 'onceweblaw10.MachinePlays', WHERE WHAT IT READS IS OF BULK AT MOST 1048576: true; the input reads as it did. -/
def machinePlaysUptoRow : OpenClaim := { program := "ytopifagbbmhgfaagreatdoor", sum := "1e476ed09efd969519e125e9a1c595c97163b275f06cb595a50dad0396424116", func := "onceweb/onceweblaw10.MachinePlays", spec := "machinePlays", inPlace := ["internal/bytealg.abigen_runtime_cmpstring"], unfollowed := true, recurses := true, named := ["onceweb/lex.keys", "onceweb/fail.sorts", "onceweb/fail.values"], apart := false, laid := [("onceweb/lex.keys", laid_onceweb_lex_keys), ("onceweb/fail.sorts", laid_onceweb_fail_sorts), ("onceweb/fail.values", laid_onceweb_fail_values)], narrowed := true }
def MachinePlaysUptoSaid : Prop := machinePlaysUptoRow.holds Tryz.pinned (OpenSpec.upto machinePlaysSpec)

/-- 'onceweblaw10.MachinePieces', WHERE WHAT IT READS IS OF BULK AT MOST 1048576: true; the input reads as it did. -/
def machinePiecesUptoRow : OpenClaim := { program := "ytopifagbbmhgfaagreatdoor", sum := "1e476ed09efd969519e125e9a1c595c97163b275f06cb595a50dad0396424116", func := "onceweb/onceweblaw10.MachinePieces", spec := "machinePieces", inPlace := ["internal/bytealg.abigen_runtime_cmpstring"], unfollowed := true, recurses := true, named := ["onceweb/lex.keys", "onceweb/fail.sorts", "onceweb/fail.values"], apart := false, laid := [("onceweb/lex.keys", laid_onceweb_lex_keys), ("onceweb/fail.sorts", laid_onceweb_fail_sorts), ("onceweb/fail.values", laid_onceweb_fail_values)], narrowed := true }
def MachinePiecesUptoSaid : Prop := machinePiecesUptoRow.holds Tryz.pinned (OpenSpec.upto machinePiecesSpec)

/-- 'onceweblaw10.MachineRuns', WHERE WHAT IT READS IS OF BULK AT MOST 1048576: true; the input reads as it did. -/
def machineRunsUptoRow : OpenClaim := { program := "ytopifagbbmhgfaagreatdoor", sum := "1e476ed09efd969519e125e9a1c595c97163b275f06cb595a50dad0396424116", func := "onceweb/onceweblaw10.MachineRuns", spec := "machineRuns", inPlace := ["internal/bytealg.abigen_runtime_cmpstring"], unfollowed := true, recurses := true, named := ["onceweb/lex.keys", "onceweb/fail.sorts", "onceweb/fail.values"], apart := false, laid := [("onceweb/lex.keys", laid_onceweb_lex_keys), ("onceweb/fail.sorts", laid_onceweb_fail_sorts), ("onceweb/fail.values", laid_onceweb_fail_values)], narrowed := true }
def MachineRunsUptoSaid : Prop := machineRunsUptoRow.holds Tryz.pinned (OpenSpec.upto machineRunsSpec)

/-- 'onceweblaw10.MachineMeans', WHERE WHAT IT READS IS OF BULK AT MOST 1048576: true; the input reads as it did. -/
def machineMeansUptoRow : OpenClaim := { program := "ytopifagbbmhgfaagreatdoor", sum := "1e476ed09efd969519e125e9a1c595c97163b275f06cb595a50dad0396424116", func := "onceweb/onceweblaw10.MachineMeans", spec := "machineMeans", inPlace := ["internal/bytealg.abigen_runtime_cmpstring"], unfollowed := true, recurses := true, named := ["onceweb/lex.keys", "onceweb/fail.sorts", "onceweb/fail.values"], apart := false, laid := [("onceweb/lex.keys", laid_onceweb_lex_keys), ("onceweb/fail.sorts", laid_onceweb_fail_sorts), ("onceweb/fail.values", laid_onceweb_fail_values)], narrowed := true }
def MachineMeansUptoSaid : Prop := machineMeansUptoRow.holds Tryz.pinned (OpenSpec.upto machineMeansSpec)

/-- 'onceweblaw25.LazyLeasts', WHERE WHAT IT READS IS OF BULK AT MOST 1048576: true; the input reads as it did. -/
def lazyLeastsUptoRow : OpenClaim := { program := "ytopifagbbmhgfaagreatdoor", sum := "1e476ed09efd969519e125e9a1c595c97163b275f06cb595a50dad0396424116", func := "onceweb/onceweblaw25.LazyLeasts", spec := "lazyLeasts", inPlace := ["internal/bytealg.abigen_runtime_cmpstring"], unfollowed := true, recurses := true, named := ["onceweb/lex.keys", "onceweb/fail.sorts", "onceweb/fail.values"], apart := false, laid := [("onceweb/lex.keys", laid_onceweb_lex_keys), ("onceweb/fail.sorts", laid_onceweb_fail_sorts), ("onceweb/fail.values", laid_onceweb_fail_values)], narrowed := true }
def LazyLeastsUptoSaid : Prop := lazyLeastsUptoRow.holds Tryz.pinned (OpenSpec.upto lazyLeastsSpec)

/-- 'onceweblaw25.LazyAlongs', WHERE WHAT IT READS IS OF BULK AT MOST 1048576: true; the input reads as it did. -/
def lazyAlongsUptoRow : OpenClaim := { program := "ytopifagbbmhgfaagreatdoor", sum := "1e476ed09efd969519e125e9a1c595c97163b275f06cb595a50dad0396424116", func := "onceweb/onceweblaw25.LazyAlongs", spec := "lazyAlongs", inPlace := ["internal/bytealg.abigen_runtime_cmpstring"], unfollowed := true, recurses := true, named := ["onceweb/lex.keys", "onceweb/fail.sorts", "onceweb/fail.values"], apart := false, laid := [("onceweb/lex.keys", laid_onceweb_lex_keys), ("onceweb/fail.sorts", laid_onceweb_fail_sorts), ("onceweb/fail.values", laid_onceweb_fail_values)], narrowed := true }
def LazyAlongsUptoSaid : Prop := lazyAlongsUptoRow.holds Tryz.pinned (OpenSpec.upto lazyAlongsSpec)

/-- 'onceweblaw25.LazyAlones', WHERE WHAT IT READS IS OF BULK AT MOST 1048576: true; the input reads as it did. -/
def lazyAlonesUptoRow : OpenClaim := { program := "ytopifagbbmhgfaagreatdoor", sum := "1e476ed09efd969519e125e9a1c595c97163b275f06cb595a50dad0396424116", func := "onceweb/onceweblaw25.LazyAlones", spec := "lazyAlones", inPlace := ["internal/bytealg.abigen_runtime_cmpstring"], unfollowed := true, recurses := true, named := ["onceweb/lex.keys", "onceweb/fail.sorts", "onceweb/fail.values"], apart := false, laid := [("onceweb/lex.keys", laid_onceweb_lex_keys), ("onceweb/fail.sorts", laid_onceweb_fail_sorts), ("onceweb/fail.values", laid_onceweb_fail_values)], narrowed := true }
def LazyAlonesUptoSaid : Prop := lazyAlonesUptoRow.holds Tryz.pinned (OpenSpec.upto lazyAlonesSpec)

/-- 'onceweblaw25.LazyGates', WHERE WHAT IT READS IS OF BULK AT MOST 1048576: true; the input reads as it did. -/
def lazyGatesUptoRow : OpenClaim := { program := "ytopifagbbmhgfaagreatdoor", sum := "1e476ed09efd969519e125e9a1c595c97163b275f06cb595a50dad0396424116", func := "onceweb/onceweblaw25.LazyGates", spec := "lazyGates", inPlace := ["internal/bytealg.abigen_runtime_cmpstring"], unfollowed := true, recurses := true, named := ["onceweb/lex.keys", "onceweb/fail.sorts", "onceweb/fail.values"], apart := false, laid := [("onceweb/lex.keys", laid_onceweb_lex_keys), ("onceweb/fail.sorts", laid_onceweb_fail_sorts), ("onceweb/fail.values", laid_onceweb_fail_values)], narrowed := true }
def LazyGatesUptoSaid : Prop := lazyGatesUptoRow.holds Tryz.pinned (OpenSpec.upto lazyGatesSpec)

/-- 'onceweblaw25.LazyOrder', WHERE WHAT IT READS IS OF BULK AT MOST 1048576: true; the input reads as it did. -/
def lazyOrderUptoRow : OpenClaim := { program := "ytopifagbbmhgfaagreatdoor", sum := "1e476ed09efd969519e125e9a1c595c97163b275f06cb595a50dad0396424116", func := "onceweb/onceweblaw25.LazyOrder", spec := "lazyOrder", inPlace := ["internal/bytealg.abigen_runtime_cmpstring"], unfollowed := true, recurses := true, named := ["onceweb/lex.keys", "onceweb/fail.sorts", "onceweb/fail.values"], apart := false, laid := [("onceweb/lex.keys", laid_onceweb_lex_keys), ("onceweb/fail.sorts", laid_onceweb_fail_sorts), ("onceweb/fail.values", laid_onceweb_fail_values)], narrowed := true }
def LazyOrderUptoSaid : Prop := lazyOrderUptoRow.holds Tryz.pinned (OpenSpec.upto lazyOrderSpec)

end Rows
end Go.Proofs.YtopifagbbmhgfaaGreatDoor
