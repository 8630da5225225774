/-
  NARROWER THAN 'FOR EVERY INPUT', by the rows' own cells (each row's printed sentence says how): LazyResolves: laid · AuditChecks: laid · AuditFronts: laid · AuditTwice: laid · AuditLacks: laid · EvalUnasked: laid · EvalGates: laid · EvalLiterals: laid.
  DERIVED. THE GIVEN ROWS OF THIS SEAT. 8 by the template 'for every input the law returns true; each argument reads behind the call as it read before'; 0 by the template 'total and deterministic' (their statements: YtikcopbjconkfaaDoorTotals.lean).
  GIVEN WITH THE SEED: the statements are not yours to turn. If you find one false, say at which input.
  Laid BY PROGRAM, IN A SANDBOX (cutbox-rows.mjs): the forced cells as the released guide's own fill.sh prints them over the translation 0f450d3b6d716293… (all of the seat's roots in one cut). By AI agents, Wed Nov 11 2026. No macro, syntax, notation, axiom, sorry.
-/
import Derived.Test.YtikcopbjconkfaaDoorChecked
import GoSem.Claim
import GoSem.ClaimJoined
import GoSem.ClaimMapViews
import Derived.JoinedTies
import Derived.KernelRfl
namespace Go.Proofs.YtikcopbjconkfaaDoor
/- THE CELL 'sum', in the pinned program and in every row, IS THE sha256 OF THE DUMP (.gsa) THAT YtikcopbjconkfaaDoorProg.lean LOADS. Nothing in Lean hashes anything: it is a label: what it is worth is what the hold of that sum in a sandbox is worth. -/
noncomputable def Tryd.pinned : Pinned := { name := "ytikcopbjconkfaadoor", sum := "0f450d3b6d716293d00b4527991676ce48ed51f195f390c8da336d95b8575b44", checked := Tryd.checked }
namespace Rows
def none {H : Type} : Left H := { results := [], args := [] }

/- WHAT THE LISTED PACKAGE-LEVEL VARIABLES READ AS WHEN THE CALL BEGINS. Each datum BY PROGRAM (the guide's laid-datum.mjs) off the statement by which the dump's own 'gosem.cut.vars' lays the variable. In a bare row this is a premise. The card (YtikcopbjconkfaaDoorCards.lean) ties it to the program's text. -/
def laid_onceweb_lex_keys {H : Type} : DataW H := .agg [.lit (.string [99, 101, 108, 108]), .lit (.string [97, 103, 97, 105, 110]), .lit (.string [116, 114, 105, 101, 115]), .lit (.string [98, 97, 115, 101]), .lit (.string [102, 97, 99, 116, 111, 114]), .lit (.string [99, 97, 112]), .lit (.string [99, 108, 111, 115, 101]), .lit (.string [102, 105, 110, 101]), .lit (.string [102, 97, 105, 108]), .lit (.string [112, 97, 110, 105, 99]), .lit (.string [105, 102]), .lit (.string [116, 104, 101, 110]), .lit (.string [101, 108, 115, 101]), .lit (.string [116, 114, 121]), .lit (.string [119, 97, 105, 116]), .lit (.string [108, 101, 116]), .lit (.string [105, 110]), .lit (.string [105, 116, 101, 109]), .lit (.string [115, 105, 122, 101])]
def laid_onceweb_fail_sorts {H : Type} : DataW H := .agg [.lit (.int .i64 0), .lit (.int .i64 1), .lit (.int .i64 1), .lit (.int .i64 1), .lit (.int .i64 1), .lit (.int .i64 1), .lit (.int .i64 1), .lit (.int .i64 1), .lit (.int .i64 2), .lit (.int .i64 3), .lit (.int .i64 4), .lit (.int .i64 1)]
def laid_onceweb_fail_values {H : Type} : DataW H := .agg [.lit (.string [108, 105, 115, 116]), .lit (.string [97, 100, 100]), .lit (.string [115, 117, 98]), .lit (.string [109, 117, 108]), .lit (.string [106, 111, 105, 110]), .lit (.string [105, 116, 101, 109]), .lit (.string [115, 105, 122, 101]), .lit (.string [105, 102]), .lit (.string [102, 97, 105, 108]), .lit (.string [112, 97, 110, 105, 99])]

/-- 'onceweblaw25.LazyResolves': WHATEVER THE INPUT: true; the input reads as it did. -/
def lazyResolvesSpec : ChangeSpec := { name := "lazyResolves", fn := fun _ => fun
  | [d1, d2, d3, d4] => { results := [.lit (.bool true)], args := [d1, d2, d3, d4] }
  | _ => none }
def lazyResolvesRow : OpenClaim := { program := "ytikcopbjconkfaadoor", sum := "0f450d3b6d716293d00b4527991676ce48ed51f195f390c8da336d95b8575b44", func := "onceweb/onceweblaw25.LazyResolves", spec := "lazyResolves", unfollowed := true, recurses := true, named := ["onceweb/lex.keys"], plainKeys := false, apart := false, laid := [("onceweb/lex.keys", laid_onceweb_lex_keys)] }
def LazyResolvesSaid : Prop := lazyResolvesRow.holds Tryd.pinned (OpenSpec.ofChange lazyResolvesSpec)

/-- ITS FALSE NEIGHBOUR: 'it returns false'. Refute it at one input. -/
def lazyResolvesWrong : ChangeSpec := { name := "lazyResolves", fn := fun _ => fun
  | [d1, d2, d3, d4] => { results := [.lit (.bool false)], args := [d1, d2, d3, d4] }
  | _ => none }
def LazyResolvesWrongFalsely : Prop := lazyResolvesRow.holds Tryd.pinned (OpenSpec.ofChange lazyResolvesWrong)

/-- 'onceweblaw26.AuditChecks': WHATEVER THE INPUT: true; the input reads as it did. -/
def auditChecksSpec : ChangeSpec := { name := "auditChecks", fn := fun _ => fun
  | [d] => { results := [.lit (.bool true)], args := [d] }
  | _ => none }
def auditChecksRow : OpenClaim := { program := "ytikcopbjconkfaadoor", sum := "0f450d3b6d716293d00b4527991676ce48ed51f195f390c8da336d95b8575b44", func := "onceweb/onceweblaw26.AuditChecks", spec := "auditChecks", unfollowed := true, recurses := true, named := ["onceweb/lex.keys", "onceweb/fail.sorts", "onceweb/fail.values"], plainKeys := false, apart := false, laid := [("onceweb/lex.keys", laid_onceweb_lex_keys), ("onceweb/fail.sorts", laid_onceweb_fail_sorts), ("onceweb/fail.values", laid_onceweb_fail_values)] }
def AuditChecksSaid : Prop := auditChecksRow.holds Tryd.pinned (OpenSpec.ofChange auditChecksSpec)

/-- ITS FALSE NEIGHBOUR: 'it returns false'. Refute it at one input. -/
def auditChecksWrong : ChangeSpec := { name := "auditChecks", fn := fun _ => fun
  | [d] => { results := [.lit (.bool false)], args := [d] }
  | _ => none }
def AuditChecksWrongFalsely : Prop := auditChecksRow.holds Tryd.pinned (OpenSpec.ofChange auditChecksWrong)

/-- 'onceweblaw26.AuditFronts': WHATEVER THE INPUT: true; the input reads as it did. -/
def auditFrontsSpec : ChangeSpec := { name := "auditFronts", fn := fun _ => fun
  | [d1, d2] => { results := [.lit (.bool true)], args := [d1, d2] }
  | _ => none }
def auditFrontsRow : OpenClaim := { program := "ytikcopbjconkfaadoor", sum := "0f450d3b6d716293d00b4527991676ce48ed51f195f390c8da336d95b8575b44", func := "onceweb/onceweblaw26.AuditFronts", spec := "auditFronts", unfollowed := true, recurses := true, named := ["onceweb/lex.keys", "onceweb/fail.sorts", "onceweb/fail.values"], plainKeys := false, apart := false, laid := [("onceweb/lex.keys", laid_onceweb_lex_keys), ("onceweb/fail.sorts", laid_onceweb_fail_sorts), ("onceweb/fail.values", laid_onceweb_fail_values)] }
def AuditFrontsSaid : Prop := auditFrontsRow.holds Tryd.pinned (OpenSpec.ofChange auditFrontsSpec)

/-- ITS FALSE NEIGHBOUR: 'it returns false'. Refute it at one input. -/
def auditFrontsWrong : ChangeSpec := { name := "auditFronts", fn := fun _ => fun
  | [d1, d2] => { results := [.lit (.bool false)], args := [d1, d2] }
  | _ => none }
def AuditFrontsWrongFalsely : Prop := auditFrontsRow.holds Tryd.pinned (OpenSpec.ofChange auditFrontsWrong)

/-- 'onceweblaw26.AuditTwice': WHATEVER THE INPUT: true; the input reads as it did. -/
def auditTwiceSpec : ChangeSpec := { name := "auditTwice", fn := fun _ => fun
  | [d1, d2, d3] => { results := [.lit (.bool true)], args := [d1, d2, d3] }
  | _ => none }
def auditTwiceRow : OpenClaim := { program := "ytikcopbjconkfaadoor", sum := "0f450d3b6d716293d00b4527991676ce48ed51f195f390c8da336d95b8575b44", func := "onceweb/onceweblaw26.AuditTwice", spec := "auditTwice", unfollowed := true, recurses := true, named := ["onceweb/lex.keys", "onceweb/fail.sorts", "onceweb/fail.values"], plainKeys := false, apart := false, laid := [("onceweb/lex.keys", laid_onceweb_lex_keys), ("onceweb/fail.sorts", laid_onceweb_fail_sorts), ("onceweb/fail.values", laid_onceweb_fail_values)] }
def AuditTwiceSaid : Prop := auditTwiceRow.holds Tryd.pinned (OpenSpec.ofChange auditTwiceSpec)

/-- ITS FALSE NEIGHBOUR: 'it returns false'. Refute it at one input. -/
def auditTwiceWrong : ChangeSpec := { name := "auditTwice", fn := fun _ => fun
  | [d1, d2, d3] => { results := [.lit (.bool false)], args := [d1, d2, d3] }
  | _ => none }
def AuditTwiceWrongFalsely : Prop := auditTwiceRow.holds Tryd.pinned (OpenSpec.ofChange auditTwiceWrong)

/-- 'onceweblaw26.AuditLacks': WHATEVER THE INPUT: true; the input reads as it did. -/
def auditLacksSpec : ChangeSpec := { name := "auditLacks", fn := fun _ => fun
  | [d1, d2] => { results := [.lit (.bool true)], args := [d1, d2] }
  | _ => none }
def auditLacksRow : OpenClaim := { program := "ytikcopbjconkfaadoor", sum := "0f450d3b6d716293d00b4527991676ce48ed51f195f390c8da336d95b8575b44", func := "onceweb/onceweblaw26.AuditLacks", spec := "auditLacks", unfollowed := true, recurses := true, named := ["onceweb/lex.keys", "onceweb/fail.sorts", "onceweb/fail.values"], plainKeys := false, apart := false, laid := [("onceweb/lex.keys", laid_onceweb_lex_keys), ("onceweb/fail.sorts", laid_onceweb_fail_sorts), ("onceweb/fail.values", laid_onceweb_fail_values)] }
def AuditLacksSaid : Prop := auditLacksRow.holds Tryd.pinned (OpenSpec.ofChange auditLacksSpec)

/-- ITS FALSE NEIGHBOUR: 'it returns false'. Refute it at one input. -/
def auditLacksWrong : ChangeSpec := { name := "auditLacks", fn := fun _ => fun
  | [d1, d2] => { results := [.lit (.bool false)], args := [d1, d2] }
  | _ => none }
def AuditLacksWrongFalsely : Prop := auditLacksRow.holds Tryd.pinned (OpenSpec.ofChange auditLacksWrong)

/-- 'onceweblaw08.EvalUnasked': WHATEVER THE INPUT: true; the input reads as it did. -/
def evalUnaskedSpec : ChangeSpec := { name := "evalUnasked", fn := fun _ => fun
  | [d1, d2, d3, d4] => { results := [.lit (.bool true)], args := [d1, d2, d3, d4] }
  | _ => none }
def evalUnaskedRow : OpenClaim := { program := "ytikcopbjconkfaadoor", sum := "0f450d3b6d716293d00b4527991676ce48ed51f195f390c8da336d95b8575b44", func := "onceweb/onceweblaw08.EvalUnasked", spec := "evalUnasked", inPlace := ["internal/bytealg.abigen_runtime_cmpstring"], unfollowed := true, recurses := true, named := ["onceweb/lex.keys", "onceweb/fail.sorts", "onceweb/fail.values"], plainKeys := false, apart := false, laid := [("onceweb/lex.keys", laid_onceweb_lex_keys), ("onceweb/fail.sorts", laid_onceweb_fail_sorts), ("onceweb/fail.values", laid_onceweb_fail_values)] }
def EvalUnaskedSaid : Prop := evalUnaskedRow.holds Tryd.pinned (OpenSpec.ofChange evalUnaskedSpec)

/-- ITS FALSE NEIGHBOUR: 'it returns false'. Refute it at one input. -/
def evalUnaskedWrong : ChangeSpec := { name := "evalUnasked", fn := fun _ => fun
  | [d1, d2, d3, d4] => { results := [.lit (.bool false)], args := [d1, d2, d3, d4] }
  | _ => none }
def EvalUnaskedWrongFalsely : Prop := evalUnaskedRow.holds Tryd.pinned (OpenSpec.ofChange evalUnaskedWrong)

/-- 'onceweblaw08.EvalGates': WHATEVER THE INPUT: true; the input reads as it did. -/
def evalGatesSpec : ChangeSpec := { name := "evalGates", fn := fun _ => fun
  | [d1, d2, d3, d4] => { results := [.lit (.bool true)], args := [d1, d2, d3, d4] }
  | _ => none }
def evalGatesRow : OpenClaim := { program := "ytikcopbjconkfaadoor", sum := "0f450d3b6d716293d00b4527991676ce48ed51f195f390c8da336d95b8575b44", func := "onceweb/onceweblaw08.EvalGates", spec := "evalGates", inPlace := ["internal/bytealg.abigen_runtime_cmpstring"], unfollowed := true, recurses := true, named := ["onceweb/lex.keys", "onceweb/fail.sorts", "onceweb/fail.values"], plainKeys := false, apart := false, laid := [("onceweb/lex.keys", laid_onceweb_lex_keys), ("onceweb/fail.sorts", laid_onceweb_fail_sorts), ("onceweb/fail.values", laid_onceweb_fail_values)] }
def EvalGatesSaid : Prop := evalGatesRow.holds Tryd.pinned (OpenSpec.ofChange evalGatesSpec)

/-- ITS FALSE NEIGHBOUR: 'it returns false'. Refute it at one input. -/
def evalGatesWrong : ChangeSpec := { name := "evalGates", fn := fun _ => fun
  | [d1, d2, d3, d4] => { results := [.lit (.bool false)], args := [d1, d2, d3, d4] }
  | _ => none }
def EvalGatesWrongFalsely : Prop := evalGatesRow.holds Tryd.pinned (OpenSpec.ofChange evalGatesWrong)

/-- 'onceweblaw08.EvalLiterals': WHATEVER THE INPUT: true; the input reads as it did. -/
def evalLiteralsSpec : ChangeSpec := { name := "evalLiterals", fn := fun _ => fun
  | [d] => { results := [.lit (.bool true)], args := [d] }
  | _ => none }
def evalLiteralsRow : OpenClaim := { program := "ytikcopbjconkfaadoor", sum := "0f450d3b6d716293d00b4527991676ce48ed51f195f390c8da336d95b8575b44", func := "onceweb/onceweblaw08.EvalLiterals", spec := "evalLiterals", inPlace := ["internal/bytealg.abigen_runtime_cmpstring"], unfollowed := true, recurses := true, named := ["onceweb/lex.keys", "onceweb/fail.sorts", "onceweb/fail.values"], plainKeys := false, apart := false, laid := [("onceweb/lex.keys", laid_onceweb_lex_keys), ("onceweb/fail.sorts", laid_onceweb_fail_sorts), ("onceweb/fail.values", laid_onceweb_fail_values)] }
def EvalLiteralsSaid : Prop := evalLiteralsRow.holds Tryd.pinned (OpenSpec.ofChange evalLiteralsSpec)

/-- ITS FALSE NEIGHBOUR: 'it returns false'. Refute it at one input. -/
def evalLiteralsWrong : ChangeSpec := { name := "evalLiterals", fn := fun _ => fun
  | [d] => { results := [.lit (.bool false)], args := [d] }
  | _ => none }
def EvalLiteralsWrongFalsely : Prop := evalLiteralsRow.holds Tryd.pinned (OpenSpec.ofChange evalLiteralsWrong)

/- THE SECOND FORM. 'bulk': how many values and letters a reading holds, each counted each time it is reached (what is shared counts as often as it is met; a slice's spare places count too). A statement '..UptoSaid' is the law's where the arguments, and the package variables that the reading takes, are together of bulk at most 1048576: NARROWER than '..Said'. Prove '..Said' where nothing that the law and all that it calls make is longer than what came in: it says more and counts as full. Else prove '..UptoSaid'. A law counts once. -/
mutual
def uptoBulk {H : Type} : DataW H → Nat
  | .lit (.string bytes) => bytes.length + 1
  | .lit _ => 1
  | .nil => 1
  | .ptr d => uptoBulk d + 1
  | .slice elems spare => uptoBulkAll elems + uptoBulkAll spare + 1
  | .agg parts => uptoBulkAll parts + 1
  | .iface _ d => uptoBulk d + 1
  | .map entries => uptoBulkEntries entries + 1
  | .held _ => 1
def uptoBulkAll {H : Type} : List (DataW H) → Nat
  | [] => 0
  | d :: r => uptoBulk d + uptoBulkAll r
def uptoBulkEntries {H : Type} : List (Lit × DataW H) → Nat
  | [] => 0
  | x :: r => uptoBulkEntry x + uptoBulkEntries r
def uptoBulkEntry {H : Type} : Lit × DataW H → Nat
  | (.string bytes, d) => bytes.length + uptoBulk d + 1
  | (_, d) => uptoBulk d + 1
 end
def uptoSmall : (H : Type) → List (DataW H) → Bool := fun _ ds => decide (uptoBulkAll ds ≤ 1048576)
def OpenSpec.upto (s : _root_.Go.ChangeSpec) : _root_.Go.OpenSpec := { _root_.Go.OpenSpec.ofChange s with cond := some uptoSmall }

/-- 'onceweblaw25.LazyResolves', WHERE WHAT IT READS IS OF BULK AT MOST 1048576: true; the input reads as it did. -/
def lazyResolvesUptoRow : OpenClaim := { program := "ytikcopbjconkfaadoor", sum := "0f450d3b6d716293d00b4527991676ce48ed51f195f390c8da336d95b8575b44", func := "onceweb/onceweblaw25.LazyResolves", spec := "lazyResolves", unfollowed := true, recurses := true, named := ["onceweb/lex.keys"], plainKeys := false, apart := false, laid := [("onceweb/lex.keys", laid_onceweb_lex_keys)], narrowed := true }
def LazyResolvesUptoSaid : Prop := lazyResolvesUptoRow.holds Tryd.pinned (OpenSpec.upto lazyResolvesSpec)

/-- 'onceweblaw26.AuditChecks', WHERE WHAT IT READS IS OF BULK AT MOST 1048576: true; the input reads as it did. -/
def auditChecksUptoRow : OpenClaim := { program := "ytikcopbjconkfaadoor", sum := "0f450d3b6d716293d00b4527991676ce48ed51f195f390c8da336d95b8575b44", func := "onceweb/onceweblaw26.AuditChecks", spec := "auditChecks", unfollowed := true, recurses := true, named := ["onceweb/lex.keys", "onceweb/fail.sorts", "onceweb/fail.values"], plainKeys := false, apart := false, laid := [("onceweb/lex.keys", laid_onceweb_lex_keys), ("onceweb/fail.sorts", laid_onceweb_fail_sorts), ("onceweb/fail.values", laid_onceweb_fail_values)], narrowed := true }
def AuditChecksUptoSaid : Prop := auditChecksUptoRow.holds Tryd.pinned (OpenSpec.upto auditChecksSpec)

/-- 'onceweblaw26.AuditFronts', WHERE WHAT IT READS IS OF BULK AT MOST 1048576: true; the input reads as it did. -/
def auditFrontsUptoRow : OpenClaim := { program := "ytikcopbjconkfaadoor", sum := "0f450d3b6d716293d00b4527991676ce48ed51f195f390c8da336d95b8575b44", func := "onceweb/onceweblaw26.AuditFronts", spec := "auditFronts", unfollowed := true, recurses := true, named := ["onceweb/lex.keys", "onceweb/fail.sorts", "onceweb/fail.values"], plainKeys := false, apart := false, laid := [("onceweb/lex.keys", laid_onceweb_lex_keys), ("onceweb/fail.sorts", laid_onceweb_fail_sorts), ("onceweb/fail.values", laid_onceweb_fail_values)], narrowed := true }
def AuditFrontsUptoSaid : Prop := auditFrontsUptoRow.holds Tryd.pinned (OpenSpec.upto auditFrontsSpec)

/-- 'onceweblaw26.AuditTwice', WHERE WHAT IT READS IS OF BULK AT MOST 1048576: true; the input reads as it did. -/
def auditTwiceUptoRow : OpenClaim := { program := "ytikcopbjconkfaadoor", sum := "0f450d3b6d716293d00b4527991676ce48ed51f195f390c8da336d95b8575b44", func := "onceweb/onceweblaw26.AuditTwice", spec := "auditTwice", unfollowed := true, recurses := true, named := ["onceweb/lex.keys", "onceweb/fail.sorts", "onceweb/fail.values"], plainKeys := false, apart := false, laid := [("onceweb/lex.keys", laid_onceweb_lex_keys), ("onceweb/fail.sorts", laid_onceweb_fail_sorts), ("onceweb/fail.values", laid_onceweb_fail_values)], narrowed := true }
def AuditTwiceUptoSaid : Prop := auditTwiceUptoRow.holds Tryd.pinned (OpenSpec.upto auditTwiceSpec)

/-- 'onceweblaw26.AuditLacks', WHERE WHAT IT READS IS OF BULK AT MOST 1048576: true; the input reads as it did. -/
def auditLacksUptoRow : OpenClaim := { program := "ytikcopbjconkfaadoor", sum := "0f450d3b6d716293d00b4527991676ce48ed51f195f390c8da336d95b8575b44", func := "onceweb/onceweblaw26.AuditLacks", spec := "auditLacks", unfollowed := true, recurses := true, named := ["onceweb/lex.keys", "onceweb/fail.sorts", "onceweb/fail.values"], plainKeys := false, apart := false, laid := [("onceweb/lex.keys", laid_onceweb_lex_keys), ("onceweb/fail.sorts", laid_onceweb_fail_sorts), ("onceweb/fail.values", laid_onceweb_fail_values)], narrowed := true }
def AuditLacksUptoSaid : Prop := auditLacksUptoRow.holds Tryd.pinned (OpenSpec.upto auditLacksSpec)

/-- 'onceweblaw08.EvalUnasked', WHERE WHAT IT READS IS OF BULK AT MOST 1048576: true; the input reads as it did. -/
def evalUnaskedUptoRow : OpenClaim := { program := "ytikcopbjconkfaadoor", sum := "0f450d3b6d716293d00b4527991676ce48ed51f195f390c8da336d95b8575b44", func := "onceweb/onceweblaw08.EvalUnasked", spec := "evalUnasked", inPlace := ["internal/bytealg.abigen_runtime_cmpstring"], unfollowed := true, recurses := true, named := ["onceweb/lex.keys", "onceweb/fail.sorts", "onceweb/fail.values"], plainKeys := false, apart := false, laid := [("onceweb/lex.keys", laid_onceweb_lex_keys), ("onceweb/fail.sorts", laid_onceweb_fail_sorts), ("onceweb/fail.values", laid_onceweb_fail_values)], narrowed := true }
def EvalUnaskedUptoSaid : Prop := evalUnaskedUptoRow.holds Tryd.pinned (OpenSpec.upto evalUnaskedSpec)

/-- 'onceweblaw08.EvalGates', WHERE WHAT IT READS IS OF BULK AT MOST 1048576: true; the input reads as it did. -/
def evalGatesUptoRow : OpenClaim := { program := "ytikcopbjconkfaadoor", sum := "0f450d3b6d716293d00b4527991676ce48ed51f195f390c8da336d95b8575b44", func := "onceweb/onceweblaw08.EvalGates", spec := "evalGates", inPlace := ["internal/bytealg.abigen_runtime_cmpstring"], unfollowed := true, recurses := true, named := ["onceweb/lex.keys", "onceweb/fail.sorts", "onceweb/fail.values"], plainKeys := false, apart := false, laid := [("onceweb/lex.keys", laid_onceweb_lex_keys), ("onceweb/fail.sorts", laid_onceweb_fail_sorts), ("onceweb/fail.values", laid_onceweb_fail_values)], narrowed := true }
def EvalGatesUptoSaid : Prop := evalGatesUptoRow.holds Tryd.pinned (OpenSpec.upto evalGatesSpec)

/-- 'onceweblaw08.EvalLiterals', WHERE WHAT IT READS IS OF BULK AT MOST 1048576: true; the input reads as it did. -/
def evalLiteralsUptoRow : OpenClaim := { program := "ytikcopbjconkfaadoor", sum := "0f450d3b6d716293d00b4527991676ce48ed51f195f390c8da336d95b8575b44", func := "onceweb/onceweblaw08.EvalLiterals", spec := "evalLiterals", inPlace := ["internal/bytealg.abigen_runtime_cmpstring"], unfollowed := true, recurses := true, named := ["onceweb/lex.keys", "onceweb/fail.sorts", "onceweb/fail.values"], plainKeys := false, apart := false, laid := [("onceweb/lex.keys", laid_onceweb_lex_keys), ("onceweb/fail.sorts", laid_onceweb_fail_sorts), ("onceweb/fail.values", laid_onceweb_fail_values)], narrowed := true }
def EvalLiteralsUptoSaid : Prop := evalLiteralsUptoRow.holds Tryd.pinned (OpenSpec.upto evalLiteralsSpec)

end Rows
end Go.Proofs.YtikcopbjconkfaaDoor
