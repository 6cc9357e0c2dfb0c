/-
  NARROWER THAN 'FOR EVERY INPUT', by the rows' own cells (each row's printed sentence says how): ModuleModules: loops, laid · ModuleGrows: loops, laid · ModuleLocal: loops, laid · ModuleShapes: loops, laid.
  DERIVED. THE GIVEN ROWS OF THIS SEAT. 4 by the template 'for every input the law returns true; each argument reads behind the call as it read before'; 0 by the template 'total and deterministic' (their statements: YtcbcdlajnmkioaaGreatDoorTotals.lean).
  GIVEN WITH THE SEED: the statements are not yours to turn. If you find one false, say at which input.
  Laid BY PROGRAM, IN A SANDBOX (cutbox-rows.mjs): the forced cells as the released guide's own fill.sh prints them over the translation 6fbb124a4232b84d… (all of the seat's roots in one cut). By AI agents, Wed Nov 11 2026. No macro, syntax, notation, axiom, sorry.
-/
import Derived.Test.YtcbcdlajnmkioaaGreatDoorChecked
import GoSem.Claim
import GoSem.ClaimJoined
import GoSem.ClaimMapViews
import Derived.JoinedTies
import Derived.KernelRfl
namespace Go.Proofs.YtcbcdlajnmkioaaGreatDoor
/- THE CELL 'sum', in the pinned program and in every row, IS THE sha256 OF THE DUMP (.gsa) THAT YtcbcdlajnmkioaaGreatDoorProg.lean LOADS. Nothing in Lean hashes anything: it is a label: what it is worth is what the hold of that sum in a sandbox is worth. -/
noncomputable def Tryz.pinned : Pinned := { name := "ytcbcdlajnmkioaagreatdoor", sum := "6fbb124a4232b84df0e8cf5bd73c582592166dce47e359630cf53991760f8581", checked := Tryz.checked }
namespace Rows
def none {H : Type} : Left H := { results := [], args := [] }

/- WHAT THE LISTED PACKAGE-LEVEL VARIABLES READ AS WHEN THE CALL BEGINS. Each datum BY PROGRAM (the guide's laid-datum.mjs) off the statement by which the dump's own 'gosem.cut.vars' lays the variable. In a bare row this is a premise. The card (YtcbcdlajnmkioaaGreatDoorCards.lean) ties it to the program's text. -/
def laid_isagoge_concept_args {H : Type} : DataW H := .agg [.lit (.int .i64 0), .lit (.int .i64 0), .lit (.int .i64 0), .lit (.int .i64 1), .lit (.int .i64 2), .lit (.int .i64 2), .lit (.int .i64 1), .lit (.int .i64 1)]

/-- 'isagogelaw19.ModuleModules': WHATEVER THE INPUT: true; the input reads as it did. -/
def moduleModulesSpec : ChangeSpec := { name := "moduleModules", fn := fun _ => fun
  | [d1, d2, d3] => { results := [.lit (.bool true)], args := [d1, d2, d3] }
  | _ => none }
def moduleModulesRow : OpenClaim := { program := "ytcbcdlajnmkioaagreatdoor", sum := "6fbb124a4232b84df0e8cf5bd73c582592166dce47e359630cf53991760f8581", func := "isagoge/isagogelaw19.ModuleModules", spec := "moduleModules", inPlace := ["internal/bytealg.IndexByteString", "internal/bytealg.IndexString"], unfollowed := true, recurses := true, named := ["internal/bytealg.MaxLen", "isagoge/concept.args"], loops := true, apart := false, laid := [("isagoge/concept.args", laid_isagoge_concept_args)] }
def ModuleModulesSaid : Prop := moduleModulesRow.holds Tryz.pinned (OpenSpec.ofChange moduleModulesSpec)

/-- ITS FALSE NEIGHBOUR: 'it returns false'. Refute it at one input. -/
def moduleModulesWrong : ChangeSpec := { name := "moduleModules", fn := fun _ => fun
  | [d1, d2, d3] => { results := [.lit (.bool false)], args := [d1, d2, d3] }
  | _ => none }
def ModuleModulesWrongFalsely : Prop := moduleModulesRow.holds Tryz.pinned (OpenSpec.ofChange moduleModulesWrong)

/-- 'isagogelaw19.ModuleGrows': WHATEVER THE INPUT: true; the input reads as it did. -/
def moduleGrowsSpec : ChangeSpec := { name := "moduleGrows", fn := fun _ => fun
  | [d1, d2, d3, d4] => { results := [.lit (.bool true)], args := [d1, d2, d3, d4] }
  | _ => none }
def moduleGrowsRow : OpenClaim := { program := "ytcbcdlajnmkioaagreatdoor", sum := "6fbb124a4232b84df0e8cf5bd73c582592166dce47e359630cf53991760f8581", func := "isagoge/isagogelaw19.ModuleGrows", spec := "moduleGrows", inPlace := ["internal/bytealg.IndexByteString", "internal/bytealg.IndexString"], unfollowed := true, recurses := true, named := ["internal/bytealg.MaxLen", "isagoge/concept.args"], loops := true, apart := false, laid := [("isagoge/concept.args", laid_isagoge_concept_args)] }
def ModuleGrowsSaid : Prop := moduleGrowsRow.holds Tryz.pinned (OpenSpec.ofChange moduleGrowsSpec)

/-- ITS FALSE NEIGHBOUR: 'it returns false'. Refute it at one input. -/
def moduleGrowsWrong : ChangeSpec := { name := "moduleGrows", fn := fun _ => fun
  | [d1, d2, d3, d4] => { results := [.lit (.bool false)], args := [d1, d2, d3, d4] }
  | _ => none }
def ModuleGrowsWrongFalsely : Prop := moduleGrowsRow.holds Tryz.pinned (OpenSpec.ofChange moduleGrowsWrong)

/-- 'isagogelaw19.ModuleLocal': WHATEVER THE INPUT: true; the input reads as it did. -/
def moduleLocalSpec : ChangeSpec := { name := "moduleLocal", fn := fun _ => fun
  | [d1, d2, d3, d4, d5] => { results := [.lit (.bool true)], args := [d1, d2, d3, d4, d5] }
  | _ => none }
def moduleLocalRow : OpenClaim := { program := "ytcbcdlajnmkioaagreatdoor", sum := "6fbb124a4232b84df0e8cf5bd73c582592166dce47e359630cf53991760f8581", func := "isagoge/isagogelaw19.ModuleLocal", spec := "moduleLocal", inPlace := ["internal/bytealg.IndexByteString", "internal/bytealg.IndexString"], unfollowed := true, recurses := true, named := ["internal/bytealg.MaxLen", "isagoge/concept.args"], loops := true, apart := false, laid := [("isagoge/concept.args", laid_isagoge_concept_args)] }
def ModuleLocalSaid : Prop := moduleLocalRow.holds Tryz.pinned (OpenSpec.ofChange moduleLocalSpec)

/-- ITS FALSE NEIGHBOUR: 'it returns false'. Refute it at one input. -/
def moduleLocalWrong : ChangeSpec := { name := "moduleLocal", fn := fun _ => fun
  | [d1, d2, d3, d4, d5] => { results := [.lit (.bool false)], args := [d1, d2, d3, d4, d5] }
  | _ => none }
def ModuleLocalWrongFalsely : Prop := moduleLocalRow.holds Tryz.pinned (OpenSpec.ofChange moduleLocalWrong)

/-- 'isagogelaw19.ModuleShapes': WHATEVER THE INPUT: true; the input reads as it did. -/
def moduleShapesSpec : ChangeSpec := { name := "moduleShapes", fn := fun _ => fun
  | [d1, d2, d3, d4, d5, d6] => { results := [.lit (.bool true)], args := [d1, d2, d3, d4, d5, d6] }
  | _ => none }
def moduleShapesRow : OpenClaim := { program := "ytcbcdlajnmkioaagreatdoor", sum := "6fbb124a4232b84df0e8cf5bd73c582592166dce47e359630cf53991760f8581", func := "isagoge/isagogelaw19.ModuleShapes", spec := "moduleShapes", inPlace := ["internal/bytealg.IndexByteString", "internal/bytealg.IndexString"], unfollowed := true, recurses := true, named := ["internal/bytealg.MaxLen", "isagoge/concept.args"], loops := true, apart := false, laid := [("isagoge/concept.args", laid_isagoge_concept_args)] }
def ModuleShapesSaid : Prop := moduleShapesRow.holds Tryz.pinned (OpenSpec.ofChange moduleShapesSpec)

/-- ITS FALSE NEIGHBOUR: 'it returns false'. Refute it at one input. -/
def moduleShapesWrong : ChangeSpec := { name := "moduleShapes", fn := fun _ => fun
  | [d1, d2, d3, d4, d5, d6] => { results := [.lit (.bool false)], args := [d1, d2, d3, d4, d5, d6] }
  | _ => none }
def ModuleShapesWrongFalsely : Prop := moduleShapesRow.holds Tryz.pinned (OpenSpec.ofChange moduleShapesWrong)

/- THE SECOND FORM. 'bulk': how many values and letters a reading holds, each counted each time it is reached (what is shared counts as often as it is met; a slice's spare places count too). A statement '..UptoSaid' is the law's where the arguments, and the package variables that the reading takes, are together of bulk at most 1048576: NARROWER than '..Said'. Prove '..Said' where nothing that the law and all that it calls make is longer than what came in: it says more and counts as full. Else prove '..UptoSaid'. A law counts once. -/
mutual
def uptoBulk {H : Type} : DataW H → Nat
  | .lit (.string bytes) => bytes.length + 1
  | .lit _ => 1
  | .nil => 1
  | .ptr d => uptoBulk d + 1
  | .slice elems spare => uptoBulkAll elems + uptoBulkAll spare + 1
  | .agg parts => uptoBulkAll parts + 1
  | .iface _ d => uptoBulk d + 1
  | .map entries => uptoBulkEntries entries + 1
  | .held _ => 1
def uptoBulkAll {H : Type} : List (DataW H) → Nat
  | [] => 0
  | d :: r => uptoBulk d + uptoBulkAll r
def uptoBulkEntries {H : Type} : List (Lit × DataW H) → Nat
  | [] => 0
  | x :: r => uptoBulkEntry x + uptoBulkEntries r
def uptoBulkEntry {H : Type} : Lit × DataW H → Nat
  | (.string bytes, d) => bytes.length + uptoBulk d + 1
  | (_, d) => uptoBulk d + 1
 end
def uptoSmall : (H : Type) → List (DataW H) → Bool := fun _ ds => decide (uptoBulkAll ds ≤ 1048576)
def OpenSpec.upto (s : _root_.Go.ChangeSpec) : _root_.Go.OpenSpec := { _root_.Go.OpenSpec.ofChange s with cond := some uptoSmall }

/-- 'isagogelaw19.ModuleModules', WHERE WHAT IT READS IS OF BULK AT MOST 1048576: true; the input reads as it did. -/
def moduleModulesUptoRow : OpenClaim := { program := "ytcbcdlajnmkioaagreatdoor", sum := "6fbb124a4232b84df0e8cf5bd73c582592166dce47e359630cf53991760f8581", func := "isagoge/isagogelaw19.ModuleModules", spec := "moduleModules", inPlace := ["internal/bytealg.IndexByteString", "internal/bytealg.IndexString"], unfollowed := true, recurses := true, named := ["internal/bytealg.MaxLen", "isagoge/concept.args"], loops := true, apart := false, laid := [("isagoge/concept.args", laid_isagoge_concept_args)], narrowed := true }
def ModuleModulesUptoSaid : Prop := moduleModulesUptoRow.holds Tryz.pinned (OpenSpec.upto moduleModulesSpec)

/-- 'isagogelaw19.ModuleGrows', WHERE WHAT IT READS IS OF BULK AT MOST 1048576: true; the input reads as it did. -/
def moduleGrowsUptoRow : OpenClaim := { program := "ytcbcdlajnmkioaagreatdoor", sum := "6fbb124a4232b84df0e8cf5bd73c582592166dce47e359630cf53991760f8581", func := "isagoge/isagogelaw19.ModuleGrows", spec := "moduleGrows", inPlace := ["internal/bytealg.IndexByteString", "internal/bytealg.IndexString"], unfollowed := true, recurses := true, named := ["internal/bytealg.MaxLen", "isagoge/concept.args"], loops := true, apart := false, laid := [("isagoge/concept.args", laid_isagoge_concept_args)], narrowed := true }
def ModuleGrowsUptoSaid : Prop := moduleGrowsUptoRow.holds Tryz.pinned (OpenSpec.upto moduleGrowsSpec)

/-- 'isagogelaw19.ModuleLocal', WHERE WHAT IT READS IS OF BULK AT MOST 1048576: true; the input reads as it did. -/
def moduleLocalUptoRow : OpenClaim := { program := "ytcbcdlajnmkioaagreatdoor", sum := "6fbb124a4232b84df0e8cf5bd73c582592166dce47e359630cf53991760f8581", func := "isagoge/isagogelaw19.ModuleLocal", spec := "moduleLocal", inPlace := ["internal/bytealg.IndexByteString", "internal/bytealg.IndexString"], unfollowed := true, recurses := true, named := ["internal/bytealg.MaxLen", "isagoge/concept.args"], loops := true, apart := false, laid := [("isagoge/concept.args", laid_isagoge_concept_args)], narrowed := true }
def ModuleLocalUptoSaid : Prop := moduleLocalUptoRow.holds Tryz.pinned (OpenSpec.upto moduleLocalSpec)

/-- 'isagogelaw19.ModuleShapes', WHERE WHAT IT READS IS OF BULK AT MOST 1048576: true; the input reads as it did. -/
def moduleShapesUptoRow : OpenClaim := { program := "ytcbcdlajnmkioaagreatdoor", sum := "6fbb124a4232b84df0e8cf5bd73c582592166dce47e359630cf53991760f8581", func := "isagoge/isagogelaw19.ModuleShapes", spec := "moduleShapes", inPlace := ["internal/bytealg.IndexByteString", "internal/bytealg.IndexString"], unfollowed := true, recurses := true, named := ["internal/bytealg.MaxLen", "isagoge/concept.args"], loops := true, apart := false, laid := [("isagoge/concept.args", laid_isagoge_concept_args)], narrowed := true }
def ModuleShapesUptoSaid : Prop := moduleShapesUptoRow.holds Tryz.pinned (OpenSpec.upto moduleShapesSpec)

end Rows
end Go.Proofs.YtcbcdlajnmkioaaGreatDoor
