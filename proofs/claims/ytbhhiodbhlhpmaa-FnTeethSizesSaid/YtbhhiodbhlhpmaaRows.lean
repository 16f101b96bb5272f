/-
  No cell of these rows narrows 'for every input' (looked for: loops, veiled, ifaces, maps, wideKeys, modest, calm, conditions, laid).
  DERIVED. THE GIVEN ROWS OF THIS SEAT. 15 by the template 'for every input the law returns true; each argument reads behind the call as it read before'; 0 by the template 'total and deterministic' (their statements: YtbhhiodbhlhpmaaTotals.lean).
  GIVEN WITH THE SEED: the statements are not yours to turn. If you find one false, say at which input.
  Laid BY PROGRAM, IN A SANDBOX (cutbox-rows.mjs): the forced cells as the released guide's own fill.sh prints them over the translation 9cda569322c0e370… (all of the seat's roots in one cut). By AI agents, Wed Nov 11 2026. No macro, syntax, notation, axiom, sorry.
-/
import Derived.Test.YtbhhiodbhlhpmaaChecked
import GoSem.Claim
import GoSem.ClaimJoined
import GoSem.ClaimMapViews
import Derived.JoinedTies
import Derived.KernelRfl
namespace Go.Proofs.Ytbhhiodbhlhpmaa
/- THE CELL 'sum', in the pinned program and in every row, IS THE sha256 OF THE DUMP (.gsa) THAT YtbhhiodbhlhpmaaProg.lean LOADS. Nothing in Lean hashes anything: it is a label: what it is worth is what the hold of that sum in a sandbox is worth. -/
noncomputable def Try.pinned : Pinned := { name := "ytbhhiodbhlhpmaa", sum := "9cda569322c0e37037cd5b8592b46cd4b1b7ec903b90a49f8d88beb49e483b2f", checked := Try.checked }
namespace Rows
def none {H : Type} : Left H := { results := [], args := [] }

/-- 'laws.FnExactValidAngle': WHATEVER THE INPUT: true; the input reads as it did. -/
def fnExactValidAngleSpec : ChangeSpec := { name := "fnExactValidAngle", fn := fun _ => fun
  | [d] => { results := [.lit (.bool true)], args := [d] }
  | _ => none }
def fnExactValidAngleRow : OpenClaim := { program := "ytbhhiodbhlhpmaa", sum := "9cda569322c0e37037cd5b8592b46cd4b1b7ec903b90a49f8d88beb49e483b2f", func := "loop.example/g00921/laws.FnExactValidAngle", spec := "fnExactValidAngle", apart := false }
def FnExactValidAngleSaid : Prop := fnExactValidAngleRow.holds Try.pinned (OpenSpec.ofChange fnExactValidAngleSpec)

/-- ITS FALSE NEIGHBOUR: 'it returns false'. Refute it at one input. -/
def fnExactValidAngleWrong : ChangeSpec := { name := "fnExactValidAngle", fn := fun _ => fun
  | [d] => { results := [.lit (.bool false)], args := [d] }
  | _ => none }
def FnExactValidAngleWrongFalsely : Prop := fnExactValidAngleRow.holds Try.pinned (OpenSpec.ofChange fnExactValidAngleWrong)

/-- 'laws.FnExactPiBounds': WHATEVER THE INPUT: true; the input reads as it did. -/
def fnExactPiBoundsSpec : ChangeSpec := { name := "fnExactPiBounds", fn := fun _ => fun
  | [d] => { results := [.lit (.bool true)], args := [d] }
  | _ => none }
def fnExactPiBoundsRow : OpenClaim := { program := "ytbhhiodbhlhpmaa", sum := "9cda569322c0e37037cd5b8592b46cd4b1b7ec903b90a49f8d88beb49e483b2f", func := "loop.example/g00921/laws.FnExactPiBounds", spec := "fnExactPiBounds", apart := false }
def FnExactPiBoundsSaid : Prop := fnExactPiBoundsRow.holds Try.pinned (OpenSpec.ofChange fnExactPiBoundsSpec)

/-- ITS FALSE NEIGHBOUR: 'it returns false'. Refute it at one input. -/
def fnExactPiBoundsWrong : ChangeSpec := { name := "fnExactPiBounds", fn := fun _ => fun
  | [d] => { results := [.lit (.bool false)], args := [d] }
  | _ => none }
def FnExactPiBoundsWrongFalsely : Prop := fnExactPiBoundsRow.holds Try.pinned (OpenSpec.ofChange fnExactPiBoundsWrong)

/-- 'laws.FnExactValidProfile': WHATEVER THE INPUT: true; the input reads as it did. -/
def fnExactValidProfileSpec : ChangeSpec := { name := "fnExactValidProfile", fn := fun _ => fun
  | [d] => { results := [.lit (.bool true)], args := [d] }
  | _ => none }
def fnExactValidProfileRow : OpenClaim := { program := "ytbhhiodbhlhpmaa", sum := "9cda569322c0e37037cd5b8592b46cd4b1b7ec903b90a49f8d88beb49e483b2f", func := "loop.example/g00921/laws.FnExactValidProfile", spec := "fnExactValidProfile", apart := false }
def FnExactValidProfileSaid : Prop := fnExactValidProfileRow.holds Try.pinned (OpenSpec.ofChange fnExactValidProfileSpec)

/-- ITS FALSE NEIGHBOUR: 'it returns false'. Refute it at one input. -/
def fnExactValidProfileWrong : ChangeSpec := { name := "fnExactValidProfile", fn := fun _ => fun
  | [d] => { results := [.lit (.bool false)], args := [d] }
  | _ => none }
def FnExactValidProfileWrongFalsely : Prop := fnExactValidProfileRow.holds Try.pinned (OpenSpec.ofChange fnExactValidProfileWrong)

/-- 'laws.FnExactFitModule': WHATEVER THE INPUT: true; the input reads as it did. -/
def fnExactFitModuleSpec : ChangeSpec := { name := "fnExactFitModule", fn := fun _ => fun
  | [d1, d2] => { results := [.lit (.bool true)], args := [d1, d2] }
  | _ => none }
def fnExactFitModuleRow : OpenClaim := { program := "ytbhhiodbhlhpmaa", sum := "9cda569322c0e37037cd5b8592b46cd4b1b7ec903b90a49f8d88beb49e483b2f", func := "loop.example/g00921/laws.FnExactFitModule", spec := "fnExactFitModule", apart := false }
def FnExactFitModuleSaid : Prop := fnExactFitModuleRow.holds Try.pinned (OpenSpec.ofChange fnExactFitModuleSpec)

/-- ITS FALSE NEIGHBOUR: 'it returns false'. Refute it at one input. -/
def fnExactFitModuleWrong : ChangeSpec := { name := "fnExactFitModule", fn := fun _ => fun
  | [d1, d2] => { results := [.lit (.bool false)], args := [d1, d2] }
  | _ => none }
def FnExactFitModuleWrongFalsely : Prop := fnExactFitModuleRow.holds Try.pinned (OpenSpec.ofChange fnExactFitModuleWrong)

/-- 'laws.FnExactDiameters': WHATEVER THE INPUT: true; the input reads as it did. -/
def fnExactDiametersSpec : ChangeSpec := { name := "fnExactDiameters", fn := fun _ => fun
  | [d] => { results := [.lit (.bool true)], args := [d] }
  | _ => none }
def fnExactDiametersRow : OpenClaim := { program := "ytbhhiodbhlhpmaa", sum := "9cda569322c0e37037cd5b8592b46cd4b1b7ec903b90a49f8d88beb49e483b2f", func := "loop.example/g00921/laws.FnExactDiameters", spec := "fnExactDiameters", apart := false }
def FnExactDiametersSaid : Prop := fnExactDiametersRow.holds Try.pinned (OpenSpec.ofChange fnExactDiametersSpec)

/-- ITS FALSE NEIGHBOUR: 'it returns false'. Refute it at one input. -/
def fnExactDiametersWrong : ChangeSpec := { name := "fnExactDiameters", fn := fun _ => fun
  | [d] => { results := [.lit (.bool false)], args := [d] }
  | _ => none }
def FnExactDiametersWrongFalsely : Prop := fnExactDiametersRow.holds Try.pinned (OpenSpec.ofChange fnExactDiametersWrong)

/-- 'laws.FnExactLeastTeeth': WHATEVER THE INPUT: true; the input reads as it did. -/
def fnExactLeastTeethSpec : ChangeSpec := { name := "fnExactLeastTeeth", fn := fun _ => fun
  | [d1, d2] => { results := [.lit (.bool true)], args := [d1, d2] }
  | _ => none }
def fnExactLeastTeethRow : OpenClaim := { program := "ytbhhiodbhlhpmaa", sum := "9cda569322c0e37037cd5b8592b46cd4b1b7ec903b90a49f8d88beb49e483b2f", func := "loop.example/g00921/laws.FnExactLeastTeeth", spec := "fnExactLeastTeeth", apart := false }
def FnExactLeastTeethSaid : Prop := fnExactLeastTeethRow.holds Try.pinned (OpenSpec.ofChange fnExactLeastTeethSpec)

/-- ITS FALSE NEIGHBOUR: 'it returns false'. Refute it at one input. -/
def fnExactLeastTeethWrong : ChangeSpec := { name := "fnExactLeastTeeth", fn := fun _ => fun
  | [d1, d2] => { results := [.lit (.bool false)], args := [d1, d2] }
  | _ => none }
def FnExactLeastTeethWrongFalsely : Prop := fnExactLeastTeethRow.holds Try.pinned (OpenSpec.ofChange fnExactLeastTeethWrong)

/-- 'laws.FnExactThicknessBounds': WHATEVER THE INPUT: true; the input reads as it did. -/
def fnExactThicknessBoundsSpec : ChangeSpec := { name := "fnExactThicknessBounds", fn := fun _ => fun
  | [d1, d2] => { results := [.lit (.bool true)], args := [d1, d2] }
  | _ => none }
def fnExactThicknessBoundsRow : OpenClaim := { program := "ytbhhiodbhlhpmaa", sum := "9cda569322c0e37037cd5b8592b46cd4b1b7ec903b90a49f8d88beb49e483b2f", func := "loop.example/g00921/laws.FnExactThicknessBounds", spec := "fnExactThicknessBounds", apart := false }
def FnExactThicknessBoundsSaid : Prop := fnExactThicknessBoundsRow.holds Try.pinned (OpenSpec.ofChange fnExactThicknessBoundsSpec)

/-- ITS FALSE NEIGHBOUR: 'it returns false'. Refute it at one input. -/
def fnExactThicknessBoundsWrong : ChangeSpec := { name := "fnExactThicknessBounds", fn := fun _ => fun
  | [d1, d2] => { results := [.lit (.bool false)], args := [d1, d2] }
  | _ => none }
def FnExactThicknessBoundsWrongFalsely : Prop := fnExactThicknessBoundsRow.holds Try.pinned (OpenSpec.ofChange fnExactThicknessBoundsWrong)

/-- 'laws.FnExactInterferes': WHATEVER THE INPUT: true; the input reads as it did. -/
def fnExactInterferesSpec : ChangeSpec := { name := "fnExactInterferes", fn := fun _ => fun
  | [d1, d2] => { results := [.lit (.bool true)], args := [d1, d2] }
  | _ => none }
def fnExactInterferesRow : OpenClaim := { program := "ytbhhiodbhlhpmaa", sum := "9cda569322c0e37037cd5b8592b46cd4b1b7ec903b90a49f8d88beb49e483b2f", func := "loop.example/g00921/laws.FnExactInterferes", spec := "fnExactInterferes", apart := false }
def FnExactInterferesSaid : Prop := fnExactInterferesRow.holds Try.pinned (OpenSpec.ofChange fnExactInterferesSpec)

/-- ITS FALSE NEIGHBOUR: 'it returns false'. Refute it at one input. -/
def fnExactInterferesWrong : ChangeSpec := { name := "fnExactInterferes", fn := fun _ => fun
  | [d1, d2] => { results := [.lit (.bool false)], args := [d1, d2] }
  | _ => none }
def FnExactInterferesWrongFalsely : Prop := fnExactInterferesRow.holds Try.pinned (OpenSpec.ofChange fnExactInterferesWrong)

/-- 'laws.FnPi': WHATEVER THE INPUT: true; the input reads as it did. -/
def fnPiSpec : ChangeSpec := { name := "fnPi", fn := fun _ => fun
  | [d] => { results := [.lit (.bool true)], args := [d] }
  | _ => none }
def fnPiRow : OpenClaim := { program := "ytbhhiodbhlhpmaa", sum := "9cda569322c0e37037cd5b8592b46cd4b1b7ec903b90a49f8d88beb49e483b2f", func := "loop.example/g00921/laws.FnPi", spec := "fnPi", apart := false }
def FnPiSaid : Prop := fnPiRow.holds Try.pinned (OpenSpec.ofChange fnPiSpec)

/-- ITS FALSE NEIGHBOUR: 'it returns false'. Refute it at one input. -/
def fnPiWrong : ChangeSpec := { name := "fnPi", fn := fun _ => fun
  | [d] => { results := [.lit (.bool false)], args := [d] }
  | _ => none }
def FnPiWrongFalsely : Prop := fnPiRow.holds Try.pinned (OpenSpec.ofChange fnPiWrong)

/-- 'laws.FnExactGreatestAddendum': WHATEVER THE INPUT: true; the input reads as it did. -/
def fnExactGreatestAddendumSpec : ChangeSpec := { name := "fnExactGreatestAddendum", fn := fun _ => fun
  | [d1, d2] => { results := [.lit (.bool true)], args := [d1, d2] }
  | _ => none }
def fnExactGreatestAddendumRow : OpenClaim := { program := "ytbhhiodbhlhpmaa", sum := "9cda569322c0e37037cd5b8592b46cd4b1b7ec903b90a49f8d88beb49e483b2f", func := "loop.example/g00921/laws.FnExactGreatestAddendum", spec := "fnExactGreatestAddendum", apart := false }
def FnExactGreatestAddendumSaid : Prop := fnExactGreatestAddendumRow.holds Try.pinned (OpenSpec.ofChange fnExactGreatestAddendumSpec)

/-- ITS FALSE NEIGHBOUR: 'it returns false'. Refute it at one input. -/
def fnExactGreatestAddendumWrong : ChangeSpec := { name := "fnExactGreatestAddendum", fn := fun _ => fun
  | [d1, d2] => { results := [.lit (.bool false)], args := [d1, d2] }
  | _ => none }
def FnExactGreatestAddendumWrongFalsely : Prop := fnExactGreatestAddendumRow.holds Try.pinned (OpenSpec.ofChange fnExactGreatestAddendumWrong)

/-- 'laws.FnLeastTeeth': WHATEVER THE INPUT: true; the input reads as it did. -/
def fnLeastTeethSpec : ChangeSpec := { name := "fnLeastTeeth", fn := fun _ => fun
  | [d] => { results := [.lit (.bool true)], args := [d] }
  | _ => none }
def fnLeastTeethRow : OpenClaim := { program := "ytbhhiodbhlhpmaa", sum := "9cda569322c0e37037cd5b8592b46cd4b1b7ec903b90a49f8d88beb49e483b2f", func := "loop.example/g00921/laws.FnLeastTeeth", spec := "fnLeastTeeth", apart := false }
def FnLeastTeethSaid : Prop := fnLeastTeethRow.holds Try.pinned (OpenSpec.ofChange fnLeastTeethSpec)

/-- ITS FALSE NEIGHBOUR: 'it returns false'. Refute it at one input. -/
def fnLeastTeethWrong : ChangeSpec := { name := "fnLeastTeeth", fn := fun _ => fun
  | [d] => { results := [.lit (.bool false)], args := [d] }
  | _ => none }
def FnLeastTeethWrongFalsely : Prop := fnLeastTeethRow.holds Try.pinned (OpenSpec.ofChange fnLeastTeethWrong)

/-- 'laws.FnExactContactBounds': WHATEVER THE INPUT: true; the input reads as it did. -/
def fnExactContactBoundsSpec : ChangeSpec := { name := "fnExactContactBounds", fn := fun _ => fun
  | [d1, d2] => { results := [.lit (.bool true)], args := [d1, d2] }
  | _ => none }
def fnExactContactBoundsRow : OpenClaim := { program := "ytbhhiodbhlhpmaa", sum := "9cda569322c0e37037cd5b8592b46cd4b1b7ec903b90a49f8d88beb49e483b2f", func := "loop.example/g00921/laws.FnExactContactBounds", spec := "fnExactContactBounds", apart := false }
def FnExactContactBoundsSaid : Prop := fnExactContactBoundsRow.holds Try.pinned (OpenSpec.ofChange fnExactContactBoundsSpec)

/-- ITS FALSE NEIGHBOUR: 'it returns false'. Refute it at one input. -/
def fnExactContactBoundsWrong : ChangeSpec := { name := "fnExactContactBounds", fn := fun _ => fun
  | [d1, d2] => { results := [.lit (.bool false)], args := [d1, d2] }
  | _ => none }
def FnExactContactBoundsWrongFalsely : Prop := fnExactContactBoundsRow.holds Try.pinned (OpenSpec.ofChange fnExactContactBoundsWrong)

/-- 'laws.FnContacts': WHATEVER THE INPUT: true; the input reads as it did. -/
def fnContactsSpec : ChangeSpec := { name := "fnContacts", fn := fun _ => fun
  | [d] => { results := [.lit (.bool true)], args := [d] }
  | _ => none }
def fnContactsRow : OpenClaim := { program := "ytbhhiodbhlhpmaa", sum := "9cda569322c0e37037cd5b8592b46cd4b1b7ec903b90a49f8d88beb49e483b2f", func := "loop.example/g00921/laws.FnContacts", spec := "fnContacts", apart := false }
def FnContactsSaid : Prop := fnContactsRow.holds Try.pinned (OpenSpec.ofChange fnContactsSpec)

/-- ITS FALSE NEIGHBOUR: 'it returns false'. Refute it at one input. -/
def fnContactsWrong : ChangeSpec := { name := "fnContacts", fn := fun _ => fun
  | [d] => { results := [.lit (.bool false)], args := [d] }
  | _ => none }
def FnContactsWrongFalsely : Prop := fnContactsRow.holds Try.pinned (OpenSpec.ofChange fnContactsWrong)

/-- 'laws.FnInterference': WHATEVER THE INPUT: true; the input reads as it did. -/
def fnInterferenceSpec : ChangeSpec := { name := "fnInterference", fn := fun _ => fun
  | [d] => { results := [.lit (.bool true)], args := [d] }
  | _ => none }
def fnInterferenceRow : OpenClaim := { program := "ytbhhiodbhlhpmaa", sum := "9cda569322c0e37037cd5b8592b46cd4b1b7ec903b90a49f8d88beb49e483b2f", func := "loop.example/g00921/laws.FnInterference", spec := "fnInterference", apart := false }
def FnInterferenceSaid : Prop := fnInterferenceRow.holds Try.pinned (OpenSpec.ofChange fnInterferenceSpec)

/-- ITS FALSE NEIGHBOUR: 'it returns false'. Refute it at one input. -/
def fnInterferenceWrong : ChangeSpec := { name := "fnInterference", fn := fun _ => fun
  | [d] => { results := [.lit (.bool false)], args := [d] }
  | _ => none }
def FnInterferenceWrongFalsely : Prop := fnInterferenceRow.holds Try.pinned (OpenSpec.ofChange fnInterferenceWrong)

/-- 'laws.FnTeethSizes': WHATEVER THE INPUT: true; the input reads as it did. -/
def fnTeethSizesSpec : ChangeSpec := { name := "fnTeethSizes", fn := fun _ => fun
  | [d] => { results := [.lit (.bool true)], args := [d] }
  | _ => none }
def fnTeethSizesRow : OpenClaim := { program := "ytbhhiodbhlhpmaa", sum := "9cda569322c0e37037cd5b8592b46cd4b1b7ec903b90a49f8d88beb49e483b2f", func := "loop.example/g00921/laws.FnTeethSizes", spec := "fnTeethSizes", apart := false }
def FnTeethSizesSaid : Prop := fnTeethSizesRow.holds Try.pinned (OpenSpec.ofChange fnTeethSizesSpec)

/-- ITS FALSE NEIGHBOUR: 'it returns false'. Refute it at one input. -/
def fnTeethSizesWrong : ChangeSpec := { name := "fnTeethSizes", fn := fun _ => fun
  | [d] => { results := [.lit (.bool false)], args := [d] }
  | _ => none }
def FnTeethSizesWrongFalsely : Prop := fnTeethSizesRow.holds Try.pinned (OpenSpec.ofChange fnTeethSizesWrong)

/- THE SECOND FORM. 'bulk': how many values and letters a reading holds, each counted each time it is reached (what is shared counts as often as it is met; a slice's spare places count too). A statement '..UptoSaid' is the law's where the arguments, and the package variables that the reading takes, are together of bulk at most 1048576: NARROWER than '..Said'. Prove '..Said' where nothing that the law and all that it calls make is longer than what came in: it says more and counts as full. Else prove '..UptoSaid'. A law counts once. -/
mutual
def uptoBulk {H : Type} : DataW H → Nat
  | .lit (.string bytes) => bytes.length + 1
  | .lit _ => 1
  | .nil => 1
  | .ptr d => uptoBulk d + 1
  | .slice elems spare => uptoBulkAll elems + uptoBulkAll spare + 1
  | .agg parts => uptoBulkAll parts + 1
  | .iface _ d => uptoBulk d + 1
  | .map entries => uptoBulkEntries entries + 1
  | .held _ => 1
def uptoBulkAll {H : Type} : List (DataW H) → Nat
  | [] => 0
  | d :: r => uptoBulk d + uptoBulkAll r
def uptoBulkEntries {H : Type} : List (Lit × DataW H) → Nat
  | [] => 0
  | x :: r => uptoBulkEntry x + uptoBulkEntries r
def uptoBulkEntry {H : Type} : Lit × DataW H → Nat
  | (.string bytes, d) => bytes.length + uptoBulk d + 1
  | (_, d) => uptoBulk d + 1
 end
def uptoSmall : (H : Type) → List (DataW H) → Bool := fun _ ds => decide (uptoBulkAll ds ≤ 1048576)
def OpenSpec.upto (s : _root_.Go.ChangeSpec) : _root_.Go.OpenSpec := { _root_.Go.OpenSpec.ofChange s with cond := some uptoSmall }

/-- 'laws.FnExactValidAngle', WHERE WHAT IT READS IS OF BULK AT MOST 1048576: true; the input reads as it did. -/
def fnExactValidAngleUptoRow : OpenClaim := { program := "ytbhhiodbhlhpmaa", sum := "9cda569322c0e37037cd5b8592b46cd4b1b7ec903b90a49f8d88beb49e483b2f", func := "loop.example/g00921/laws.FnExactValidAngle", spec := "fnExactValidAngle", apart := false, narrowed := true }
def FnExactValidAngleUptoSaid : Prop := fnExactValidAngleUptoRow.holds Try.pinned (OpenSpec.upto fnExactValidAngleSpec)

/-- 'laws.FnExactPiBounds', WHERE WHAT IT READS IS OF BULK AT MOST 1048576: true; the input reads as it did. -/
def fnExactPiBoundsUptoRow : OpenClaim := { program := "ytbhhiodbhlhpmaa", sum := "9cda569322c0e37037cd5b8592b46cd4b1b7ec903b90a49f8d88beb49e483b2f", func := "loop.example/g00921/laws.FnExactPiBounds", spec := "fnExactPiBounds", apart := false, narrowed := true }
def FnExactPiBoundsUptoSaid : Prop := fnExactPiBoundsUptoRow.holds Try.pinned (OpenSpec.upto fnExactPiBoundsSpec)

/-- 'laws.FnExactValidProfile', WHERE WHAT IT READS IS OF BULK AT MOST 1048576: true; the input reads as it did. -/
def fnExactValidProfileUptoRow : OpenClaim := { program := "ytbhhiodbhlhpmaa", sum := "9cda569322c0e37037cd5b8592b46cd4b1b7ec903b90a49f8d88beb49e483b2f", func := "loop.example/g00921/laws.FnExactValidProfile", spec := "fnExactValidProfile", apart := false, narrowed := true }
def FnExactValidProfileUptoSaid : Prop := fnExactValidProfileUptoRow.holds Try.pinned (OpenSpec.upto fnExactValidProfileSpec)

/-- 'laws.FnExactFitModule', WHERE WHAT IT READS IS OF BULK AT MOST 1048576: true; the input reads as it did. -/
def fnExactFitModuleUptoRow : OpenClaim := { program := "ytbhhiodbhlhpmaa", sum := "9cda569322c0e37037cd5b8592b46cd4b1b7ec903b90a49f8d88beb49e483b2f", func := "loop.example/g00921/laws.FnExactFitModule", spec := "fnExactFitModule", apart := false, narrowed := true }
def FnExactFitModuleUptoSaid : Prop := fnExactFitModuleUptoRow.holds Try.pinned (OpenSpec.upto fnExactFitModuleSpec)

/-- 'laws.FnExactDiameters', WHERE WHAT IT READS IS OF BULK AT MOST 1048576: true; the input reads as it did. -/
def fnExactDiametersUptoRow : OpenClaim := { program := "ytbhhiodbhlhpmaa", sum := "9cda569322c0e37037cd5b8592b46cd4b1b7ec903b90a49f8d88beb49e483b2f", func := "loop.example/g00921/laws.FnExactDiameters", spec := "fnExactDiameters", apart := false, narrowed := true }
def FnExactDiametersUptoSaid : Prop := fnExactDiametersUptoRow.holds Try.pinned (OpenSpec.upto fnExactDiametersSpec)

/-- 'laws.FnExactLeastTeeth', WHERE WHAT IT READS IS OF BULK AT MOST 1048576: true; the input reads as it did. -/
def fnExactLeastTeethUptoRow : OpenClaim := { program := "ytbhhiodbhlhpmaa", sum := "9cda569322c0e37037cd5b8592b46cd4b1b7ec903b90a49f8d88beb49e483b2f", func := "loop.example/g00921/laws.FnExactLeastTeeth", spec := "fnExactLeastTeeth", apart := false, narrowed := true }
def FnExactLeastTeethUptoSaid : Prop := fnExactLeastTeethUptoRow.holds Try.pinned (OpenSpec.upto fnExactLeastTeethSpec)

/-- 'laws.FnExactThicknessBounds', WHERE WHAT IT READS IS OF BULK AT MOST 1048576: true; the input reads as it did. -/
def fnExactThicknessBoundsUptoRow : OpenClaim := { program := "ytbhhiodbhlhpmaa", sum := "9cda569322c0e37037cd5b8592b46cd4b1b7ec903b90a49f8d88beb49e483b2f", func := "loop.example/g00921/laws.FnExactThicknessBounds", spec := "fnExactThicknessBounds", apart := false, narrowed := true }
def FnExactThicknessBoundsUptoSaid : Prop := fnExactThicknessBoundsUptoRow.holds Try.pinned (OpenSpec.upto fnExactThicknessBoundsSpec)

/-- 'laws.FnExactInterferes', WHERE WHAT IT READS IS OF BULK AT MOST 1048576: true; the input reads as it did. -/
def fnExactInterferesUptoRow : OpenClaim := { program := "ytbhhiodbhlhpmaa", sum := "9cda569322c0e37037cd5b8592b46cd4b1b7ec903b90a49f8d88beb49e483b2f", func := "loop.example/g00921/laws.FnExactInterferes", spec := "fnExactInterferes", apart := false, narrowed := true }
def FnExactInterferesUptoSaid : Prop := fnExactInterferesUptoRow.holds Try.pinned (OpenSpec.upto fnExactInterferesSpec)

/-- 'laws.FnPi', WHERE WHAT IT READS IS OF BULK AT MOST 1048576: true; the input reads as it did. -/
def fnPiUptoRow : OpenClaim := { program := "ytbhhiodbhlhpmaa", sum := "9cda569322c0e37037cd5b8592b46cd4b1b7ec903b90a49f8d88beb49e483b2f", func := "loop.example/g00921/laws.FnPi", spec := "fnPi", apart := false, narrowed := true }
def FnPiUptoSaid : Prop := fnPiUptoRow.holds Try.pinned (OpenSpec.upto fnPiSpec)

/-- 'laws.FnExactGreatestAddendum', WHERE WHAT IT READS IS OF BULK AT MOST 1048576: true; the input reads as it did. -/
def fnExactGreatestAddendumUptoRow : OpenClaim := { program := "ytbhhiodbhlhpmaa", sum := "9cda569322c0e37037cd5b8592b46cd4b1b7ec903b90a49f8d88beb49e483b2f", func := "loop.example/g00921/laws.FnExactGreatestAddendum", spec := "fnExactGreatestAddendum", apart := false, narrowed := true }
def FnExactGreatestAddendumUptoSaid : Prop := fnExactGreatestAddendumUptoRow.holds Try.pinned (OpenSpec.upto fnExactGreatestAddendumSpec)

/-- 'laws.FnLeastTeeth', WHERE WHAT IT READS IS OF BULK AT MOST 1048576: true; the input reads as it did. -/
def fnLeastTeethUptoRow : OpenClaim := { program := "ytbhhiodbhlhpmaa", sum := "9cda569322c0e37037cd5b8592b46cd4b1b7ec903b90a49f8d88beb49e483b2f", func := "loop.example/g00921/laws.FnLeastTeeth", spec := "fnLeastTeeth", apart := false, narrowed := true }
def FnLeastTeethUptoSaid : Prop := fnLeastTeethUptoRow.holds Try.pinned (OpenSpec.upto fnLeastTeethSpec)

/-- 'laws.FnExactContactBounds', WHERE WHAT IT READS IS OF BULK AT MOST 1048576: true; the input reads as it did. -/
def fnExactContactBoundsUptoRow : OpenClaim := { program := "ytbhhiodbhlhpmaa", sum := "9cda569322c0e37037cd5b8592b46cd4b1b7ec903b90a49f8d88beb49e483b2f", func := "loop.example/g00921/laws.FnExactContactBounds", spec := "fnExactContactBounds", apart := false, narrowed := true }
def FnExactContactBoundsUptoSaid : Prop := fnExactContactBoundsUptoRow.holds Try.pinned (OpenSpec.upto fnExactContactBoundsSpec)

/-- 'laws.FnContacts', WHERE WHAT IT READS IS OF BULK AT MOST 1048576: true; the input reads as it did. -/
def fnContactsUptoRow : OpenClaim := { program := "ytbhhiodbhlhpmaa", sum := "9cda569322c0e37037cd5b8592b46cd4b1b7ec903b90a49f8d88beb49e483b2f", func := "loop.example/g00921/laws.FnContacts", spec := "fnContacts", apart := false, narrowed := true }
def FnContactsUptoSaid : Prop := fnContactsUptoRow.holds Try.pinned (OpenSpec.upto fnContactsSpec)

/-- 'laws.FnInterference', WHERE WHAT IT READS IS OF BULK AT MOST 1048576: true; the input reads as it did. -/
def fnInterferenceUptoRow : OpenClaim := { program := "ytbhhiodbhlhpmaa", sum := "9cda569322c0e37037cd5b8592b46cd4b1b7ec903b90a49f8d88beb49e483b2f", func := "loop.example/g00921/laws.FnInterference", spec := "fnInterference", apart := false, narrowed := true }
def FnInterferenceUptoSaid : Prop := fnInterferenceUptoRow.holds Try.pinned (OpenSpec.upto fnInterferenceSpec)

/-- 'laws.FnTeethSizes', WHERE WHAT IT READS IS OF BULK AT MOST 1048576: true; the input reads as it did. -/
def fnTeethSizesUptoRow : OpenClaim := { program := "ytbhhiodbhlhpmaa", sum := "9cda569322c0e37037cd5b8592b46cd4b1b7ec903b90a49f8d88beb49e483b2f", func := "loop.example/g00921/laws.FnTeethSizes", spec := "fnTeethSizes", apart := false, narrowed := true }
def FnTeethSizesUptoSaid : Prop := fnTeethSizesUptoRow.holds Try.pinned (OpenSpec.upto fnTeethSizesSpec)

end Rows
end Go.Proofs.Ytbhhiodbhlhpmaa
