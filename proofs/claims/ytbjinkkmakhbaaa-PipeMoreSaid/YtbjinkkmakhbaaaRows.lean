/-
  No cell of these rows narrows 'for every input' (looked for: loops, veiled, ifaces, maps, wideKeys, modest, calm, conditions, laid).
  DERIVED. THE GIVEN ROWS OF THIS SEAT. 7 by the template 'for every input the law returns true; each argument reads behind the call as it read before'; 0 by the template 'total and deterministic' (their statements: YtbjinkkmakhbaaaTotals.lean).
  GIVEN WITH THE SEED: the statements are not yours to turn. If you find one false, say at which input.
  Laid BY PROGRAM, IN A SANDBOX (cutbox-rows.mjs): the forced cells as the released guide's own fill.sh prints them over the translation 4ee1634c578c59bf… (all of the seat's roots in one cut). By AI agents, Wed Nov 11 2026. No macro, syntax, notation, axiom, sorry.
-/
import Derived.Test.YtbjinkkmakhbaaaChecked
import GoSem.Claim
import GoSem.ClaimJoined
import GoSem.ClaimMapViews
import Derived.JoinedTies
import Derived.KernelRfl
namespace Go.Proofs.Ytbjinkkmakhbaaa
/- THE CELL 'sum', in the pinned program and in every row, IS THE sha256 OF THE DUMP (.gsa) THAT YtbjinkkmakhbaaaProg.lean LOADS. Nothing in Lean hashes anything: it is a label: what it is worth is what the hold of that sum in a sandbox is worth. -/
noncomputable def Try.pinned : Pinned := { name := "ytbjinkkmakhbaaa", sum := "4ee1634c578c59bf64ec395f5ebe807f57497fd275a25228f6d26eed201386c9", checked := Try.checked }
namespace Rows
def none {H : Type} : Left H := { results := [], args := [] }

/-- 'gasworkslaw06.PipePress': WHATEVER THE INPUT: true; the input reads as it did. -/
def pipePressSpec : ChangeSpec := { name := "pipePress", fn := fun _ => fun
  | [d1, d2] => { results := [.lit (.bool true)], args := [d1, d2] }
  | _ => none }
def pipePressRow : OpenClaim := { program := "ytbjinkkmakhbaaa", sum := "4ee1634c578c59bf64ec395f5ebe807f57497fd275a25228f6d26eed201386c9", func := "gasworks/gasworkslaw06.PipePress", spec := "pipePress", unfollowed := true, recurses := true, apart := false }
def PipePressSaid : Prop := pipePressRow.holds Try.pinned (OpenSpec.ofChange pipePressSpec)

/-- ITS FALSE NEIGHBOUR: 'it returns false'. Refute it at one input. -/
def pipePressWrong : ChangeSpec := { name := "pipePress", fn := fun _ => fun
  | [d1, d2] => { results := [.lit (.bool false)], args := [d1, d2] }
  | _ => none }
def PipePressWrongFalsely : Prop := pipePressRow.holds Try.pinned (OpenSpec.ofChange pipePressWrong)

/-- 'gasworkslaw06.PipeLays': WHATEVER THE INPUT: true; the input reads as it did. -/
def pipeLaysSpec : ChangeSpec := { name := "pipeLays", fn := fun _ => fun
  | [d] => { results := [.lit (.bool true)], args := [d] }
  | _ => none }
def pipeLaysRow : OpenClaim := { program := "ytbjinkkmakhbaaa", sum := "4ee1634c578c59bf64ec395f5ebe807f57497fd275a25228f6d26eed201386c9", func := "gasworks/gasworkslaw06.PipeLays", spec := "pipeLays", unfollowed := true, recurses := true, apart := false }
def PipeLaysSaid : Prop := pipeLaysRow.holds Try.pinned (OpenSpec.ofChange pipeLaysSpec)

/-- ITS FALSE NEIGHBOUR: 'it returns false'. Refute it at one input. -/
def pipeLaysWrong : ChangeSpec := { name := "pipeLays", fn := fun _ => fun
  | [d] => { results := [.lit (.bool false)], args := [d] }
  | _ => none }
def PipeLaysWrongFalsely : Prop := pipeLaysRow.holds Try.pinned (OpenSpec.ofChange pipeLaysWrong)

/-- 'gasworkslaw06.PipeTrue': WHATEVER THE INPUT: true; the input reads as it did. -/
def pipeTrueSpec : ChangeSpec := { name := "pipeTrue", fn := fun _ => fun
  | [d1, d2] => { results := [.lit (.bool true)], args := [d1, d2] }
  | _ => none }
def pipeTrueRow : OpenClaim := { program := "ytbjinkkmakhbaaa", sum := "4ee1634c578c59bf64ec395f5ebe807f57497fd275a25228f6d26eed201386c9", func := "gasworks/gasworkslaw06.PipeTrue", spec := "pipeTrue", unfollowed := true, recurses := true, apart := false }
def PipeTrueSaid : Prop := pipeTrueRow.holds Try.pinned (OpenSpec.ofChange pipeTrueSpec)

/-- ITS FALSE NEIGHBOUR: 'it returns false'. Refute it at one input. -/
def pipeTrueWrong : ChangeSpec := { name := "pipeTrue", fn := fun _ => fun
  | [d1, d2] => { results := [.lit (.bool false)], args := [d1, d2] }
  | _ => none }
def PipeTrueWrongFalsely : Prop := pipeTrueRow.holds Try.pinned (OpenSpec.ofChange pipeTrueWrong)

/-- 'gasworkslaw06.PipeEnds': WHATEVER THE INPUT: true; the input reads as it did. -/
def pipeEndsSpec : ChangeSpec := { name := "pipeEnds", fn := fun _ => fun
  | [d1, d2] => { results := [.lit (.bool true)], args := [d1, d2] }
  | _ => none }
def pipeEndsRow : OpenClaim := { program := "ytbjinkkmakhbaaa", sum := "4ee1634c578c59bf64ec395f5ebe807f57497fd275a25228f6d26eed201386c9", func := "gasworks/gasworkslaw06.PipeEnds", spec := "pipeEnds", unfollowed := true, recurses := true, apart := false }
def PipeEndsSaid : Prop := pipeEndsRow.holds Try.pinned (OpenSpec.ofChange pipeEndsSpec)

/-- ITS FALSE NEIGHBOUR: 'it returns false'. Refute it at one input. -/
def pipeEndsWrong : ChangeSpec := { name := "pipeEnds", fn := fun _ => fun
  | [d1, d2] => { results := [.lit (.bool false)], args := [d1, d2] }
  | _ => none }
def PipeEndsWrongFalsely : Prop := pipeEndsRow.holds Try.pinned (OpenSpec.ofChange pipeEndsWrong)

/-- 'gasworkslaw06.PipeMore': WHATEVER THE INPUT: true; the input reads as it did. -/
def pipeMoreSpec : ChangeSpec := { name := "pipeMore", fn := fun _ => fun
  | [d1, d2, d3, d4] => { results := [.lit (.bool true)], args := [d1, d2, d3, d4] }
  | _ => none }
def pipeMoreRow : OpenClaim := { program := "ytbjinkkmakhbaaa", sum := "4ee1634c578c59bf64ec395f5ebe807f57497fd275a25228f6d26eed201386c9", func := "gasworks/gasworkslaw06.PipeMore", spec := "pipeMore", unfollowed := true, recurses := true, apart := false }
def PipeMoreSaid : Prop := pipeMoreRow.holds Try.pinned (OpenSpec.ofChange pipeMoreSpec)

/-- ITS FALSE NEIGHBOUR: 'it returns false'. Refute it at one input. -/
def pipeMoreWrong : ChangeSpec := { name := "pipeMore", fn := fun _ => fun
  | [d1, d2, d3, d4] => { results := [.lit (.bool false)], args := [d1, d2, d3, d4] }
  | _ => none }
def PipeMoreWrongFalsely : Prop := pipeMoreRow.holds Try.pinned (OpenSpec.ofChange pipeMoreWrong)

/-- 'gasworkslaw06.PipeEnough': WHATEVER THE INPUT: true; the input reads as it did. -/
def pipeEnoughSpec : ChangeSpec := { name := "pipeEnough", fn := fun _ => fun
  | [d1, d2] => { results := [.lit (.bool true)], args := [d1, d2] }
  | _ => none }
def pipeEnoughRow : OpenClaim := { program := "ytbjinkkmakhbaaa", sum := "4ee1634c578c59bf64ec395f5ebe807f57497fd275a25228f6d26eed201386c9", func := "gasworks/gasworkslaw06.PipeEnough", spec := "pipeEnough", unfollowed := true, recurses := true, apart := false }
def PipeEnoughSaid : Prop := pipeEnoughRow.holds Try.pinned (OpenSpec.ofChange pipeEnoughSpec)

/-- ITS FALSE NEIGHBOUR: 'it returns false'. Refute it at one input. -/
def pipeEnoughWrong : ChangeSpec := { name := "pipeEnough", fn := fun _ => fun
  | [d1, d2] => { results := [.lit (.bool false)], args := [d1, d2] }
  | _ => none }
def PipeEnoughWrongFalsely : Prop := pipeEnoughRow.holds Try.pinned (OpenSpec.ofChange pipeEnoughWrong)

/-- 'gasworkstop.TopFlows': WHATEVER THE INPUT: true; the input reads as it did. -/
def topFlowsSpec : ChangeSpec := { name := "topFlows", fn := fun _ => fun
  | [d] => { results := [.lit (.bool true)], args := [d] }
  | _ => none }
def topFlowsRow : OpenClaim := { program := "ytbjinkkmakhbaaa", sum := "4ee1634c578c59bf64ec395f5ebe807f57497fd275a25228f6d26eed201386c9", func := "gasworks/gasworkstop.TopFlows", spec := "topFlows", unfollowed := true, recurses := true, apart := false }
def TopFlowsSaid : Prop := topFlowsRow.holds Try.pinned (OpenSpec.ofChange topFlowsSpec)

/-- ITS FALSE NEIGHBOUR: 'it returns false'. Refute it at one input. -/
def topFlowsWrong : ChangeSpec := { name := "topFlows", fn := fun _ => fun
  | [d] => { results := [.lit (.bool false)], args := [d] }
  | _ => none }
def TopFlowsWrongFalsely : Prop := topFlowsRow.holds Try.pinned (OpenSpec.ofChange topFlowsWrong)

/- THE SECOND FORM. 'bulk': how many values and letters a reading holds, each counted each time it is reached (what is shared counts as often as it is met; a slice's spare places count too). A statement '..UptoSaid' is the law's where the arguments, and the package variables that the reading takes, are together of bulk at most 1048576: NARROWER than '..Said'. Prove '..Said' where nothing that the law and all that it calls make is longer than what came in: it says more and counts as full. Else prove '..UptoSaid'. A law counts once. -/
mutual
def uptoBulk {H : Type} : DataW H → Nat
  | .lit (.string bytes) => bytes.length + 1
  | .lit _ => 1
  | .nil => 1
  | .ptr d => uptoBulk d + 1
  | .slice elems spare => uptoBulkAll elems + uptoBulkAll spare + 1
  | .agg parts => uptoBulkAll parts + 1
  | .iface _ d => uptoBulk d + 1
  | .map entries => uptoBulkEntries entries + 1
  | .held _ => 1
def uptoBulkAll {H : Type} : List (DataW H) → Nat
  | [] => 0
  | d :: r => uptoBulk d + uptoBulkAll r
def uptoBulkEntries {H : Type} : List (Lit × DataW H) → Nat
  | [] => 0
  | x :: r => uptoBulkEntry x + uptoBulkEntries r
def uptoBulkEntry {H : Type} : Lit × DataW H → Nat
  | (.string bytes, d) => bytes.length + uptoBulk d + 1
  | (_, d) => uptoBulk d + 1
 end
def uptoSmall : (H : Type) → List (DataW H) → Bool := fun _ ds => decide (uptoBulkAll ds ≤ 1048576)
def OpenSpec.upto (s : _root_.Go.ChangeSpec) : _root_.Go.OpenSpec := { _root_.Go.OpenSpec.ofChange s with cond := some uptoSmall }

/-- 'gasworkslaw06.PipePress', WHERE WHAT IT READS IS OF BULK AT MOST 1048576: true; the input reads as it did. -/
def pipePressUptoRow : OpenClaim := { program := "ytbjinkkmakhbaaa", sum := "4ee1634c578c59bf64ec395f5ebe807f57497fd275a25228f6d26eed201386c9", func := "gasworks/gasworkslaw06.PipePress", spec := "pipePress", unfollowed := true, recurses := true, apart := false, narrowed := true }
def PipePressUptoSaid : Prop := pipePressUptoRow.holds Try.pinned (OpenSpec.upto pipePressSpec)

/-- 'gasworkslaw06.PipeLays', WHERE WHAT IT READS IS OF BULK AT MOST 1048576: true; the input reads as it did. -/
def pipeLaysUptoRow : OpenClaim := { program := "ytbjinkkmakhbaaa", sum := "4ee1634c578c59bf64ec395f5ebe807f57497fd275a25228f6d26eed201386c9", func := "gasworks/gasworkslaw06.PipeLays", spec := "pipeLays", unfollowed := true, recurses := true, apart := false, narrowed := true }
def PipeLaysUptoSaid : Prop := pipeLaysUptoRow.holds Try.pinned (OpenSpec.upto pipeLaysSpec)

/-- 'gasworkslaw06.PipeTrue', WHERE WHAT IT READS IS OF BULK AT MOST 1048576: true; the input reads as it did. -/
def pipeTrueUptoRow : OpenClaim := { program := "ytbjinkkmakhbaaa", sum := "4ee1634c578c59bf64ec395f5ebe807f57497fd275a25228f6d26eed201386c9", func := "gasworks/gasworkslaw06.PipeTrue", spec := "pipeTrue", unfollowed := true, recurses := true, apart := false, narrowed := true }
def PipeTrueUptoSaid : Prop := pipeTrueUptoRow.holds Try.pinned (OpenSpec.upto pipeTrueSpec)

/-- 'gasworkslaw06.PipeEnds', WHERE WHAT IT READS IS OF BULK AT MOST 1048576: true; the input reads as it did. -/
def pipeEndsUptoRow : OpenClaim := { program := "ytbjinkkmakhbaaa", sum := "4ee1634c578c59bf64ec395f5ebe807f57497fd275a25228f6d26eed201386c9", func := "gasworks/gasworkslaw06.PipeEnds", spec := "pipeEnds", unfollowed := true, recurses := true, apart := false, narrowed := true }
def PipeEndsUptoSaid : Prop := pipeEndsUptoRow.holds Try.pinned (OpenSpec.upto pipeEndsSpec)

/-- 'gasworkslaw06.PipeMore', WHERE WHAT IT READS IS OF BULK AT MOST 1048576: true; the input reads as it did. -/
def pipeMoreUptoRow : OpenClaim := { program := "ytbjinkkmakhbaaa", sum := "4ee1634c578c59bf64ec395f5ebe807f57497fd275a25228f6d26eed201386c9", func := "gasworks/gasworkslaw06.PipeMore", spec := "pipeMore", unfollowed := true, recurses := true, apart := false, narrowed := true }
def PipeMoreUptoSaid : Prop := pipeMoreUptoRow.holds Try.pinned (OpenSpec.upto pipeMoreSpec)

/-- 'gasworkslaw06.PipeEnough', WHERE WHAT IT READS IS OF BULK AT MOST 1048576: true; the input reads as it did. -/
def pipeEnoughUptoRow : OpenClaim := { program := "ytbjinkkmakhbaaa", sum := "4ee1634c578c59bf64ec395f5ebe807f57497fd275a25228f6d26eed201386c9", func := "gasworks/gasworkslaw06.PipeEnough", spec := "pipeEnough", unfollowed := true, recurses := true, apart := false, narrowed := true }
def PipeEnoughUptoSaid : Prop := pipeEnoughUptoRow.holds Try.pinned (OpenSpec.upto pipeEnoughSpec)

/-- 'gasworkstop.TopFlows', WHERE WHAT IT READS IS OF BULK AT MOST 1048576: true; the input reads as it did. -/
def topFlowsUptoRow : OpenClaim := { program := "ytbjinkkmakhbaaa", sum := "4ee1634c578c59bf64ec395f5ebe807f57497fd275a25228f6d26eed201386c9", func := "gasworks/gasworkstop.TopFlows", spec := "topFlows", unfollowed := true, recurses := true, apart := false, narrowed := true }
def TopFlowsUptoSaid : Prop := topFlowsUptoRow.holds Try.pinned (OpenSpec.upto topFlowsSpec)

end Rows
end Go.Proofs.Ytbjinkkmakhbaaa
