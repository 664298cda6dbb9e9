/-
  No cell of these rows narrows 'for every input' (looked for: loops, veiled, ifaces, maps, wideKeys, modest, calm, conditions, laid).
  DERIVED. THE GIVEN ROWS OF THIS SEAT. 7 by the template 'for every input the law returns true; each argument reads behind the call as it read before'; 0 by the template 'total and deterministic' (their statements: YtnammdkpejocmaaTotals.lean).
  GIVEN WITH THE SEED: the statements are not yours to turn. If you find one false, say at which input.
  Laid BY PROGRAM, IN A SANDBOX (cutbox-rows.mjs): the forced cells as the released guide's own fill.sh prints them over the translation 1c1e75c3c4ee33fc… (all of the seat's roots in one cut). By AI agents, Wed Nov 11 2026. No macro, syntax, notation, axiom, sorry.
-/
import Derived.Test.YtnammdkpejocmaaChecked
import GoSem.Claim
import GoSem.ClaimJoined
import GoSem.ClaimMapViews
import Derived.JoinedTies
import Derived.KernelRfl
namespace Go.Proofs.Ytnammdkpejocmaa
/- THE CELL 'sum', in the pinned program and in every row, IS THE sha256 OF THE DUMP (.gsa) THAT YtnammdkpejocmaaProg.lean LOADS. Nothing in Lean hashes anything: it is a label: what it is worth is what the hold of that sum in a sandbox is worth. -/
noncomputable def Try.pinned : Pinned := { name := "ytnammdkpejocmaa", sum := "1c1e75c3c4ee33fc520a89d6c07699034cfc698bb5190c03a670bef84a482493", checked := Try.checked }
namespace Rows
def none {H : Type} : Left H := { results := [], args := [] }

/-- 'gasworkslaw13.ScaleRates': WHATEVER THE INPUT: true; the input reads as it did. -/
def scaleRatesSpec : ChangeSpec := { name := "scaleRates", fn := fun _ => fun
  | [d1, d2, d3] => { results := [.lit (.bool true)], args := [d1, d2, d3] }
  | _ => none }
def scaleRatesRow : OpenClaim := { program := "ytnammdkpejocmaa", sum := "1c1e75c3c4ee33fc520a89d6c07699034cfc698bb5190c03a670bef84a482493", func := "gasworks/gasworkslaw13.ScaleRates", spec := "scaleRates", unfollowed := true, recurses := true, apart := false }
def ScaleRatesSaid : Prop := scaleRatesRow.holds Try.pinned (OpenSpec.ofChange scaleRatesSpec)

/-- ITS FALSE NEIGHBOUR: 'it returns false'. Refute it at one input. -/
def scaleRatesWrong : ChangeSpec := { name := "scaleRates", fn := fun _ => fun
  | [d1, d2, d3] => { results := [.lit (.bool false)], args := [d1, d2, d3] }
  | _ => none }
def ScaleRatesWrongFalsely : Prop := scaleRatesRow.holds Try.pinned (OpenSpec.ofChange scaleRatesWrong)

/-- 'gasworkslaw13.ScaleRuns': WHATEVER THE INPUT: true; the input reads as it did. -/
def scaleRunsSpec : ChangeSpec := { name := "scaleRuns", fn := fun _ => fun
  | [d1, d2, d3, d4] => { results := [.lit (.bool true)], args := [d1, d2, d3, d4] }
  | _ => none }
def scaleRunsRow : OpenClaim := { program := "ytnammdkpejocmaa", sum := "1c1e75c3c4ee33fc520a89d6c07699034cfc698bb5190c03a670bef84a482493", func := "gasworks/gasworkslaw13.ScaleRuns", spec := "scaleRuns", unfollowed := true, recurses := true, apart := false }
def ScaleRunsSaid : Prop := scaleRunsRow.holds Try.pinned (OpenSpec.ofChange scaleRunsSpec)

/-- ITS FALSE NEIGHBOUR: 'it returns false'. Refute it at one input. -/
def scaleRunsWrong : ChangeSpec := { name := "scaleRuns", fn := fun _ => fun
  | [d1, d2, d3, d4] => { results := [.lit (.bool false)], args := [d1, d2, d3, d4] }
  | _ => none }
def ScaleRunsWrongFalsely : Prop := scaleRunsRow.holds Try.pinned (OpenSpec.ofChange scaleRunsWrong)

/-- 'gasworkslaw13.ScaleNames': WHATEVER THE INPUT: true; the input reads as it did. -/
def scaleNamesSpec : ChangeSpec := { name := "scaleNames", fn := fun _ => fun
  | [] => { results := [.lit (.bool true)], args := [] }
  | _ => none }
def scaleNamesRow : OpenClaim := { program := "ytnammdkpejocmaa", sum := "1c1e75c3c4ee33fc520a89d6c07699034cfc698bb5190c03a670bef84a482493", func := "gasworks/gasworkslaw13.ScaleNames", spec := "scaleNames", unfollowed := true, recurses := true, apart := false }
def ScaleNamesSaid : Prop := scaleNamesRow.holds Try.pinned (OpenSpec.ofChange scaleNamesSpec)

/-- ITS FALSE NEIGHBOUR: 'it returns false'. Refute it at one input. -/
def scaleNamesWrong : ChangeSpec := { name := "scaleNames", fn := fun _ => fun
  | [] => { results := [.lit (.bool false)], args := [] }
  | _ => none }
def ScaleNamesWrongFalsely : Prop := scaleNamesRow.holds Try.pinned (OpenSpec.ofChange scaleNamesWrong)

/-- 'gasworkslaw13.ScaleWhole': WHATEVER THE INPUT: true; the input reads as it did. -/
def scaleWholeSpec : ChangeSpec := { name := "scaleWhole", fn := fun _ => fun
  | [d1, d2, d3, d4, d5] => { results := [.lit (.bool true)], args := [d1, d2, d3, d4, d5] }
  | _ => none }
def scaleWholeRow : OpenClaim := { program := "ytnammdkpejocmaa", sum := "1c1e75c3c4ee33fc520a89d6c07699034cfc698bb5190c03a670bef84a482493", func := "gasworks/gasworkslaw13.ScaleWhole", spec := "scaleWhole", unfollowed := true, recurses := true, apart := false }
def ScaleWholeSaid : Prop := scaleWholeRow.holds Try.pinned (OpenSpec.ofChange scaleWholeSpec)

/-- ITS FALSE NEIGHBOUR: 'it returns false'. Refute it at one input. -/
def scaleWholeWrong : ChangeSpec := { name := "scaleWhole", fn := fun _ => fun
  | [d1, d2, d3, d4, d5] => { results := [.lit (.bool false)], args := [d1, d2, d3, d4, d5] }
  | _ => none }
def ScaleWholeWrongFalsely : Prop := scaleWholeRow.holds Try.pinned (OpenSpec.ofChange scaleWholeWrong)

/-- 'gasworkslaw13.ScaleCheaper': WHATEVER THE INPUT: true; the input reads as it did. -/
def scaleCheaperSpec : ChangeSpec := { name := "scaleCheaper", fn := fun _ => fun
  | [d1, d2, d3] => { results := [.lit (.bool true)], args := [d1, d2, d3] }
  | _ => none }
def scaleCheaperRow : OpenClaim := { program := "ytnammdkpejocmaa", sum := "1c1e75c3c4ee33fc520a89d6c07699034cfc698bb5190c03a670bef84a482493", func := "gasworks/gasworkslaw13.ScaleCheaper", spec := "scaleCheaper", unfollowed := true, recurses := true, apart := false }
def ScaleCheaperSaid : Prop := scaleCheaperRow.holds Try.pinned (OpenSpec.ofChange scaleCheaperSpec)

/-- ITS FALSE NEIGHBOUR: 'it returns false'. Refute it at one input. -/
def scaleCheaperWrong : ChangeSpec := { name := "scaleCheaper", fn := fun _ => fun
  | [d1, d2, d3] => { results := [.lit (.bool false)], args := [d1, d2, d3] }
  | _ => none }
def ScaleCheaperWrongFalsely : Prop := scaleCheaperRow.holds Try.pinned (OpenSpec.ofChange scaleCheaperWrong)

/-- 'gasworkslaw13.ScaleMore': WHATEVER THE INPUT: true; the input reads as it did. -/
def scaleMoreSpec : ChangeSpec := { name := "scaleMore", fn := fun _ => fun
  | [d1, d2, d3, d4] => { results := [.lit (.bool true)], args := [d1, d2, d3, d4] }
  | _ => none }
def scaleMoreRow : OpenClaim := { program := "ytnammdkpejocmaa", sum := "1c1e75c3c4ee33fc520a89d6c07699034cfc698bb5190c03a670bef84a482493", func := "gasworks/gasworkslaw13.ScaleMore", spec := "scaleMore", unfollowed := true, recurses := true, apart := false }
def ScaleMoreSaid : Prop := scaleMoreRow.holds Try.pinned (OpenSpec.ofChange scaleMoreSpec)

/-- ITS FALSE NEIGHBOUR: 'it returns false'. Refute it at one input. -/
def scaleMoreWrong : ChangeSpec := { name := "scaleMore", fn := fun _ => fun
  | [d1, d2, d3, d4] => { results := [.lit (.bool false)], args := [d1, d2, d3, d4] }
  | _ => none }
def ScaleMoreWrongFalsely : Prop := scaleMoreRow.holds Try.pinned (OpenSpec.ofChange scaleMoreWrong)

/-- 'gasworkslaw13.ScaleOwns': WHATEVER THE INPUT: true; the input reads as it did. -/
def scaleOwnsSpec : ChangeSpec := { name := "scaleOwns", fn := fun _ => fun
  | [d1, d2, d3] => { results := [.lit (.bool true)], args := [d1, d2, d3] }
  | _ => none }
def scaleOwnsRow : OpenClaim := { program := "ytnammdkpejocmaa", sum := "1c1e75c3c4ee33fc520a89d6c07699034cfc698bb5190c03a670bef84a482493", func := "gasworks/gasworkslaw13.ScaleOwns", spec := "scaleOwns", unfollowed := true, recurses := true, apart := false }
def ScaleOwnsSaid : Prop := scaleOwnsRow.holds Try.pinned (OpenSpec.ofChange scaleOwnsSpec)

/-- ITS FALSE NEIGHBOUR: 'it returns false'. Refute it at one input. -/
def scaleOwnsWrong : ChangeSpec := { name := "scaleOwns", fn := fun _ => fun
  | [d1, d2, d3] => { results := [.lit (.bool false)], args := [d1, d2, d3] }
  | _ => none }
def ScaleOwnsWrongFalsely : Prop := scaleOwnsRow.holds Try.pinned (OpenSpec.ofChange scaleOwnsWrong)

/- THE SECOND FORM. 'bulk': how many values and letters a reading holds, each counted each time it is reached (what is shared counts as often as it is met; a slice's spare places count too). A statement '..UptoSaid' is the law's where the arguments, and the package variables that the reading takes, are together of bulk at most 1048576: NARROWER than '..Said'. Prove '..Said' where nothing that the law and all that it calls make is longer than what came in: it says more and counts as full. Else prove '..UptoSaid'. A law counts once. -/
mutual
def uptoBulk {H : Type} : DataW H → Nat
  | .lit (.string bytes) => bytes.length + 1
  | .lit _ => 1
  | .nil => 1
  | .ptr d => uptoBulk d + 1
  | .slice elems spare => uptoBulkAll elems + uptoBulkAll spare + 1
  | .agg parts => uptoBulkAll parts + 1
  | .iface _ d => uptoBulk d + 1
  | .map entries => uptoBulkEntries entries + 1
  | .held _ => 1
def uptoBulkAll {H : Type} : List (DataW H) → Nat
  | [] => 0
  | d :: r => uptoBulk d + uptoBulkAll r
def uptoBulkEntries {H : Type} : List (Lit × DataW H) → Nat
  | [] => 0
  | x :: r => uptoBulkEntry x + uptoBulkEntries r
def uptoBulkEntry {H : Type} : Lit × DataW H → Nat
  | (.string bytes, d) => bytes.length + uptoBulk d + 1
  | (_, d) => uptoBulk d + 1
 end
def uptoSmall : (H : Type) → List (DataW H) → Bool := fun _ ds => decide (uptoBulkAll ds ≤ 1048576)
def OpenSpec.upto (s : _root_.Go.ChangeSpec) : _root_.Go.OpenSpec := { _root_.Go.OpenSpec.ofChange s with cond := some uptoSmall }

/-- 'gasworkslaw13.ScaleRates', WHERE WHAT IT READS IS OF BULK AT MOST 1048576: true; the input reads as it did. -/
def scaleRatesUptoRow : OpenClaim := { program := "ytnammdkpejocmaa", sum := "1c1e75c3c4ee33fc520a89d6c07699034cfc698bb5190c03a670bef84a482493", func := "gasworks/gasworkslaw13.ScaleRates", spec := "scaleRates", unfollowed := true, recurses := true, apart := false, narrowed := true }
def ScaleRatesUptoSaid : Prop := scaleRatesUptoRow.holds Try.pinned (OpenSpec.upto scaleRatesSpec)

/-- 'gasworkslaw13.ScaleRuns', WHERE WHAT IT READS IS OF BULK AT MOST 1048576: true; the input reads as it did. -/
def scaleRunsUptoRow : OpenClaim := { program := "ytnammdkpejocmaa", sum := "1c1e75c3c4ee33fc520a89d6c07699034cfc698bb5190c03a670bef84a482493", func := "gasworks/gasworkslaw13.ScaleRuns", spec := "scaleRuns", unfollowed := true, recurses := true, apart := false, narrowed := true }
def ScaleRunsUptoSaid : Prop := scaleRunsUptoRow.holds Try.pinned (OpenSpec.upto scaleRunsSpec)

/-- 'gasworkslaw13.ScaleNames', WHERE WHAT IT READS IS OF BULK AT MOST 1048576: true; the input reads as it did. -/
def scaleNamesUptoRow : OpenClaim := { program := "ytnammdkpejocmaa", sum := "1c1e75c3c4ee33fc520a89d6c07699034cfc698bb5190c03a670bef84a482493", func := "gasworks/gasworkslaw13.ScaleNames", spec := "scaleNames", unfollowed := true, recurses := true, apart := false, narrowed := true }
def ScaleNamesUptoSaid : Prop := scaleNamesUptoRow.holds Try.pinned (OpenSpec.upto scaleNamesSpec)

/-- 'gasworkslaw13.ScaleWhole', WHERE WHAT IT READS IS OF BULK AT MOST 1048576: true; the input reads as it did. -/
def scaleWholeUptoRow : OpenClaim := { program := "ytnammdkpejocmaa", sum := "1c1e75c3c4ee33fc520a89d6c07699034cfc698bb5190c03a670bef84a482493", func := "gasworks/gasworkslaw13.ScaleWhole", spec := "scaleWhole", unfollowed := true, recurses := true, apart := false, narrowed := true }
def ScaleWholeUptoSaid : Prop := scaleWholeUptoRow.holds Try.pinned (OpenSpec.upto scaleWholeSpec)

/-- 'gasworkslaw13.ScaleCheaper', WHERE WHAT IT READS IS OF BULK AT MOST 1048576: true; the input reads as it did. -/
def scaleCheaperUptoRow : OpenClaim := { program := "ytnammdkpejocmaa", sum := "1c1e75c3c4ee33fc520a89d6c07699034cfc698bb5190c03a670bef84a482493", func := "gasworks/gasworkslaw13.ScaleCheaper", spec := "scaleCheaper", unfollowed := true, recurses := true, apart := false, narrowed := true }
def ScaleCheaperUptoSaid : Prop := scaleCheaperUptoRow.holds Try.pinned (OpenSpec.upto scaleCheaperSpec)

/-- 'gasworkslaw13.ScaleMore', WHERE WHAT IT READS IS OF BULK AT MOST 1048576: true; the input reads as it did. -/
def scaleMoreUptoRow : OpenClaim := { program := "ytnammdkpejocmaa", sum := "1c1e75c3c4ee33fc520a89d6c07699034cfc698bb5190c03a670bef84a482493", func := "gasworks/gasworkslaw13.ScaleMore", spec := "scaleMore", unfollowed := true, recurses := true, apart := false, narrowed := true }
def ScaleMoreUptoSaid : Prop := scaleMoreUptoRow.holds Try.pinned (OpenSpec.upto scaleMoreSpec)

/-- 'gasworkslaw13.ScaleOwns', WHERE WHAT IT READS IS OF BULK AT MOST 1048576: true; the input reads as it did. -/
def scaleOwnsUptoRow : OpenClaim := { program := "ytnammdkpejocmaa", sum := "1c1e75c3c4ee33fc520a89d6c07699034cfc698bb5190c03a670bef84a482493", func := "gasworks/gasworkslaw13.ScaleOwns", spec := "scaleOwns", unfollowed := true, recurses := true, apart := false, narrowed := true }
def ScaleOwnsUptoSaid : Prop := scaleOwnsUptoRow.holds Try.pinned (OpenSpec.upto scaleOwnsSpec)

end Rows
end Go.Proofs.Ytnammdkpejocmaa
