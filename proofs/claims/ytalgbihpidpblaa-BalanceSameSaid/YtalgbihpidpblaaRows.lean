/-
  No cell of these rows narrows 'for every input' (looked for: loops, veiled, ifaces, maps, wideKeys, modest, calm, conditions, laid).
  DERIVED. THE GIVEN ROWS OF THIS SEAT. 6 by the template 'for every input the law returns true; each argument reads behind the call as it read before'; 0 by the template 'total and deterministic' (their statements: YtalgbihpidpblaaTotals.lean).
  GIVEN WITH THE SEED: the statements are not yours to turn. If you find one false, say at which input.
  Laid BY PROGRAM, IN A SANDBOX (cutbox-rows.mjs): the forced cells as the released guide's own fill.sh prints them over the translation de125bc6038a2d2c… (all of the seat's roots in one cut). By AI agents, Wed Nov 11 2026. No macro, syntax, notation, axiom, sorry.
-/
import Derived.Test.YtalgbihpidpblaaChecked
import GoSem.Claim
import GoSem.ClaimJoined
import GoSem.ClaimMapViews
import Derived.JoinedTies
import Derived.KernelRfl
namespace Go.Proofs.Ytalgbihpidpblaa
/- THE CELL 'sum', in the pinned program and in every row, IS THE sha256 OF THE DUMP (.gsa) THAT YtalgbihpidpblaaProg.lean LOADS. Nothing in Lean hashes anything: it is a label: what it is worth is what the hold of that sum in a sandbox is worth. -/
noncomputable def Try.pinned : Pinned := { name := "ytalgbihpidpblaa", sum := "de125bc6038a2d2c3ec18fccf09473605511a057c4d3bbc7e550426db26f9aa0", checked := Try.checked }
namespace Rows
def none {H : Type} : Left H := { results := [], args := [] }

/-- 'gasworkslaw04.BalanceTruths': WHATEVER THE INPUT: true; the input reads as it did. -/
def balanceTruthsSpec : ChangeSpec := { name := "balanceTruths", fn := fun _ => fun
  | [d] => { results := [.lit (.bool true)], args := [d] }
  | _ => none }
def balanceTruthsRow : OpenClaim := { program := "ytalgbihpidpblaa", sum := "de125bc6038a2d2c3ec18fccf09473605511a057c4d3bbc7e550426db26f9aa0", func := "gasworks/gasworkslaw04.BalanceTruths", spec := "balanceTruths", unfollowed := true, recurses := true, apart := false }
def BalanceTruthsSaid : Prop := balanceTruthsRow.holds Try.pinned (OpenSpec.ofChange balanceTruthsSpec)

/-- ITS FALSE NEIGHBOUR: 'it returns false'. Refute it at one input. -/
def balanceTruthsWrong : ChangeSpec := { name := "balanceTruths", fn := fun _ => fun
  | [d] => { results := [.lit (.bool false)], args := [d] }
  | _ => none }
def BalanceTruthsWrongFalsely : Prop := balanceTruthsRow.holds Try.pinned (OpenSpec.ofChange balanceTruthsWrong)

/-- 'gasworkslaw04.BalanceProofs': WHATEVER THE INPUT: true; the input reads as it did. -/
def balanceProofsSpec : ChangeSpec := { name := "balanceProofs", fn := fun _ => fun
  | [d1, d2, d3] => { results := [.lit (.bool true)], args := [d1, d2, d3] }
  | _ => none }
def balanceProofsRow : OpenClaim := { program := "ytalgbihpidpblaa", sum := "de125bc6038a2d2c3ec18fccf09473605511a057c4d3bbc7e550426db26f9aa0", func := "gasworks/gasworkslaw04.BalanceProofs", spec := "balanceProofs", unfollowed := true, recurses := true, apart := false }
def BalanceProofsSaid : Prop := balanceProofsRow.holds Try.pinned (OpenSpec.ofChange balanceProofsSpec)

/-- ITS FALSE NEIGHBOUR: 'it returns false'. Refute it at one input. -/
def balanceProofsWrong : ChangeSpec := { name := "balanceProofs", fn := fun _ => fun
  | [d1, d2, d3] => { results := [.lit (.bool false)], args := [d1, d2, d3] }
  | _ => none }
def BalanceProofsWrongFalsely : Prop := balanceProofsRow.holds Try.pinned (OpenSpec.ofChange balanceProofsWrong)

/-- 'gasworkslaw04.BalanceTrue': WHATEVER THE INPUT: true; the input reads as it did. -/
def balanceTrueSpec : ChangeSpec := { name := "balanceTrue", fn := fun _ => fun
  | [d1, d2, d3, d4] => { results := [.lit (.bool true)], args := [d1, d2, d3, d4] }
  | _ => none }
def balanceTrueRow : OpenClaim := { program := "ytalgbihpidpblaa", sum := "de125bc6038a2d2c3ec18fccf09473605511a057c4d3bbc7e550426db26f9aa0", func := "gasworks/gasworkslaw04.BalanceTrue", spec := "balanceTrue", unfollowed := true, recurses := true, apart := false }
def BalanceTrueSaid : Prop := balanceTrueRow.holds Try.pinned (OpenSpec.ofChange balanceTrueSpec)

/-- ITS FALSE NEIGHBOUR: 'it returns false'. Refute it at one input. -/
def balanceTrueWrong : ChangeSpec := { name := "balanceTrue", fn := fun _ => fun
  | [d1, d2, d3, d4] => { results := [.lit (.bool false)], args := [d1, d2, d3, d4] }
  | _ => none }
def BalanceTrueWrongFalsely : Prop := balanceTrueRow.holds Try.pinned (OpenSpec.ofChange balanceTrueWrong)

/-- 'gasworkslaw04.BalanceEnds': WHATEVER THE INPUT: true; the input reads as it did. -/
def balanceEndsSpec : ChangeSpec := { name := "balanceEnds", fn := fun _ => fun
  | [d1, d2] => { results := [.lit (.bool true)], args := [d1, d2] }
  | _ => none }
def balanceEndsRow : OpenClaim := { program := "ytalgbihpidpblaa", sum := "de125bc6038a2d2c3ec18fccf09473605511a057c4d3bbc7e550426db26f9aa0", func := "gasworks/gasworkslaw04.BalanceEnds", spec := "balanceEnds", unfollowed := true, recurses := true, apart := false }
def BalanceEndsSaid : Prop := balanceEndsRow.holds Try.pinned (OpenSpec.ofChange balanceEndsSpec)

/-- ITS FALSE NEIGHBOUR: 'it returns false'. Refute it at one input. -/
def balanceEndsWrong : ChangeSpec := { name := "balanceEnds", fn := fun _ => fun
  | [d1, d2] => { results := [.lit (.bool false)], args := [d1, d2] }
  | _ => none }
def BalanceEndsWrongFalsely : Prop := balanceEndsRow.holds Try.pinned (OpenSpec.ofChange balanceEndsWrong)

/-- 'gasworkslaw04.BalanceProved': WHATEVER THE INPUT: true; the input reads as it did. -/
def balanceProvedSpec : ChangeSpec := { name := "balanceProved", fn := fun _ => fun
  | [d1, d2, d3] => { results := [.lit (.bool true)], args := [d1, d2, d3] }
  | _ => none }
def balanceProvedRow : OpenClaim := { program := "ytalgbihpidpblaa", sum := "de125bc6038a2d2c3ec18fccf09473605511a057c4d3bbc7e550426db26f9aa0", func := "gasworks/gasworkslaw04.BalanceProved", spec := "balanceProved", unfollowed := true, recurses := true, apart := false }
def BalanceProvedSaid : Prop := balanceProvedRow.holds Try.pinned (OpenSpec.ofChange balanceProvedSpec)

/-- ITS FALSE NEIGHBOUR: 'it returns false'. Refute it at one input. -/
def balanceProvedWrong : ChangeSpec := { name := "balanceProved", fn := fun _ => fun
  | [d1, d2, d3] => { results := [.lit (.bool false)], args := [d1, d2, d3] }
  | _ => none }
def BalanceProvedWrongFalsely : Prop := balanceProvedRow.holds Try.pinned (OpenSpec.ofChange balanceProvedWrong)

/-- 'gasworkslaw04.BalanceSame': WHATEVER THE INPUT: true; the input reads as it did. -/
def balanceSameSpec : ChangeSpec := { name := "balanceSame", fn := fun _ => fun
  | [d1, d2, d3] => { results := [.lit (.bool true)], args := [d1, d2, d3] }
  | _ => none }
def balanceSameRow : OpenClaim := { program := "ytalgbihpidpblaa", sum := "de125bc6038a2d2c3ec18fccf09473605511a057c4d3bbc7e550426db26f9aa0", func := "gasworks/gasworkslaw04.BalanceSame", spec := "balanceSame", unfollowed := true, recurses := true, apart := false }
def BalanceSameSaid : Prop := balanceSameRow.holds Try.pinned (OpenSpec.ofChange balanceSameSpec)

/-- ITS FALSE NEIGHBOUR: 'it returns false'. Refute it at one input. -/
def balanceSameWrong : ChangeSpec := { name := "balanceSame", fn := fun _ => fun
  | [d1, d2, d3] => { results := [.lit (.bool false)], args := [d1, d2, d3] }
  | _ => none }
def BalanceSameWrongFalsely : Prop := balanceSameRow.holds Try.pinned (OpenSpec.ofChange balanceSameWrong)

/- THE SECOND FORM. 'bulk': how many values and letters a reading holds, each counted each time it is reached (what is shared counts as often as it is met; a slice's spare places count too). A statement '..UptoSaid' is the law's where the arguments, and the package variables that the reading takes, are together of bulk at most 1048576: NARROWER than '..Said'. Prove '..Said' where nothing that the law and all that it calls make is longer than what came in: it says more and counts as full. Else prove '..UptoSaid'. A law counts once. -/
mutual
def uptoBulk {H : Type} : DataW H → Nat
  | .lit (.string bytes) => bytes.length + 1
  | .lit _ => 1
  | .nil => 1
  | .ptr d => uptoBulk d + 1
  | .slice elems spare => uptoBulkAll elems + uptoBulkAll spare + 1
  | .agg parts => uptoBulkAll parts + 1
  | .iface _ d => uptoBulk d + 1
  | .map entries => uptoBulkEntries entries + 1
  | .held _ => 1
def uptoBulkAll {H : Type} : List (DataW H) → Nat
  | [] => 0
  | d :: r => uptoBulk d + uptoBulkAll r
def uptoBulkEntries {H : Type} : List (Lit × DataW H) → Nat
  | [] => 0
  | x :: r => uptoBulkEntry x + uptoBulkEntries r
def uptoBulkEntry {H : Type} : Lit × DataW H → Nat
  | (.string bytes, d) => bytes.length + uptoBulk d + 1
  | (_, d) => uptoBulk d + 1
 end
def uptoSmall : (H : Type) → List (DataW H) → Bool := fun _ ds => decide (uptoBulkAll ds ≤ 1048576)
def OpenSpec.upto (s : _root_.Go.ChangeSpec) : _root_.Go.OpenSpec := { _root_.Go.OpenSpec.ofChange s with cond := some uptoSmall }

/-- 'gasworkslaw04.BalanceTruths', WHERE WHAT IT READS IS OF BULK AT MOST 1048576: true; the input reads as it did. -/
def balanceTruthsUptoRow : OpenClaim := { program := "ytalgbihpidpblaa", sum := "de125bc6038a2d2c3ec18fccf09473605511a057c4d3bbc7e550426db26f9aa0", func := "gasworks/gasworkslaw04.BalanceTruths", spec := "balanceTruths", unfollowed := true, recurses := true, apart := false, narrowed := true }
def BalanceTruthsUptoSaid : Prop := balanceTruthsUptoRow.holds Try.pinned (OpenSpec.upto balanceTruthsSpec)

/-- 'gasworkslaw04.BalanceProofs', WHERE WHAT IT READS IS OF BULK AT MOST 1048576: true; the input reads as it did. -/
def balanceProofsUptoRow : OpenClaim := { program := "ytalgbihpidpblaa", sum := "de125bc6038a2d2c3ec18fccf09473605511a057c4d3bbc7e550426db26f9aa0", func := "gasworks/gasworkslaw04.BalanceProofs", spec := "balanceProofs", unfollowed := true, recurses := true, apart := false, narrowed := true }
def BalanceProofsUptoSaid : Prop := balanceProofsUptoRow.holds Try.pinned (OpenSpec.upto balanceProofsSpec)

/-- 'gasworkslaw04.BalanceTrue', WHERE WHAT IT READS IS OF BULK AT MOST 1048576: true; the input reads as it did. -/
def balanceTrueUptoRow : OpenClaim := { program := "ytalgbihpidpblaa", sum := "de125bc6038a2d2c3ec18fccf09473605511a057c4d3bbc7e550426db26f9aa0", func := "gasworks/gasworkslaw04.BalanceTrue", spec := "balanceTrue", unfollowed := true, recurses := true, apart := false, narrowed := true }
def BalanceTrueUptoSaid : Prop := balanceTrueUptoRow.holds Try.pinned (OpenSpec.upto balanceTrueSpec)

/-- 'gasworkslaw04.BalanceEnds', WHERE WHAT IT READS IS OF BULK AT MOST 1048576: true; the input reads as it did. -/
def balanceEndsUptoRow : OpenClaim := { program := "ytalgbihpidpblaa", sum := "de125bc6038a2d2c3ec18fccf09473605511a057c4d3bbc7e550426db26f9aa0", func := "gasworks/gasworkslaw04.BalanceEnds", spec := "balanceEnds", unfollowed := true, recurses := true, apart := false, narrowed := true }
def BalanceEndsUptoSaid : Prop := balanceEndsUptoRow.holds Try.pinned (OpenSpec.upto balanceEndsSpec)

/-- 'gasworkslaw04.BalanceProved', WHERE WHAT IT READS IS OF BULK AT MOST 1048576: true; the input reads as it did. -/
def balanceProvedUptoRow : OpenClaim := { program := "ytalgbihpidpblaa", sum := "de125bc6038a2d2c3ec18fccf09473605511a057c4d3bbc7e550426db26f9aa0", func := "gasworks/gasworkslaw04.BalanceProved", spec := "balanceProved", unfollowed := true, recurses := true, apart := false, narrowed := true }
def BalanceProvedUptoSaid : Prop := balanceProvedUptoRow.holds Try.pinned (OpenSpec.upto balanceProvedSpec)

/-- 'gasworkslaw04.BalanceSame', WHERE WHAT IT READS IS OF BULK AT MOST 1048576: true; the input reads as it did. -/
def balanceSameUptoRow : OpenClaim := { program := "ytalgbihpidpblaa", sum := "de125bc6038a2d2c3ec18fccf09473605511a057c4d3bbc7e550426db26f9aa0", func := "gasworks/gasworkslaw04.BalanceSame", spec := "balanceSame", unfollowed := true, recurses := true, apart := false, narrowed := true }
def BalanceSameUptoSaid : Prop := balanceSameUptoRow.holds Try.pinned (OpenSpec.upto balanceSameSpec)

end Rows
end Go.Proofs.Ytalgbihpidpblaa
