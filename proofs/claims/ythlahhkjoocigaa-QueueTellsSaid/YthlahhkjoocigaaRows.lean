/-
  No cell of these rows narrows 'for every input' (looked for: loops, veiled, ifaces, maps, wideKeys, modest, calm, conditions, laid).
  DERIVED. THE GIVEN ROWS OF THIS SEAT. 11 by the template 'for every input the law returns true; each argument reads behind the call as it read before'; 0 by the template 'total and deterministic' (their statements: YthlahhkjoocigaaTotals.lean).
  GIVEN WITH THE SEED: the statements are not yours to turn. If you find one false, say at which input.
  Laid BY PROGRAM, IN A SANDBOX (cutbox-rows.mjs): the forced cells as the released guide's own fill.sh prints them over the translation d9482703ae3d9ce0… (all of the seat's roots in one cut). By AI agents, Wed Nov 11 2026. No macro, syntax, notation, axiom, sorry.
-/
import Derived.Test.YthlahhkjoocigaaChecked
import GoSem.Claim
import GoSem.ClaimJoined
import GoSem.ClaimMapViews
import Derived.JoinedTies
import Derived.KernelRfl
namespace Go.Proofs.Ythlahhkjoocigaa
/- THE CELL 'sum', in the pinned program and in every row, IS THE sha256 OF THE DUMP (.gsa) THAT YthlahhkjoocigaaProg.lean LOADS. Nothing in Lean hashes anything: it is a label: what it is worth is what the hold of that sum in a sandbox is worth. -/
noncomputable def Try.pinned : Pinned := { name := "ythlahhkjoocigaa", sum := "d9482703ae3d9ce070c7b607e8f044c4f50ecf4f7b9aabac6800220444d85881", checked := Try.checked }
namespace Rows
def none {H : Type} : Left H := { results := [], args := [] }

/-- 'ratlinelaw29.FairTells': WHATEVER THE INPUT: true; the input reads as it did. -/
def fairTellsSpec : ChangeSpec := { name := "fairTells", fn := fun _ => fun
  | [d1, d2, d3] => { results := [.lit (.bool true)], args := [d1, d2, d3] }
  | _ => none }
def fairTellsRow : OpenClaim := { program := "ythlahhkjoocigaa", sum := "d9482703ae3d9ce070c7b607e8f044c4f50ecf4f7b9aabac6800220444d85881", func := "ratline/ratlinelaw29.FairTells", spec := "fairTells", unfollowed := true, recurses := true, apart := false }
def FairTellsSaid : Prop := fairTellsRow.holds Try.pinned (OpenSpec.ofChange fairTellsSpec)

/-- ITS FALSE NEIGHBOUR: 'it returns false'. Refute it at one input. -/
def fairTellsWrong : ChangeSpec := { name := "fairTells", fn := fun _ => fun
  | [d1, d2, d3] => { results := [.lit (.bool false)], args := [d1, d2, d3] }
  | _ => none }
def FairTellsWrongFalsely : Prop := fairTellsRow.holds Try.pinned (OpenSpec.ofChange fairTellsWrong)

/-- 'ratlinelaw29.FairGrows': WHATEVER THE INPUT: true; the input reads as it did. -/
def fairGrowsSpec : ChangeSpec := { name := "fairGrows", fn := fun _ => fun
  | [d1, d2, d3, d4] => { results := [.lit (.bool true)], args := [d1, d2, d3, d4] }
  | _ => none }
def fairGrowsRow : OpenClaim := { program := "ythlahhkjoocigaa", sum := "d9482703ae3d9ce070c7b607e8f044c4f50ecf4f7b9aabac6800220444d85881", func := "ratline/ratlinelaw29.FairGrows", spec := "fairGrows", unfollowed := true, recurses := true, apart := false }
def FairGrowsSaid : Prop := fairGrowsRow.holds Try.pinned (OpenSpec.ofChange fairGrowsSpec)

/-- ITS FALSE NEIGHBOUR: 'it returns false'. Refute it at one input. -/
def fairGrowsWrong : ChangeSpec := { name := "fairGrows", fn := fun _ => fun
  | [d1, d2, d3, d4] => { results := [.lit (.bool false)], args := [d1, d2, d3, d4] }
  | _ => none }
def FairGrowsWrongFalsely : Prop := fairGrowsRow.holds Try.pinned (OpenSpec.ofChange fairGrowsWrong)

/-- 'ratlinelaw16.SchedTells': WHATEVER THE INPUT: true; the input reads as it did. -/
def schedTellsSpec : ChangeSpec := { name := "schedTells", fn := fun _ => fun
  | [d1, d2, d3, d4, d5, d6] => { results := [.lit (.bool true)], args := [d1, d2, d3, d4, d5, d6] }
  | _ => none }
def schedTellsRow : OpenClaim := { program := "ythlahhkjoocigaa", sum := "d9482703ae3d9ce070c7b607e8f044c4f50ecf4f7b9aabac6800220444d85881", func := "ratline/ratlinelaw16.SchedTells", spec := "schedTells", unfollowed := true, recurses := true, apart := false }
def SchedTellsSaid : Prop := schedTellsRow.holds Try.pinned (OpenSpec.ofChange schedTellsSpec)

/-- ITS FALSE NEIGHBOUR: 'it returns false'. Refute it at one input. -/
def schedTellsWrong : ChangeSpec := { name := "schedTells", fn := fun _ => fun
  | [d1, d2, d3, d4, d5, d6] => { results := [.lit (.bool false)], args := [d1, d2, d3, d4, d5, d6] }
  | _ => none }
def SchedTellsWrongFalsely : Prop := schedTellsRow.holds Try.pinned (OpenSpec.ofChange schedTellsWrong)

/-- 'ratlinelaw16.SchedRobin': WHATEVER THE INPUT: true; the input reads as it did. -/
def schedRobinSpec : ChangeSpec := { name := "schedRobin", fn := fun _ => fun
  | [d1, d2] => { results := [.lit (.bool true)], args := [d1, d2] }
  | _ => none }
def schedRobinRow : OpenClaim := { program := "ythlahhkjoocigaa", sum := "d9482703ae3d9ce070c7b607e8f044c4f50ecf4f7b9aabac6800220444d85881", func := "ratline/ratlinelaw16.SchedRobin", spec := "schedRobin", unfollowed := true, recurses := true, apart := false }
def SchedRobinSaid : Prop := schedRobinRow.holds Try.pinned (OpenSpec.ofChange schedRobinSpec)

/-- ITS FALSE NEIGHBOUR: 'it returns false'. Refute it at one input. -/
def schedRobinWrong : ChangeSpec := { name := "schedRobin", fn := fun _ => fun
  | [d1, d2] => { results := [.lit (.bool false)], args := [d1, d2] }
  | _ => none }
def SchedRobinWrongFalsely : Prop := schedRobinRow.holds Try.pinned (OpenSpec.ofChange schedRobinWrong)

/-- 'ratlinelaw16.SchedFair': WHATEVER THE INPUT: true; the input reads as it did. -/
def schedFairSpec : ChangeSpec := { name := "schedFair", fn := fun _ => fun
  | [d1, d2] => { results := [.lit (.bool true)], args := [d1, d2] }
  | _ => none }
def schedFairRow : OpenClaim := { program := "ythlahhkjoocigaa", sum := "d9482703ae3d9ce070c7b607e8f044c4f50ecf4f7b9aabac6800220444d85881", func := "ratline/ratlinelaw16.SchedFair", spec := "schedFair", unfollowed := true, recurses := true, apart := false }
def SchedFairSaid : Prop := schedFairRow.holds Try.pinned (OpenSpec.ofChange schedFairSpec)

/-- ITS FALSE NEIGHBOUR: 'it returns false'. Refute it at one input. -/
def schedFairWrong : ChangeSpec := { name := "schedFair", fn := fun _ => fun
  | [d1, d2] => { results := [.lit (.bool false)], args := [d1, d2] }
  | _ => none }
def SchedFairWrongFalsely : Prop := schedFairRow.holds Try.pinned (OpenSpec.ofChange schedFairWrong)

/-- 'ratlinelaw16.SchedWaits': WHATEVER THE INPUT: true; the input reads as it did. -/
def schedWaitsSpec : ChangeSpec := { name := "schedWaits", fn := fun _ => fun
  | [d1, d2, d3] => { results := [.lit (.bool true)], args := [d1, d2, d3] }
  | _ => none }
def schedWaitsRow : OpenClaim := { program := "ythlahhkjoocigaa", sum := "d9482703ae3d9ce070c7b607e8f044c4f50ecf4f7b9aabac6800220444d85881", func := "ratline/ratlinelaw16.SchedWaits", spec := "schedWaits", unfollowed := true, recurses := true, apart := false }
def SchedWaitsSaid : Prop := schedWaitsRow.holds Try.pinned (OpenSpec.ofChange schedWaitsSpec)

/-- ITS FALSE NEIGHBOUR: 'it returns false'. Refute it at one input. -/
def schedWaitsWrong : ChangeSpec := { name := "schedWaits", fn := fun _ => fun
  | [d1, d2, d3] => { results := [.lit (.bool false)], args := [d1, d2, d3] }
  | _ => none }
def SchedWaitsWrongFalsely : Prop := schedWaitsRow.holds Try.pinned (OpenSpec.ofChange schedWaitsWrong)

/-- 'ratlinelaw21.QueueOrder': WHATEVER THE INPUT: true; the input reads as it did. -/
def queueOrderSpec : ChangeSpec := { name := "queueOrder", fn := fun _ => fun
  | [d1, d2, d3] => { results := [.lit (.bool true)], args := [d1, d2, d3] }
  | _ => none }
def queueOrderRow : OpenClaim := { program := "ythlahhkjoocigaa", sum := "d9482703ae3d9ce070c7b607e8f044c4f50ecf4f7b9aabac6800220444d85881", func := "ratline/ratlinelaw21.QueueOrder", spec := "queueOrder", unfollowed := true, recurses := true, apart := false }
def QueueOrderSaid : Prop := queueOrderRow.holds Try.pinned (OpenSpec.ofChange queueOrderSpec)

/-- ITS FALSE NEIGHBOUR: 'it returns false'. Refute it at one input. -/
def queueOrderWrong : ChangeSpec := { name := "queueOrder", fn := fun _ => fun
  | [d1, d2, d3] => { results := [.lit (.bool false)], args := [d1, d2, d3] }
  | _ => none }
def QueueOrderWrongFalsely : Prop := queueOrderRow.holds Try.pinned (OpenSpec.ofChange queueOrderWrong)

/-- 'ratlinelaw21.QueueLeads': WHATEVER THE INPUT: true; the input reads as it did. -/
def queueLeadsSpec : ChangeSpec := { name := "queueLeads", fn := fun _ => fun
  | [d1, d2, d3] => { results := [.lit (.bool true)], args := [d1, d2, d3] }
  | _ => none }
def queueLeadsRow : OpenClaim := { program := "ythlahhkjoocigaa", sum := "d9482703ae3d9ce070c7b607e8f044c4f50ecf4f7b9aabac6800220444d85881", func := "ratline/ratlinelaw21.QueueLeads", spec := "queueLeads", unfollowed := true, recurses := true, apart := false }
def QueueLeadsSaid : Prop := queueLeadsRow.holds Try.pinned (OpenSpec.ofChange queueLeadsSpec)

/-- ITS FALSE NEIGHBOUR: 'it returns false'. Refute it at one input. -/
def queueLeadsWrong : ChangeSpec := { name := "queueLeads", fn := fun _ => fun
  | [d1, d2, d3] => { results := [.lit (.bool false)], args := [d1, d2, d3] }
  | _ => none }
def QueueLeadsWrongFalsely : Prop := queueLeadsRow.holds Try.pinned (OpenSpec.ofChange queueLeadsWrong)

/-- 'ratlinelaw21.QueueGroups': WHATEVER THE INPUT: true; the input reads as it did. -/
def queueGroupsSpec : ChangeSpec := { name := "queueGroups", fn := fun _ => fun
  | [d1, d2, d3, d4, d5] => { results := [.lit (.bool true)], args := [d1, d2, d3, d4, d5] }
  | _ => none }
def queueGroupsRow : OpenClaim := { program := "ythlahhkjoocigaa", sum := "d9482703ae3d9ce070c7b607e8f044c4f50ecf4f7b9aabac6800220444d85881", func := "ratline/ratlinelaw21.QueueGroups", spec := "queueGroups", unfollowed := true, recurses := true, apart := false }
def QueueGroupsSaid : Prop := queueGroupsRow.holds Try.pinned (OpenSpec.ofChange queueGroupsSpec)

/-- ITS FALSE NEIGHBOUR: 'it returns false'. Refute it at one input. -/
def queueGroupsWrong : ChangeSpec := { name := "queueGroups", fn := fun _ => fun
  | [d1, d2, d3, d4, d5] => { results := [.lit (.bool false)], args := [d1, d2, d3, d4, d5] }
  | _ => none }
def QueueGroupsWrongFalsely : Prop := queueGroupsRow.holds Try.pinned (OpenSpec.ofChange queueGroupsWrong)

/-- 'ratlinelaw21.QueueTells': WHATEVER THE INPUT: true; the input reads as it did. -/
def queueTellsSpec : ChangeSpec := { name := "queueTells", fn := fun _ => fun
  | [d1, d2, d3] => { results := [.lit (.bool true)], args := [d1, d2, d3] }
  | _ => none }
def queueTellsRow : OpenClaim := { program := "ythlahhkjoocigaa", sum := "d9482703ae3d9ce070c7b607e8f044c4f50ecf4f7b9aabac6800220444d85881", func := "ratline/ratlinelaw21.QueueTells", spec := "queueTells", unfollowed := true, recurses := true, apart := false }
def QueueTellsSaid : Prop := queueTellsRow.holds Try.pinned (OpenSpec.ofChange queueTellsSpec)

/-- ITS FALSE NEIGHBOUR: 'it returns false'. Refute it at one input. -/
def queueTellsWrong : ChangeSpec := { name := "queueTells", fn := fun _ => fun
  | [d1, d2, d3] => { results := [.lit (.bool false)], args := [d1, d2, d3] }
  | _ => none }
def QueueTellsWrongFalsely : Prop := queueTellsRow.holds Try.pinned (OpenSpec.ofChange queueTellsWrong)

/-- 'ratlinelaw21.QueueFails': WHATEVER THE INPUT: true; the input reads as it did. -/
def queueFailsSpec : ChangeSpec := { name := "queueFails", fn := fun _ => fun
  | [d1, d2] => { results := [.lit (.bool true)], args := [d1, d2] }
  | _ => none }
def queueFailsRow : OpenClaim := { program := "ythlahhkjoocigaa", sum := "d9482703ae3d9ce070c7b607e8f044c4f50ecf4f7b9aabac6800220444d85881", func := "ratline/ratlinelaw21.QueueFails", spec := "queueFails", unfollowed := true, recurses := true, apart := false }
def QueueFailsSaid : Prop := queueFailsRow.holds Try.pinned (OpenSpec.ofChange queueFailsSpec)

/-- ITS FALSE NEIGHBOUR: 'it returns false'. Refute it at one input. -/
def queueFailsWrong : ChangeSpec := { name := "queueFails", fn := fun _ => fun
  | [d1, d2] => { results := [.lit (.bool false)], args := [d1, d2] }
  | _ => none }
def QueueFailsWrongFalsely : Prop := queueFailsRow.holds Try.pinned (OpenSpec.ofChange queueFailsWrong)

/- THE SECOND FORM. 'bulk': how many values and letters a reading holds, each counted each time it is reached (what is shared counts as often as it is met; a slice's spare places count too). A statement '..UptoSaid' is the law's where the arguments, and the package variables that the reading takes, are together of bulk at most 1048576: NARROWER than '..Said'. Prove '..Said' where nothing that the law and all that it calls make is longer than what came in: it says more and counts as full. Else prove '..UptoSaid'. A law counts once. -/
mutual
def uptoBulk {H : Type} : DataW H → Nat
  | .lit (.string bytes) => bytes.length + 1
  | .lit _ => 1
  | .nil => 1
  | .ptr d => uptoBulk d + 1
  | .slice elems spare => uptoBulkAll elems + uptoBulkAll spare + 1
  | .agg parts => uptoBulkAll parts + 1
  | .iface _ d => uptoBulk d + 1
  | .map entries => uptoBulkEntries entries + 1
  | .held _ => 1
def uptoBulkAll {H : Type} : List (DataW H) → Nat
  | [] => 0
  | d :: r => uptoBulk d + uptoBulkAll r
def uptoBulkEntries {H : Type} : List (Lit × DataW H) → Nat
  | [] => 0
  | x :: r => uptoBulkEntry x + uptoBulkEntries r
def uptoBulkEntry {H : Type} : Lit × DataW H → Nat
  | (.string bytes, d) => bytes.length + uptoBulk d + 1
  | (_, d) => uptoBulk d + 1
 end
def uptoSmall : (H : Type) → List (DataW H) → Bool := fun _ ds => decide (uptoBulkAll ds ≤ 1048576)
def OpenSpec.upto (s : _root_.Go.ChangeSpec) : _root_.Go.OpenSpec := { _root_.Go.OpenSpec.ofChange s with cond := some uptoSmall }

/-- 'ratlinelaw29.FairTells', WHERE WHAT IT READS IS OF BULK AT MOST 1048576: true; the input reads as it did. -/
def fairTellsUptoRow : OpenClaim := { program := "ythlahhkjoocigaa", sum := "d9482703ae3d9ce070c7b607e8f044c4f50ecf4f7b9aabac6800220444d85881", func := "ratline/ratlinelaw29.FairTells", spec := "fairTells", unfollowed := true, recurses := true, apart := false, narrowed := true }
def FairTellsUptoSaid : Prop := fairTellsUptoRow.holds Try.pinned (OpenSpec.upto fairTellsSpec)

/-- 'ratlinelaw29.FairGrows', WHERE WHAT IT READS IS OF BULK AT MOST 1048576: true; the input reads as it did. -/
def fairGrowsUptoRow : OpenClaim := { program := "ythlahhkjoocigaa", sum := "d9482703ae3d9ce070c7b607e8f044c4f50ecf4f7b9aabac6800220444d85881", func := "ratline/ratlinelaw29.FairGrows", spec := "fairGrows", unfollowed := true, recurses := true, apart := false, narrowed := true }
def FairGrowsUptoSaid : Prop := fairGrowsUptoRow.holds Try.pinned (OpenSpec.upto fairGrowsSpec)

/-- 'ratlinelaw16.SchedTells', WHERE WHAT IT READS IS OF BULK AT MOST 1048576: true; the input reads as it did. -/
def schedTellsUptoRow : OpenClaim := { program := "ythlahhkjoocigaa", sum := "d9482703ae3d9ce070c7b607e8f044c4f50ecf4f7b9aabac6800220444d85881", func := "ratline/ratlinelaw16.SchedTells", spec := "schedTells", unfollowed := true, recurses := true, apart := false, narrowed := true }
def SchedTellsUptoSaid : Prop := schedTellsUptoRow.holds Try.pinned (OpenSpec.upto schedTellsSpec)

/-- 'ratlinelaw16.SchedRobin', WHERE WHAT IT READS IS OF BULK AT MOST 1048576: true; the input reads as it did. -/
def schedRobinUptoRow : OpenClaim := { program := "ythlahhkjoocigaa", sum := "d9482703ae3d9ce070c7b607e8f044c4f50ecf4f7b9aabac6800220444d85881", func := "ratline/ratlinelaw16.SchedRobin", spec := "schedRobin", unfollowed := true, recurses := true, apart := false, narrowed := true }
def SchedRobinUptoSaid : Prop := schedRobinUptoRow.holds Try.pinned (OpenSpec.upto schedRobinSpec)

/-- 'ratlinelaw16.SchedFair', WHERE WHAT IT READS IS OF BULK AT MOST 1048576: true; the input reads as it did. -/
def schedFairUptoRow : OpenClaim := { program := "ythlahhkjoocigaa", sum := "d9482703ae3d9ce070c7b607e8f044c4f50ecf4f7b9aabac6800220444d85881", func := "ratline/ratlinelaw16.SchedFair", spec := "schedFair", unfollowed := true, recurses := true, apart := false, narrowed := true }
def SchedFairUptoSaid : Prop := schedFairUptoRow.holds Try.pinned (OpenSpec.upto schedFairSpec)

/-- 'ratlinelaw16.SchedWaits', WHERE WHAT IT READS IS OF BULK AT MOST 1048576: true; the input reads as it did. -/
def schedWaitsUptoRow : OpenClaim := { program := "ythlahhkjoocigaa", sum := "d9482703ae3d9ce070c7b607e8f044c4f50ecf4f7b9aabac6800220444d85881", func := "ratline/ratlinelaw16.SchedWaits", spec := "schedWaits", unfollowed := true, recurses := true, apart := false, narrowed := true }
def SchedWaitsUptoSaid : Prop := schedWaitsUptoRow.holds Try.pinned (OpenSpec.upto schedWaitsSpec)

/-- 'ratlinelaw21.QueueOrder', WHERE WHAT IT READS IS OF BULK AT MOST 1048576: true; the input reads as it did. -/
def queueOrderUptoRow : OpenClaim := { program := "ythlahhkjoocigaa", sum := "d9482703ae3d9ce070c7b607e8f044c4f50ecf4f7b9aabac6800220444d85881", func := "ratline/ratlinelaw21.QueueOrder", spec := "queueOrder", unfollowed := true, recurses := true, apart := false, narrowed := true }
def QueueOrderUptoSaid : Prop := queueOrderUptoRow.holds Try.pinned (OpenSpec.upto queueOrderSpec)

/-- 'ratlinelaw21.QueueLeads', WHERE WHAT IT READS IS OF BULK AT MOST 1048576: true; the input reads as it did. -/
def queueLeadsUptoRow : OpenClaim := { program := "ythlahhkjoocigaa", sum := "d9482703ae3d9ce070c7b607e8f044c4f50ecf4f7b9aabac6800220444d85881", func := "ratline/ratlinelaw21.QueueLeads", spec := "queueLeads", unfollowed := true, recurses := true, apart := false, narrowed := true }
def QueueLeadsUptoSaid : Prop := queueLeadsUptoRow.holds Try.pinned (OpenSpec.upto queueLeadsSpec)

/-- 'ratlinelaw21.QueueGroups', WHERE WHAT IT READS IS OF BULK AT MOST 1048576: true; the input reads as it did. -/
def queueGroupsUptoRow : OpenClaim := { program := "ythlahhkjoocigaa", sum := "d9482703ae3d9ce070c7b607e8f044c4f50ecf4f7b9aabac6800220444d85881", func := "ratline/ratlinelaw21.QueueGroups", spec := "queueGroups", unfollowed := true, recurses := true, apart := false, narrowed := true }
def QueueGroupsUptoSaid : Prop := queueGroupsUptoRow.holds Try.pinned (OpenSpec.upto queueGroupsSpec)

/-- 'ratlinelaw21.QueueTells', WHERE WHAT IT READS IS OF BULK AT MOST 1048576: true; the input reads as it did. -/
def queueTellsUptoRow : OpenClaim := { program := "ythlahhkjoocigaa", sum := "d9482703ae3d9ce070c7b607e8f044c4f50ecf4f7b9aabac6800220444d85881", func := "ratline/ratlinelaw21.QueueTells", spec := "queueTells", unfollowed := true, recurses := true, apart := false, narrowed := true }
def QueueTellsUptoSaid : Prop := queueTellsUptoRow.holds Try.pinned (OpenSpec.upto queueTellsSpec)

/-- 'ratlinelaw21.QueueFails', WHERE WHAT IT READS IS OF BULK AT MOST 1048576: true; the input reads as it did. -/
def queueFailsUptoRow : OpenClaim := { program := "ythlahhkjoocigaa", sum := "d9482703ae3d9ce070c7b607e8f044c4f50ecf4f7b9aabac6800220444d85881", func := "ratline/ratlinelaw21.QueueFails", spec := "queueFails", unfollowed := true, recurses := true, apart := false, narrowed := true }
def QueueFailsUptoSaid : Prop := queueFailsUptoRow.holds Try.pinned (OpenSpec.upto queueFailsSpec)

end Rows
end Go.Proofs.Ythlahhkjoocigaa
