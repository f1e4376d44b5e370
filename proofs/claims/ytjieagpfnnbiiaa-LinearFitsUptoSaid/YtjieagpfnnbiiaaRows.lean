/-
  No cell of these rows narrows 'for every input' (looked for: loops, veiled, ifaces, maps, wideKeys, modest, calm, conditions, laid).
  DERIVED. THE GIVEN ROWS OF THIS SEAT. 3 by the template 'for every input the law returns true; each argument reads behind the call as it read before'; 0 by the template 'total and deterministic' (their statements: YtjieagpfnnbiiaaTotals.lean).
  GIVEN WITH THE SEED: the statements are not yours to turn. If you find one false, say at which input.
  Laid BY PROGRAM, IN A SANDBOX (cutbox-rows.mjs): the forced cells as the released guide's own fill.sh prints them over the translation 84a9dac30e3c8a37… (all of the seat's roots in one cut). By AI agents, Wed Nov 11 2026. No macro, syntax, notation, axiom, sorry.
-/
import Derived.Test.YtjieagpfnnbiiaaChecked
import GoSem.Claim
import GoSem.ClaimJoined
import GoSem.ClaimMapViews
import Derived.JoinedTies
import Derived.KernelRfl
namespace Go.Proofs.Ytjieagpfnnbiiaa
/- THE CELL 'sum', in the pinned program and in every row, IS THE sha256 OF THE DUMP (.gsa) THAT YtjieagpfnnbiiaaProg.lean LOADS. Nothing in Lean hashes anything: it is a label: what it is worth is what the hold of that sum in a sandbox is worth. -/
noncomputable def Try.pinned : Pinned := { name := "ytjieagpfnnbiiaa", sum := "84a9dac30e3c8a37ff66776c3b4ed858838e2ad164e04b53c498ea428f8d2ca9", checked := Try.checked }
namespace Rows
def none {H : Type} : Left H := { results := [], args := [] }

/-- 'ratlinelaw28.LinearAlone': WHATEVER THE INPUT: true; the input reads as it did. -/
def linearAloneSpec : ChangeSpec := { name := "linearAlone", fn := fun _ => fun
  | [d1, d2, d3, d4] => { results := [.lit (.bool true)], args := [d1, d2, d3, d4] }
  | _ => none }
def linearAloneRow : OpenClaim := { program := "ytjieagpfnnbiiaa", sum := "84a9dac30e3c8a37ff66776c3b4ed858838e2ad164e04b53c498ea428f8d2ca9", func := "ratline/ratlinelaw28.LinearAlone", spec := "linearAlone", inPlace := ["slices.overlaps[ratline/api.Pair]"], unfollowed := true, recurses := true, plainKeys := false, apart := false }
def LinearAloneSaid : Prop := linearAloneRow.holds Try.pinned (OpenSpec.ofChange linearAloneSpec)

/-- ITS FALSE NEIGHBOUR: 'it returns false'. Refute it at one input. -/
def linearAloneWrong : ChangeSpec := { name := "linearAlone", fn := fun _ => fun
  | [d1, d2, d3, d4] => { results := [.lit (.bool false)], args := [d1, d2, d3, d4] }
  | _ => none }
def LinearAloneWrongFalsely : Prop := linearAloneRow.holds Try.pinned (OpenSpec.ofChange linearAloneWrong)

/-- 'ratlinelaw28.LinearFits': WHATEVER THE INPUT: true; the input reads as it did. -/
def linearFitsSpec : ChangeSpec := { name := "linearFits", fn := fun _ => fun
  | [d1, d2, d3, d4, d5] => { results := [.lit (.bool true)], args := [d1, d2, d3, d4, d5] }
  | _ => none }
def linearFitsRow : OpenClaim := { program := "ytjieagpfnnbiiaa", sum := "84a9dac30e3c8a37ff66776c3b4ed858838e2ad164e04b53c498ea428f8d2ca9", func := "ratline/ratlinelaw28.LinearFits", spec := "linearFits", inPlace := ["slices.overlaps[ratline/api.Pair]"], unfollowed := true, recurses := true, plainKeys := false, apart := false }
def LinearFitsSaid : Prop := linearFitsRow.holds Try.pinned (OpenSpec.ofChange linearFitsSpec)

/-- ITS FALSE NEIGHBOUR: 'it returns false'. Refute it at one input. -/
def linearFitsWrong : ChangeSpec := { name := "linearFits", fn := fun _ => fun
  | [d1, d2, d3, d4, d5] => { results := [.lit (.bool false)], args := [d1, d2, d3, d4, d5] }
  | _ => none }
def LinearFitsWrongFalsely : Prop := linearFitsRow.holds Try.pinned (OpenSpec.ofChange linearFitsWrong)

/-- 'ratlinelaw28.LinearTells': WHATEVER THE INPUT: true; the input reads as it did. -/
def linearTellsSpec : ChangeSpec := { name := "linearTells", fn := fun _ => fun
  | [d1, d2, d3, d4, d5] => { results := [.lit (.bool true)], args := [d1, d2, d3, d4, d5] }
  | _ => none }
def linearTellsRow : OpenClaim := { program := "ytjieagpfnnbiiaa", sum := "84a9dac30e3c8a37ff66776c3b4ed858838e2ad164e04b53c498ea428f8d2ca9", func := "ratline/ratlinelaw28.LinearTells", spec := "linearTells", inPlace := ["slices.overlaps[ratline/api.Pair]"], unfollowed := true, recurses := true, plainKeys := false, apart := false }
def LinearTellsSaid : Prop := linearTellsRow.holds Try.pinned (OpenSpec.ofChange linearTellsSpec)

/-- ITS FALSE NEIGHBOUR: 'it returns false'. Refute it at one input. -/
def linearTellsWrong : ChangeSpec := { name := "linearTells", fn := fun _ => fun
  | [d1, d2, d3, d4, d5] => { results := [.lit (.bool false)], args := [d1, d2, d3, d4, d5] }
  | _ => none }
def LinearTellsWrongFalsely : Prop := linearTellsRow.holds Try.pinned (OpenSpec.ofChange linearTellsWrong)

/- THE SECOND FORM. 'bulk': how many values and letters a reading holds, each counted each time it is reached (what is shared counts as often as it is met; a slice's spare places count too). A statement '..UptoSaid' is the law's where the arguments, and the package variables that the reading takes, are together of bulk at most 1048576: NARROWER than '..Said'. Prove '..Said' where nothing that the law and all that it calls make is longer than what came in: it says more and counts as full. Else prove '..UptoSaid'. A law counts once. -/
mutual
def uptoBulk {H : Type} : DataW H → Nat
  | .lit (.string bytes) => bytes.length + 1
  | .lit _ => 1
  | .nil => 1
  | .ptr d => uptoBulk d + 1
  | .slice elems spare => uptoBulkAll elems + uptoBulkAll spare + 1
  | .agg parts => uptoBulkAll parts + 1
  | .iface _ d => uptoBulk d + 1
  | .map entries => uptoBulkEntries entries + 1
  | .held _ => 1
def uptoBulkAll {H : Type} : List (DataW H) → Nat
  | [] => 0
  | d :: r => uptoBulk d + uptoBulkAll r
def uptoBulkEntries {H : Type} : List (Lit × DataW H) → Nat
  | [] => 0
  | x :: r => uptoBulkEntry x + uptoBulkEntries r
def uptoBulkEntry {H : Type} : Lit × DataW H → Nat
  | (.string bytes, d) => bytes.length + uptoBulk d + 1
  | (_, d) => uptoBulk d + 1
 end
def uptoSmall : (H : Type) → List (DataW H) → Bool := fun _ ds => decide (uptoBulkAll ds ≤ 1048576)
def OpenSpec.upto (s : _root_.Go.ChangeSpec) : _root_.Go.OpenSpec := { _root_.Go.OpenSpec.ofChange s with cond := some uptoSmall }

/-- 'ratlinelaw28.LinearAlone', WHERE WHAT IT READS IS OF BULK AT MOST 1048576: true; the input reads as it did. -/
def linearAloneUptoRow : OpenClaim := { program := "ytjieagpfnnbiiaa", sum := "84a9dac30e3c8a37ff66776c3b4ed858838e2ad164e04b53c498ea428f8d2ca9", func := "ratline/ratlinelaw28.LinearAlone", spec := "linearAlone", inPlace := ["slices.overlaps[ratline/api.Pair]"], unfollowed := true, recurses := true, plainKeys := false, apart := false, narrowed := true }
def LinearAloneUptoSaid : Prop := linearAloneUptoRow.holds Try.pinned (OpenSpec.upto linearAloneSpec)

/-- 'ratlinelaw28.LinearFits', WHERE WHAT IT READS IS OF BULK AT MOST 1048576: true; the input reads as it did. -/
def linearFitsUptoRow : OpenClaim := { program := "ytjieagpfnnbiiaa", sum := "84a9dac30e3c8a37ff66776c3b4ed858838e2ad164e04b53c498ea428f8d2ca9", func := "ratline/ratlinelaw28.LinearFits", spec := "linearFits", inPlace := ["slices.overlaps[ratline/api.Pair]"], unfollowed := true, recurses := true, plainKeys := false, apart := false, narrowed := true }
def LinearFitsUptoSaid : Prop := linearFitsUptoRow.holds Try.pinned (OpenSpec.upto linearFitsSpec)

/-- 'ratlinelaw28.LinearTells', WHERE WHAT IT READS IS OF BULK AT MOST 1048576: true; the input reads as it did. -/
def linearTellsUptoRow : OpenClaim := { program := "ytjieagpfnnbiiaa", sum := "84a9dac30e3c8a37ff66776c3b4ed858838e2ad164e04b53c498ea428f8d2ca9", func := "ratline/ratlinelaw28.LinearTells", spec := "linearTells", inPlace := ["slices.overlaps[ratline/api.Pair]"], unfollowed := true, recurses := true, plainKeys := false, apart := false, narrowed := true }
def LinearTellsUptoSaid : Prop := linearTellsUptoRow.holds Try.pinned (OpenSpec.upto linearTellsSpec)

end Rows
end Go.Proofs.Ytjieagpfnnbiiaa
