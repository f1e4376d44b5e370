/- Contracts of layer 21's functions, as the walks by hand ask for them: what does, Of, Group and Give answer. Conditions: a line within its bounds. -/
import Derived.Test.YthlahhkjoocigaaQHDoes
import Derived.Test.YthlahhkjoocigaaQXQueue7
import Derived.Test.YthlahhkjoocigaaQHOpen
import Derived.BigQuiet
namespace Go.Proofs.Ythlahhkjoocigaa.XQueue
open Go Go.RowKit Go.Proofs.YthlahhkjoocigaaW.PrintWords Go.Proofs.YthlahhkjoocigaaW.PrintLast Go.Proofs.YthlahhkjoocigaaW.PrintMore
attribute [local go_sem] max2_int min2_int max_two min_two max_three min_three max_four min_four
set_option linter.unusedVariables false
set_option linter.unusedSimpArgs false
/-- What an op of the statements may be. -/
def OpOk (x : S61) : Prop := (0 ≤ x.f0 ∧ x.f0 ≤ 255) ∧ (-9223372036854775808 ≤ x.f1 ∧ x.f1 ≤ 9223372036854775807) ∧ 0 ≤ x.f4
theorem inf61 : (Try.prog.info? 61).map (fun i => i.size) = some 6 := by kernel_rfl
end Go.Proofs.Ythlahhkjoocigaa.XQueue
