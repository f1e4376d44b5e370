/- What a look-up in a law's map tells; calls of a disk without a plan. -/
import Derived.Test.YteibdmpjlpcgbaaTHLaw
import Derived.Sort.Walk0
namespace Go.Proofs.Yteibdmpjlpcgbaa.XDisk
open Go Go.RowKit Go.Proofs.YteibdmpjlpcgbaaW.PrintWords Go.Proofs.YteibdmpjlpcgbaaW.PrintLast Go.Proofs.YteibdmpjlpcgbaaW.PrintMore
open Go.Proofs.Yteibdmpjlpcgbaa
set_option linter.unusedVariables false
set_option linter.unusedSimpArgs false
theorem toList_str (n : Nm) : (str n).toList = n := by rw [ByteArray.toList_eq]; rfl
end Go.Proofs.Yteibdmpjlpcgbaa.XDisk
