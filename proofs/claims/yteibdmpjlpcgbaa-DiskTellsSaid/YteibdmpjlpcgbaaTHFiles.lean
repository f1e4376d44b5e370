/- The laws' view of a disk: files, same. -/
import Derived.Test.YteibdmpjlpcgbaaTHDoes
namespace Go.Proofs.Yteibdmpjlpcgbaa.XDisk
open Go Go.RowKit Go.Proofs.YteibdmpjlpcgbaaW.PrintWords Go.Proofs.YteibdmpjlpcgbaaW.PrintLast Go.Proofs.YteibdmpjlpcgbaaW.PrintMore
open Go.Proofs.Yteibdmpjlpcgbaa
set_option linter.unusedVariables false
set_option linter.unusedSimpArgs false
/-- The names are names. -/
def Named (l : List (Nm × FA)) : Prop := ∀ p ∈ l, vN p.1 = true
theorem vN_len {n : Nm} (h : vN n = true) : n.length ≤ 40 := by unfold vN at h; simp only [Bool.and_eq_true, decide_eq_true_eq] at h; exact h.2
theorem findP_of {S : DA} (hr : Rising S.files) {p : Nm × FA} (hp : p ∈ S.files) (hv : vN p.1 = true) : findP S p.1 = (p.2, 0) := by
  unfold findP
  rw [if_neg (by rw [hv]; decide), mem_get hr hp]
end Go.Proofs.Yteibdmpjlpcgbaa.XDisk
