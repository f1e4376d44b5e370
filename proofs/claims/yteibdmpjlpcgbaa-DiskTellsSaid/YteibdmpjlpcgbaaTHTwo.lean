/- Two disks side by side. -/
import Derived.Test.YteibdmpjlpcgbaaTHLook
namespace Go.Proofs.Yteibdmpjlpcgbaa.XDisk
open Go Go.RowKit Go.Proofs.YteibdmpjlpcgbaaW.PrintWords Go.Proofs.YteibdmpjlpcgbaaW.PrintLast Go.Proofs.YteibdmpjlpcgbaaW.PrintMore
open Go.Proofs.Yteibdmpjlpcgbaa
set_option linter.unusedVariables false
set_option linter.unusedSimpArgs false
/-- The tags of both. -/
def uni (φ ψ : Nat → Tg) : Nat → Tg := fun k => if φ k = .no then ψ k else φ k
theorem uni_no {φ ψ : Nat → Tg} {k : Nat} : uni φ ψ k = .no ↔ φ k = .no ∧ ψ k = .no := by
  unfold uni
  by_cases h : φ k = .no
  · rw [if_pos h]; exact ⟨fun q => ⟨h, q⟩, fun q => q.2⟩
  · rw [if_neg h]; exact ⟨fun q => absurd q h, fun q => q.1⟩
theorem Step.left {w w' : World} {φ φ' : Nat → Tg} (ψ : Nat → Tg) (h : Step w w' φ φ') : Step w w' (uni φ ψ) (uni φ' ψ) :=
  ⟨h.1.mono (fun k hk q => hk (uni_no.1 q).1), fun k hk hno => uni_no.2 ⟨h.2 k hk (uni_no.1 hno).1, (uni_no.1 hno).2⟩⟩
theorem Step.right {w w' : World} {ψ ψ' : Nat → Tg} (φ : Nat → Tg) (h : Step w w' ψ ψ') : Step w w' (uni φ ψ) (uni φ ψ') :=
  ⟨h.1.mono (fun k hk q => hk (uni_no.1 q).2), fun k hk hno => uni_no.2 ⟨(uni_no.1 hno).1, h.2 k hk (uni_no.1 hno).2⟩⟩
end Go.Proofs.Yteibdmpjlpcgbaa.XDisk
