/- omap.Right. -/
import Derived.Test.YtjieagpfnnbiiaaBHLin7
namespace Go.Proofs.Ytjieagpfnnbiiaa.XLin
open Go Go.RowKit Go.Proofs.YtjieagpfnnbiiaaW.PrintWords Go.Proofs.YtjieagpfnnbiiaaW.PrintLast Go.Proofs.YtjieagpfnnbiiaaW.PrintMore
open Go.Proofs.Ytjieagpfnnbiiaa
set_option linter.unusedVariables false
set_option linter.unusedSimpArgs false
/-- omap.Right: behind a key. -/
def rightG : Option ByteArray → List S25 → Bool
  | _, [] => true
  | none, p :: l => opOk ⟨1, p.f0, p.f1⟩ && rightG (some p.f0) l
  | some k, p :: l => opOk ⟨1, p.f0, p.f1⟩ && (Op.bytesLess k.toList p.f0.toList && rightG (some p.f0) l)
def rightM (m : List S25) : Bool := rightG none m
def before (m : List S25) : Nat → Option ByteArray
  | 0 => none
  | i + 1 => some (m.getD i z25).f0
theorem rightG_none (p : S25) (l : List S25) : rightG none (p :: l) = (opOk ⟨1, p.f0, p.f1⟩ && rightG (some p.f0) l) := rfl
theorem rightG_some (k : ByteArray) (p : S25) (l : List S25) : rightG (some k) (p :: l) = (opOk ⟨1, p.f0, p.f1⟩ && (Op.bytesLess k.toList p.f0.toList && rightG (some p.f0) l)) := rfl
theorem before_succ (m : List S25) (i : Nat) : before m (i + 1) = some (m.getD i z25).f0 := rfl
theorem before_zero (m : List S25) : before m 0 = none := rfl
theorem right_loop (m : List S25) (hl : m.length ≤ 9223372036854775807) : ∀ (k i : Nat), k + i = m.length + 1 → 0 < k → omap_Right.l0 k m m (m.length : Int) (i : Int) = some (rightG (before m i) (m.drop i))
  | 0, i, h, h0 => absurd h0 (Nat.lt_irrefl 0)
  | k + 1, i, h, _ => by
    unfold omap_Right.l0
    by_cases hi : i < m.length
    · rw [if_pos (by omega), if_pos (by omega), if_pos (by omega), List.drop_eq_getElem_cons hi]
      have e1 : rd_T25 m (i : Int) = m[i] := by rw [rd25_nat, List.getD_eq_getElem?_getD, List.getElem?_eq_getElem hi]; rfl
      have hb : before m (i + 1) = some m[i].f0 := by rw [before_succ, List.getD_eq_getElem?_getD, List.getElem?_eq_getElem hi]; rfl
      have hop : batch_Op.f 1 m[i].f0 m[i].f1 = some (opOk ⟨1, m[i].f0, m[i].f1⟩) := opOk_eq ⟨1, m[i].f0, m[i].f1⟩
      rw [e1, hop, Option.bind_some]
      have hw : wrap64 ((i : Int) + 1) = ((i + 1 : Nat) : Int) := by rw [w64' (by omega) (by omega)]; rfl
      have ih := right_loop m hl k (i + 1) (by omega) (by omega)
      rw [hb] at ih
      by_cases ho : opOk ⟨1, m[i].f0, m[i].f1⟩ = true
      · rw [if_pos ho]
        cases i with
        | zero =>
          rw [if_neg (by omega), hw, ih]
          rw [before_zero, rightG_none, ho]
          rfl
        | succ j =>
          have hw1 : wrap64 (((j + 1 : Nat) : Int) - 1) = (j : Int) := by rw [w64' (by omega) (by omega)]; omega
          have e2 : rd_T25 m (j : Int) = m.getD j z25 := rd25_nat m j
          rw [if_pos (by omega), hw1, if_pos (by omega), if_pos (by omega), e2]
          rw [before_succ, rightG_some, ho]
          by_cases hs : Op.bytesLess (m.getD j z25).f0.toList m[j + 1].f0.toList = true
          · rw [if_pos hs, hw, ih, hs]
            rfl
          · rw [if_neg hs, Bool.eq_false_iff.2 hs]
            rfl
      · rw [if_neg ho]
        have ho2 := Bool.eq_false_iff.2 ho
        cases i with
        | zero => rw [before_zero, rightG_none, ho2]; rfl
        | succ j => rw [before_succ, rightG_some, ho2]; rfl
    · rw [if_neg (by omega), List.drop_eq_nil_of_le (by omega)]
      cases i <;> rfl
theorem right25 (A : Option Addr) (c : Nat) (m : List S25) (w : World) (hm : Kd.C k25 w A m.length m) (hc : m.length ≤ c) : Calls Try.prog 25 #[.slice A m.length c] w fun e w' => e = .returned (.bool (rightM m)) ∧ Below w.heap.size w w' :=
  omap_Right.calls (m.length + 1) A c m (rightM m) w hm hc (by
    unfold omap_Right.f
    have := right_loop m hm.2.1 (m.length + 1) 0 rfl (Nat.succ_pos _)
    rw [List.drop_zero] at this
    exact this)

end Go.Proofs.Ytjieagpfnnbiiaa.XLin
