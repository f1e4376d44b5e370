/- What a look-up in a law's map tells; calls of a disk without a plan. -/
import Derived.Test.YteibdmpjlpcgbaaHLaw
import Derived.Sort.Walk0
namespace Go.Proofs.Yteibdmpjlpcgbaa.XDisk
open Go Go.RowKit Go.Proofs.YteibdmpjlpcgbaaW.PrintWords Go.Proofs.YteibdmpjlpcgbaaW.PrintLast Go.Proofs.YteibdmpjlpcgbaaW.PrintMore
open Go.Proofs.Yteibdmpjlpcgbaa
set_option linter.unusedVariables false
set_option linter.unusedSimpArgs false
theorem doesP_fails (S : DA) (a : Int) (n1 n2 : Nm) (b ks : List Int) : (doesP S a n1 n2 b ks).1.fails = S.fails := by
  unfold doesP createP appendP syncP renameP removeP crashP cnt
  repeat' split
  all_goals rfl
theorem doesO_fails (S : DA) (o : S32) : (doesO S o).1.fails = S.fails := doesP_fails _ _ _ _ _ _
theorem isRef_nil {S : DA} (h : S.fails = []) : isRef S = false := by
  unfold isRef refusedP
  rw [h]
  rfl
theorem toList_str (n : Nm) : (str n).toList = n := by rw [ByteArray.toList_eq]; rfl
theorem bytes_lt {a b : Nm} (h : a < b) : Op.bytesLess (str a).toList (str b).toList = true := by
  rw [Go.Proofs.bytesLess_eq, toList_str, toList_str, decide_eq_true_eq]
  exact h
theorem look_filesOf {F : List (Nm × FA)} (hr : Rising F) (n : Nm) : HStrMap.look (filesOf F) (str n) = (get F n).map fval := by
  unfold HStrMap.look get filesOf
  rw [List.find?_map, Option.map_map, Option.map_map]
  have : ((fun p : ByteArray × Value => decide (p.1 = str n)) ∘ fun p : Nm × FA => (str p.1, fval p.2)) = fun p => decide (p.1 = n) := by
    funext p
    simp only [Function.comp]
    by_cases h : p.1 = n
    · simp [h]
    · have : str p.1 ≠ str n := fun e => h (str_inj e)
      simp [h, this]
  rw [this]
  rfl
/-- What a look-up in a law's map tells. -/
def lookF (F : List (Nm × FA)) (n : Nm) : Value := ((get F n).map fval).getD (.agg #[.string ByteArray.empty, .int .i64 0])
theorem lookF_form (F : List (Nm × FA)) (n : Nm) : ∃ s x, lookF F n = .agg #[.string s, .int .i64 x] := by
  unfold lookF
  cases get F n with
  | none => exact ⟨_, _, rfl⟩
  | some f => exact ⟨_, _, rfl⟩
theorem run_lookF {w : World} {m k : Nat} {F : List (Nm × FA)} (hr : Rising F) (h : HStrMap.Owns m35 w m k (filesOf F)) (n : Nm) (hn : n.length ≤ 1000) : (Instr.lookup 35 (.map (some m)) (.string (str n)) false).run Try.prog w = .ok (lookF F n) w := by
  have h1 := HStrMap.run_look m35 h (s := str n) (by rw [str_size]; unfold maxLen; omega)
  rw [look_filesOf hr] at h1
  exact h1
theorem run_lookF2 {w : World} {m k : Nat} {F : List (Nm × FA)} (hr : Rising F) (h : HStrMap.Owns m35 w m k (filesOf F)) (n : Nm) (hn : n.length ≤ 1000) : (Instr.lookup 35 (.map (some m)) (.string (str n)) true).run Try.prog w = .ok (.tuple #[lookF F n, .bool (get F n).isSome]) w := by
  have h1 := HStrMap.run_look2 m35 h (s := str n) (by rw [str_size]; unfold maxLen; omega)
  rw [look_filesOf hr] at h1
  rw [show (Option.map fval (get F n)).isSome = (get F n).isSome by cases get F n <;> rfl] at h1
  exact h1
theorem vN_false {n : Nm} (h : vN n = false) : n = [] ∨ 40 < n.length := by
  unfold vN at h
  rw [Bool.and_eq_false_iff, decide_eq_false_iff_not, decide_eq_false_iff_not] at h
  rcases h with h | h
  · exact .inl (List.eq_nil_of_length_eq_zero (by omega))
  · exact .inr (by omega)
theorem vN_true {n : Nm} (h : vN n = true) : n ≠ [] ∧ n.length ≤ 40 := by
  unfold vN at h
  simp only [Bool.and_eq_true, decide_eq_true_eq] at h
  exact ⟨fun e => by rw [e] at h; simp at h, h.2⟩
/-- What Rename comes to, without a plan. -/
theorem ren_none {S : DA} {o n : Nm} (hg : get S.files o = none) : ∃ e, renameP S o n = (cnt S, e) ∧ (e = 2 ∨ e = 10) := by
  unfold renameP
  split
  · exact ⟨2, rfl, .inl rfl⟩
  · rw [hg]; exact ⟨10, rfl, .inr rfl⟩
theorem ren_bad {S : DA} {o n : Nm} (hv : vN n = false) : renameP S o n = (cnt S, 2) := by
  unfold renameP
  rw [if_pos (.inr hv)]
theorem ren_ok {S : DA} {o n : Nm} {f : FA} (hf : S.fails = []) (hv : vN o = true) (hv2 : vN n = true) (hg : get S.files o = some f) : renameP S o n = ({ cnt S with files := put n f (del o S.files) }, 0) := by
  unfold renameP
  rw [if_neg (by rw [hv, hv2]; intro h; rcases h with h | h <;> cases h), hg]
  simp only [isRef_nil hf]
  rfl
theorem rem_no {S : DA} {n : Nm} (h : vN n = false ∨ get S.files n = none) : ∃ e, removeP S n = (cnt S, e) ∧ (e = 2 ∨ e = 10) := by
  unfold removeP
  split
  · exact ⟨2, rfl, .inl rfl⟩
  · rename_i hv
    rcases h with h | h
    · exact absurd h hv
    · rw [h]; exact ⟨10, rfl, .inr rfl⟩
theorem rem_ok {S : DA} {n : Nm} {f : FA} (hf : S.fails = []) (hv : vN n = true) (hg : get S.files n = some f) : removeP S n = ({ cnt S with files := del n S.files }, 0) := by
  unfold removeP
  rw [if_neg (by rw [hv]; decide), hg, if_neg (by intro h; cases h), isRef_nil hf, if_neg (by decide)]
theorem cre_ok {S : DA} {n : Nm} (hf : S.fails = []) (hv : vN n = true) (hg : get S.files n = none) : createP S n = ({ cnt S with files := put n ⟨[], 0⟩ S.files }, 0) := by
  unfold createP
  rw [if_neg (by rw [hv]; decide), hg, if_neg (by decide), isRef_nil hf, if_neg (by decide)]
theorem cre_there {S : DA} {n : Nm} {f : FA} (hv : vN n = true) (hg : get S.files n = some f) : createP S n = (cnt S, 11) := by
  unfold createP
  rw [if_neg (by rw [hv]; decide), hg, if_pos (show (some f).isSome = true from rfl)]
end Go.Proofs.Yteibdmpjlpcgbaa.XDisk
