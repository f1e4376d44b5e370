/- The plain law of layer 21, second text: what the statements do with a line, and what holds of it whatever was done. No program's code in sight. -/
import Derived.Test.YthlahhkjoocigaaQHQueue
namespace Go.Proofs.Ythlahhkjoocigaa.XQueue
open Go Go.RowKit Go.Proofs.YthlahhkjoocigaaW.PrintWords Go.Proofs.YthlahhkjoocigaaW.PrintLast
set_option linter.unusedVariables false
set_option linter.unusedSimpArgs false
/-! ### What the statements do with a line -/
/-- Behind an end the first one that waits leads. -/
def leadL : List S65 → List S65
  | [] => []
  | x :: xs => { x with f4 := 1 } :: xs
theorem updN_get (up : S65 → S65) : ∀ (n : Nat) (L : List S65) (i : Nat), i < L.length → (updN up n L).getD i z65 = if i < n then up (L.getD i z65) else L.getD i z65
  | 0, L, i, h => by simp [updN]
  | n + 1, [], i, h => by simp at h
  | n + 1, x :: xs, 0, h => by simp [updN]
  | n + 1, x :: xs, i + 1, h => by
    have := updN_get up n xs i (by simpa using h)
    simp only [updN, List.take_succ_cons, List.map_cons, List.drop_succ_cons, List.cons_append, List.getD_cons_succ] at this ⊢
    rw [this]
    by_cases hh : i < n
    · rw [if_pos hh, if_pos (by omega)]
    · rw [if_neg hh, if_neg (by omega)]
theorem leadL_len (L : List S65) : (leadL L).length = L.length := by cases L <;> rfl
theorem getD_mem65 {L : List S65} {i : Nat} (h : i < L.length) : L.getD i z65 ∈ L := by
  rw [List.getD_eq_getElem?_getD, List.getElem?_eq_getElem h]
  exact List.getElem_mem _

theorem lead_set (l : List S65) (h : 0 < l.length) : l.set 0 (⟨(rd_T65 l 0).f0, (rd_T65 l 0).f1, (rd_T65 l 0).f2, (rd_T65 l 0).f3, 1, (rd_T65 l 0).f5⟩ : S65) = leadL l ∧ (rd_T65 (leadL l) 0).f0 = (rd_T65 l 0).f0 ∧ [(rd_T65 l 0).f0] = (l.take 1).map S65.f0 := by
  cases l with
  | nil => simp at h
  | cons x xs => exact ⟨rfl, rfl, rfl⟩
theorem end_ev (L D : List S65) (g e : Int) (h0 : L.length ≤ 1000) (h1 : D.length ≤ 1000) (hg0 : 0 ≤ g) (hg1 : g ≤ L.length) :
    queue_End.f L D g e = some (if g = 0 then (L, D, 0, []) else (leadL (L.drop g.toNat), D ++ (L.take g.toNat).map (sayDone e), 0, (L.take g.toNat).map S65.f0 ++ ((L.drop g.toNat).take 1).map S65.f0)) := by
  unfold queue_End.f
  by_cases hz : g = 0
  · subst hz
    rw [if_pos rfl, if_pos rfl]
    unfold queue_own.f api_Member_82.f
    rw [if_pos (by omega), if_pos (by omega)]
    rfl
  · rw [if_neg hz, if_neg hz]
    unfold queue_done.f
    rw [if_pos (by omega), Option.bind_some]
    dsimp only
    by_cases hl : L.drop g.toNat = []
    · rw [hl]
      rw [if_neg (by simp)]
      simp [leadL]
    · have hpos : 0 < (L.drop g.toNat).length := List.length_pos_iff.2 hl
      obtain ⟨e1, e2, e3⟩ := lead_set (L.drop g.toNat) hpos
      rw [if_pos (by omega), if_pos (by omega)]
      simp only [show (0 : Int).toNat = 0 from rfl, e1, e2, e3, Option.bind_some]
      rw [if_pos (by simp; omega)]
end Go.Proofs.Ythlahhkjoocigaa.XQueue
