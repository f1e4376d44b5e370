/- Legal: just if an order fits (plain). -/
import Derived.Test.YtjieagpfnnbiiaaBHLin18
namespace Go.Proofs.Ytjieagpfnnbiiaa.XLin
open Go Go.RowKit Go.Proofs.YtjieagpfnnbiiaaW.PrintWords Go.Proofs.YtjieagpfnnbiiaaW.PrintLast Go.Proofs.YtjieagpfnnbiiaaW.PrintMore
open Go.Proofs.Ytjieagpfnnbiiaa
set_option linter.unusedVariables false
set_option linter.unusedSimpArgs false
theorem fits_cons {l : List S36} {pre : List Int} {m : List S25} {n : Int} {rest : List Int} : fitsFrom l pre m (n :: rest) = true ↔
    (0 ≤ n ∧ n < (l.length : Int)) ∧ mayP (l.getD n.toNat z36) = true ∧ n ∉ pre ∧ (∀ k ∈ pre, aheadP (l.getD n.toNat z36) (l.getD k.toNat z36) = false) ∧ (thenP m (l.getD n.toNat z36)).2 = true ∧ fitsFrom l (pre ++ [n]) (thenP m (l.getD n.toNat z36)).1 rest = true := by
  have han : pre.any (fun k => aheadP (l.getD n.toNat z36) (l.getD k.toNat z36)) = true ↔ ¬ ∀ k ∈ pre, aheadP (l.getD n.toNat z36) (l.getD k.toNat z36) = false := by
    rw [List.any_eq_true]
    constructor
    · rintro ⟨k, hk, h⟩ h2
      rw [h2 k hk] at h
      cases h
    · intro h
      refine Classical.byContradiction (fun hn => h (fun k hk => ?_))
      cases hc : aheadP (l.getD n.toNat z36) (l.getD k.toNat z36)
      · rfl
      · exact absurd ⟨k, hk, hc⟩ hn
  conv => lhs; unfold fitsFrom
  split
  · next h => exact ⟨(fun h => by cases h), fun h2 => by omega⟩
  · next h =>
    split
    · next h1 => exact ⟨(fun h => by cases h), fun h2 => by rw [h2.2.1] at h1; cases h1⟩
    · next h1 =>
      split
      · next h3 => exact ⟨(fun h => by cases h), fun h2 => absurd h3 h2.2.2.1⟩
      · next h3 =>
        split
        · next h4 => exact ⟨(fun h => by cases h), fun h2 => absurd h2.2.2.2.1 (han.1 h4)⟩
        · next h4 =>
          split
          · next h5 => exact ⟨(fun h => by cases h), fun h2 => by rw [h2.2.2.2.2.1] at h5; cases h5⟩
          · next h5 =>
            refine ⟨fun h6 => ⟨by omega, Bool.of_not_eq_false h1, h3, ?_, Bool.of_not_eq_false h5, h6⟩, fun h6 => h6.2.2.2.2.2⟩
            exact Classical.byContradiction (fun q => h4 (han.2 q))
theorem fits_nil {l : List S36} {pre : List Int} {m : List S25} : fitsFrom l pre m [] = true ↔ ∀ n, n < l.length → mustP (l.getD n z36) = true → (n : Int) ∈ pre := by
  unfold fitsFrom
  rw [List.all_eq_true]
  constructor
  · intro h n hn hmu
    have := h n (List.mem_range.2 hn)
    rw [hmu] at this
    simpa using this
  · intro h n hn
    have hn := List.mem_range.1 hn
    cases hmu : mustP (l.getD n z36)
    · rfl
    · simpa using h n hn hmu
theorem fits_facts (l : List S36) : ∀ (rest pre : List Int) (m : List S25), fitsFrom l pre m rest = true →
    (∀ n ∈ rest, (0 ≤ n ∧ n < (l.length : Int)) ∧ mayP (l.getD n.toNat z36) = true ∧ n ∉ pre) ∧ rest.Nodup ∧ (∀ n, n < l.length → mustP (l.getD n z36) = true → (n : Int) ∈ pre ++ rest) ∧
    (∀ xs a ys, rest = xs ++ a :: ys → ∀ b ∈ pre ++ xs, aheadP (l.getD a.toNat z36) (l.getD b.toNat z36) = false)
  | [], pre, m, h => ⟨(fun n hn => by cases hn), List.nodup_nil, (fun n hn hmu => by rw [List.append_nil]; exact fits_nil.1 h n hn hmu), fun xs a ys e => by
      have := congrArg List.length e
      simp at this⟩
  | n :: rest, pre, m, h => by
    obtain ⟨h1, h2, h3, h4, h5, h6⟩ := fits_cons.1 h
    obtain ⟨i1, i2, i3, i4⟩ := fits_facts l rest (pre ++ [n]) _ h6
    refine ⟨fun k hk => ?_, ?_, fun k hk hmu => ?_, fun xs a ys e b hb => ?_⟩
    · rcases List.mem_cons.1 hk with rfl | hk
      · exact ⟨h1, h2, h3⟩
      · exact ⟨(i1 k hk).1, (i1 k hk).2.1, fun hp => (i1 k hk).2.2 (List.mem_append_left _ hp)⟩
    · exact List.nodup_cons.2 ⟨fun hk => (i1 n hk).2.2 (List.mem_append_right _ List.mem_cons_self), i2⟩
    · have := i3 k hk hmu
      rw [List.append_assoc] at this
      exact this
    · cases xs with
      | nil =>
        rw [List.nil_append, List.cons.injEq] at e
        rw [List.append_nil] at hb
        rw [← e.1]
        exact h4 b hb
      | cons x xs =>
        rw [List.cons_append, List.cons.injEq] at e
        refine i4 xs a ys e.2 b ?_
        rw [List.append_assoc]
        rw [e.1]
        exact hb
/-- done says of each call whether it stands in the front of an order. -/
def Ind (l : List S36) (done : List Int) (pre : List Int) : Prop := done.length = l.length ∧ Bits done ∧ ∀ n : Nat, n < l.length → (done.getD n 0 ≠ 0 ↔ (n : Int) ∈ pre)
theorem getD_set {done : List Int} {n k : Nat} (hk : k < done.length) : (done.set n 1).getD k 0 = if n = k then 1 else done.getD k 0 := by
  rw [List.getD_eq_getElem?_getD, List.getD_eq_getElem?_getD, List.getElem?_set]
  split
  · next h =>
    subst h
    rw [if_pos hk]
    rfl
  · rfl
theorem Ind.step {l : List S36} {done pre : List Int} (h : Ind l done pre) (n : Nat) : Ind l (done.set n 1) (pre ++ [(n : Int)]) := by
  refine ⟨by rw [List.length_set]; exact h.1, bits_set h.2.1 n, fun k hk => ?_⟩
  rw [getD_set (by rw [h.1]; exact hk)]
  by_cases e : n = k
  · subst e
    rw [if_pos rfl]
    simp
  · rw [if_neg e, h.2.2 k hk]
    simp only [List.mem_append, List.mem_singleton]
    constructor
    · exact .inl
    · rintro (h | h)
      · exact h
      · omega
theorem waits_no {l : List S36} {done : List Int} {one : Nat} : waitsP l done one = false ↔ ∀ x, x < l.length → x ≠ one → mustP (l.getD x z36) = true → done.getD x 0 = 0 → aheadP (l.getD x z36) (l.getD one z36) = false := by
  unfold waitsP
  rw [List.any_eq_false]
  constructor
  · intro h x hx hne hmu h0
    have := h x (List.mem_range.2 hx)
    unfold waitsOne at this
    rw [decide_eq_true hne, hmu, decide_eq_true h0] at this
    simpa using this
  · intro h x hx hw
    unfold waitsOne at hw
    simp only [Bool.and_eq_true, decide_eq_true_eq] at hw
    rw [h x (List.mem_range.1 hx) hw.1.1.1 hw.1.1.2 hw.1.2] at hw
    exact absurd hw.2 (by decide)
theorem sol_of_fits (l : List S36) : ∀ (rest pre : List Int) (m : List S25) (done : List Int), Ind l done pre → fitsFrom l pre m rest = true → Sol l done m
  | [], pre, m, done, hi, h => .nil (fun n hn hmu => (hi.2.2 n hn).2 (fits_nil.1 h n hn hmu))
  | n :: rest, pre, m, done, hi, h => by
    obtain ⟨i1, i2, i3, i4⟩ := fits_facts l _ _ _ h
    obtain ⟨h1, h2, h3, h4, h5, h6⟩ := fits_cons.1 h
    obtain ⟨k, rfl⟩ : ∃ k : Nat, n = (k : Int) := ⟨n.toNat, by omega⟩
    rw [Int.toNat_natCast] at h2 h4 h5 h6
    have hk : k < l.length := by omega
    have hz : done.getD k 0 = 0 := Classical.byContradiction (fun q => h3 ((hi.2.2 k hk).1 q))
    refine .step k hk h2 hz (waits_no.2 (fun x hx hne hmu h0 => ?_)) h5 (sol_of_fits l rest _ _ _ (hi.step k) h6)
    have hx2 := i3 x hx hmu
    have hxp : (x : Int) ∉ pre := fun q => absurd h0 ((hi.2.2 x hx).2 q)
    have hxr : (x : Int) ∈ rest := by
      rcases List.mem_append.1 hx2 with q | q
      · exact absurd q hxp
      · rcases List.mem_cons.1 q with q | q
        · omega
        · exact q
    obtain ⟨xs, ys, e⟩ := List.append_of_mem hxr
    have := i4 ((k : Int) :: xs) (x : Int) ys (by rw [e]; rfl) (k : Int) (List.mem_append_right _ List.mem_cons_self)
    rw [Int.toNat_natCast, Int.toNat_natCast] at this
    exact this
/-- No call that must be, and is not yet, comes ahead of one that is. -/
def Closed (l : List S36) (pre : List Int) : Prop := ∀ b ∈ pre, ∀ x, x < l.length → (x : Int) ∉ pre → mustP (l.getD x z36) = true → aheadP (l.getD x z36) (l.getD b.toNat z36) = false
theorem fits_of_sol {l : List S36} {done : List Int} {m : List S25} (h : Sol l done m) : ∀ pre, Ind l done pre → Closed l pre → ∃ rest, fitsFrom l pre m rest = true := by
  induction h with
  | nil h =>
    intro pre hi hc
    exact ⟨[], fits_nil.2 (fun n hn hmu => (hi.2.2 n hn).1 (h n hn hmu))⟩
  | @step done m n hn hmay h0 hw ht hs ih =>
    intro pre hi hc
    have hnp : (n : Int) ∉ pre := fun q => (hi.2.2 n hn).2 q h0
    have hw' := waits_no.1 hw
    have hc2 : Closed l (pre ++ [(n : Int)]) := by
      intro b hb x hx hxp hmu
      have hx1 : (x : Int) ∉ pre := fun q => hxp (List.mem_append_left _ q)
      have hx2 : x ≠ n := fun q => hxp (List.mem_append_right _ (by rw [q]; exact List.mem_singleton_self _))
      rcases List.mem_append.1 hb with hb | hb
      · exact hc b hb x hx hx1 hmu
      · obtain rfl := List.mem_singleton.1 hb
        rw [Int.toNat_natCast]
        exact hw' x hx hx2 hmu (Classical.byContradiction (fun q => hx1 ((hi.2.2 x hx).1 q)))
    obtain ⟨rest, hr⟩ := ih (pre ++ [(n : Int)]) (hi.step n) hc2
    refine ⟨(n : Int) :: rest, fits_cons.2 ⟨by omega, by rw [Int.toNat_natCast]; exact hmay, hnp, fun b hb => ?_, by rw [Int.toNat_natCast]; exact ht, by rw [Int.toNat_natCast]; exact hr⟩⟩
    rw [Int.toNat_natCast]
    cases hmu : mustP (l.getD n z36) with
    | true => exact hc b hb n hn hnp hmu
    | false =>
      have hf2 : (l.getD n z36).f2 < 0 := by
        unfold mayP at hmay
        split at hmay
        · assumption
        · rw [hmay] at hmu
          cases hmu
      unfold aheadP
      rw [if_neg (by omega)]
theorem sol_fits {base : List S25} {l : List S36} : Sol l (List.replicate l.length 0) base ↔ ∃ order, fitsP base l order = true := by
  have hi : Ind l (List.replicate l.length 0) [] := ⟨by rw [List.length_replicate], bits_zero _, fun n hn => by
    rw [List.getD_eq_getElem?_getD, List.getElem?_replicate, if_pos hn]
    simp⟩
  constructor
  · intro h
    exact fits_of_sol h [] hi (fun b hb => by cases hb)
  · rintro ⟨order, h⟩
    exact sol_of_fits l order [] base _ hi h
theorem legal_iff {base : List S25} {l : List S36} (hl : l.length ≤ 12) (hb : Small base) : legalP base l = true ↔ ∃ order, fitsP base l order = true := (legal_sol hl hb).trans sol_fits

end Go.Proofs.Ytjieagpfnnbiiaa.XLin
