/- The plain law of SchedRobin: where each turn takes whom Robin tells, nobody waits in as many turns as there are tasks. No program's code in sight. -/
import Derived.Test.YthlahhkjoocigaaHSched
namespace Go.Proofs.Ythlahhkjoocigaa.XSched
open Go Go.RowKit Go.Proofs.YthlahhkjoocigaaW.PrintWords Go.Proofs.YthlahhkjoocigaaW.PrintLast
set_option linter.unusedVariables false
set_option linter.unusedSimpArgs false

/-- How many tasks lie between, going round. -/
def roundD (n last m : Int) : Int := (m - last - 1) % n
theorem mod_lo {x n : Int} (h0 : 0 ≤ x) (h1 : x < n) : x % n = x := Int.emod_eq_of_lt h0 h1
theorem mod_hi {x n : Int} (h0 : -n ≤ x) (h1 : x < 0) : x % n = x + n := by
  have h := Int.emod_eq_of_lt (a := x + n) (b := n) (by omega) (by omega)
  rw [Int.add_emod_right] at h
  exact h
def stepOK (n last : Int) (t : S51) : Prop := (0 ≤ t.f0 ∧ t.f0 < n) ∧ ∀ m ∈ t.f1, (0 ≤ m ∧ m < n) ∧ (t.f0 ≠ m → roundD n t.f0 m + 1 ≤ roundD n last m)
def rob (n : Int) : Int → List S51 → Prop
  | _, [] => True
  | last, t :: ts => stepOK n last t ∧ rob n t.f0 ts
def lastOf : Int → List S51 → Int
  | last, [] => last
  | _, t :: ts => lastOf t.f0 ts
theorem rob_snoc (n : Int) (t : S51) : ∀ (T : List S51) (last : Int), rob n last T → stepOK n (lastOf last T) t → rob n last (T ++ [t])
  | [], last, _, h => ⟨h, trivial⟩
  | u :: ts, last, h0, h => ⟨h0.1, rob_snoc n t ts u.f0 h0.2 h⟩
theorem lastOf_snoc (t : S51) : ∀ (T : List S51) (last : Int), lastOf last (T ++ [t]) = t.f0
  | [], _ => rfl
  | u :: ts, _ => lastOf_snoc t ts u.f0
theorem rob_run (n : Int) (hn : 0 < n) (m : Int) : ∀ (T : List S51) (last : Int), rob n last T → (runN m T : Int) ≤ roundD n last m
  | [], last, _ => Int.emod_nonneg _ (by omega)
  | t :: ts, last, h => by
    have ih := rob_run n hn m ts t.f0 h.2
    have h0 : 0 ≤ roundD n last m := Int.emod_nonneg _ (by omega)
    simp only [runN]
    by_cases hw : waitsB m t = true
    · rw [if_pos hw]
      unfold waitsB at hw
      rw [Bool.and_eq_true] at hw
      have h1 := (h.1.2 m (of_decide_eq_true hw.1)).2 (by simpa using hw.2)
      omega
    · rw [if_neg hw]
      exact h0
theorem rob_best (n : Int) (hn : 0 < n) (m : Int) : ∀ (T : List S51) (last : Int), rob n last T → (bestN m T : Int) < n
  | [], _, _ => by simp [bestN]; omega
  | t :: ts, last, h => by
    have ih := rob_best n hn m ts t.f0 h.2
    have h1 := rob_run n hn m (t :: ts) last h
    have h2 : roundD n last m < n := Int.emod_lt_of_pos _ hn
    rw [bestN]
    omega

theorem gt_spec (last : Int) : ∀ (l : List Int) (i : Nat), l.Pairwise (· < ·) → (gtIdx last l (i : Int) = -1 ∧ ∀ m ∈ l, m ≤ last) ∨ ∃ j : Nat, gtIdx last l (i : Int) = ((i + j : Nat) : Int) ∧ j < l.length ∧ last < l.getD j 0 ∧ ∀ m ∈ l, m ≤ last ∨ l.getD j 0 ≤ m
  | [], i, _ => .inl ⟨rfl, fun m hm => by cases hm⟩
  | x :: xs, i, h => by
    obtain ⟨h1, h2⟩ := List.pairwise_cons.1 h
    simp only [gtIdx]
    by_cases hx : last < x
    · rw [if_pos hx]
      refine .inr ⟨0, by simp, by simp, by simpa using hx, fun m hm => ?_⟩
      rcases List.mem_cons.1 hm with hm | hm
      · exact .inr (by simp [hm])
      · have := h1 m hm
        exact .inr (by simp; omega)
    · rw [if_neg hx]
      have e : (i : Int) + 1 = ((i + 1 : Nat) : Int) := by omega
      rw [e]
      rcases gt_spec last xs (i + 1) h2 with ⟨g1, g2⟩ | ⟨j, g1, g2, g3, g4⟩
      · refine .inl ⟨g1, fun m hm => ?_⟩
        rcases List.mem_cons.1 hm with hm | hm
        · omega
        · exact g2 m hm
      · refine .inr ⟨j + 1, by rw [g1]; omega, by simp; omega, by simpa using g3, fun m hm => ?_⟩
        rcases List.mem_cons.1 hm with hm | hm
        · exact .inl (by omega)
        · simpa using g4 m hm

/-- Whom Robin tells. -/
def robPick (c : List Int) (last : Int) : Nat := (mx (gtIdx last c 0) 0).toNat
theorem rob_pick (c : List Int) (n last : Int) (hs : c.Pairwise (· < ·)) (hb : ∀ x ∈ c, 0 ≤ x ∧ x < n) (hl : -1 ≤ last ∧ last < n) (hne : 0 < c.length) (hc : c.length ≤ 12) :
    mx (gtIdx last c 0) 0 % 4294967296 = (robPick c last : Int) ∧ robPick c last < c.length ∧ stepOK n last ⟨c.getD (robPick c last) 0, c⟩ := by
  have hmem : ∀ j, j < c.length → c.getD j 0 ∈ c := by
    intro j hj
    rw [List.getD_eq_getElem?_getD, List.getElem?_eq_getElem hj]
    exact List.getElem_mem _
  rcases gt_spec last c 0 hs with ⟨g1, g2⟩ | ⟨j, g1, g2, g3, g4⟩
  · have e1 : mx (gtIdx last c 0) 0 = 0 := by rw [show gtIdx last c 0 = -1 from g1]; rfl
    have e2 : robPick c last = 0 := by unfold robPick; rw [e1]; rfl
    rw [e1, e2]
    refine ⟨rfl, hne, hb _ (hmem 0 hne), fun m hm => ⟨hb m hm, fun hne2 => ?_⟩⟩
    have hmin : c.getD 0 0 ≤ m := by
      cases c with
      | nil => cases hm
      | cons x xs =>
        rcases List.mem_cons.1 hm with hm | hm
        · rw [hm]; exact Int.le_refl _
        · exact Int.le_of_lt ((List.pairwise_cons.1 hs).1 m hm)
    have h0 := hb m hm
    have h1 := hb _ (hmem 0 hne)
    have h2 := g2 m hm
    generalize c.getD 0 0 = t at *
    replace hne2 : t ≠ m := hne2
    show roundD n t m + 1 ≤ roundD n last m
    unfold roundD
    rw [mod_lo (x := m - t - 1) (by omega) (by omega), mod_hi (x := m - last - 1) (by omega) (by omega)]
    omega
  · have e1 : mx (gtIdx last c 0) 0 = (j : Int) := by
      rw [show gtIdx last c 0 = _ from g1]
      unfold mx
      split <;> omega
    have e2 : robPick c last = j := by unfold robPick; rw [e1]; rfl
    rw [e1, e2]
    refine ⟨by omega, g2, hb _ (hmem j g2), fun m hm => ⟨hb m hm, fun hne2 => ?_⟩⟩
    have h0 := hb m hm
    have h1 := hb _ (hmem j g2)
    have h2 := g4 m hm
    generalize c.getD j 0 = t at *
    replace hne2 : t ≠ m := hne2
    show roundD n t m + 1 ≤ roundD n last m
    unfold roundD
    by_cases hm2 : last < m
    · rw [mod_lo (x := m - t - 1) (by omega) (by omega), mod_lo (x := m - last - 1) (by omega) (by omega)]
      omega
    · rw [mod_hi (x := m - t - 1) (by omega) (by omega), mod_hi (x := m - last - 1) (by omega) (by omega)]
      omega

theorem next_val (c : List Int) (a : Int) (hc : c.length ≤ 12) (hne : 0 < c.length) (h0 : 0 ≤ a) (h1 : a ≤ 4294967295) : sched_Next.f c a = some (c.getD (a.toNat % c.length) 0, true) := by
  unfold sched_Next.f
  have hm : (c.length : Int) % 4294967296 = c.length := by omega
  have ht : Int.tmod a (c.length : Int) = a % (c.length : Int) := Int.tmod_eq_emod_of_nonneg h0
  have h2 := Int.emod_nonneg a (b := (c.length : Int)) (by omega)
  have h3 := Int.emod_lt_of_pos a (b := (c.length : Int)) (by omega)
  have h4 : a % (c.length : Int) = ((a.toNat % c.length : Nat) : Int) := by
    obtain ⟨k, rfl⟩ : ∃ k : Nat, a = k := ⟨a.toNat, by omega⟩
    rw [Int.toNat_natCast, Int.natCast_emod]
  rw [if_neg (by omega)]
  simp only [hm, ht]
  rw [if_neg (by omega), if_pos h2, if_pos h3, h4, rd_nat]
theorem next_nil (a : Int) : sched_Next.f [] a = some (0, false) := by
  unfold sched_Next.f
  rw [if_pos (by simp)]
theorem robin_nil (last : Int) : sched_Robin.f [] last = some (0, false) := rfl
/-- Each that can run is taken by some pick. -/
theorem next_each (c : List Int) (i : Nat) (hc : c.length ≤ 12) (hi : i < c.length) : sched_Next.f c ((i : Int) + 3 * c.length) = some (c.getD i 0, true) := by
  rw [next_val c _ hc (by omega) (by omega) (by omega)]
  have e : ((i : Int) + 3 * (c.length : Int)).toNat = i + 3 * c.length := by omega
  rw [e, Nat.add_mul_mod_self_right, Nat.mod_eq_of_lt hi]

/-- What is true of the turns that are made. -/
def Made (n : Int) (T : List S51) : Prop := rob n (-1) T ∧ (-1 ≤ lastOf (-1) T ∧ lastOf (-1) T < n) ∧ ∀ t ∈ T, t.f1.length ≤ 20 ∧ ∀ x ∈ t.f1, 0 ≤ x ∧ x < 12
theorem made_nil (n : Int) (hn : 0 < n) : Made n [] := ⟨trivial, ⟨by simp [lastOf], by simp [lastOf]; omega⟩, fun t ht => by cases ht⟩
theorem made_snoc (n : Int) (T : List S51) (c : List Int) (hn : n ≤ 12) (hT : Made n T) (hs : c.Pairwise (· < ·)) (hb : ∀ x ∈ c, 0 ≤ x ∧ x < n) (hne : 0 < c.length) (hc : c.length ≤ 12) :
    Made n (T ++ [⟨c.getD (robPick c (lastOf (-1) T)) 0, c⟩]) ∧ lastOf (-1) (T ++ [⟨c.getD (robPick c (lastOf (-1) T)) 0, c⟩]) = c.getD (robPick c (lastOf (-1) T)) 0 := by
  have hp := (rob_pick c n (lastOf (-1) T) hs hb hT.2.1 hne hc).2.2
  have hl := lastOf_snoc ⟨c.getD (robPick c (lastOf (-1) T)) 0, c⟩ T (-1)
  refine ⟨⟨rob_snoc n _ T (-1) hT.1 hp, ?_, ?_⟩, hl⟩
  · rw [hl]
    have h1 := hp.1.1
    have h2 := hp.1.2
    exact ⟨by omega, h2⟩
  · intro t ht
    rcases List.mem_append.1 ht with ht | ht
    · exact hT.2.2 t ht
    · rw [List.mem_singleton.1 ht]
      exact ⟨by simp only; omega, fun x hx => ⟨(hb x hx).1, by have := (hb x hx).2; omega⟩⟩
theorem made_sized (n : Int) (T : List S51) (hT : Made n T) (hl : T.length ≤ 60) : sizedL T = true := by
  unfold sizedL
  rw [Bool.and_eq_true]
  refine ⟨decide_eq_true ?_, ?_⟩
  · have := cans_bound T (fun t ht => (hT.2.2 t ht).1)
    omega
  · rw [List.all_eq_true]
    intro t ht
    rw [List.all_eq_true]
    intro x hx
    have := (hT.2.2 t ht).2 x hx
    have e1 : IntKind.min .i64 = -9223372036854775808 := by decide
    have e2 : IntKind.max .i64 = 9223372036854775807 := by decide
    simp only [Lit.wf, e1, e2, Bool.and_eq_true, decide_eq_true_iff]
    omega
theorem made_fair (n : Int) (T : List S51) (hn : 0 < n) (hT : Made n T) (hl : T.length ≤ 60) : sched_Fair.f T n = some true := by
  rw [fair_prog T n (made_sized n T hT hl)]
  congr 1
  unfold fairB
  rw [Bool.and_eq_true]
  refine ⟨?_, decide_eq_true (by omega)⟩
  rw [List.all_eq_true]
  intro t ht
  rw [List.all_eq_true]
  intro x hx
  exact decide_eq_true (rob_best n hn x T (-1) hT.1)
#print axioms made_fair
end Go.Proofs.Ythlahhkjoocigaa.XSched
