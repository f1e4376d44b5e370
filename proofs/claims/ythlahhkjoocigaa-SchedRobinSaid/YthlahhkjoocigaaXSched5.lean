-- Written by a program of this session (wip/xprint.py): functions of the given Go program as plain Lean functions, and that the machine's calls come to them.
import Derived.Test.YthlahhkjoocigaaXSched0
import Derived.Test.YthlahhkjoocigaaXSched1
import Derived.Test.YthlahhkjoocigaaXSched2
namespace Go.Proofs.Ythlahhkjoocigaa.XSched
open Go.RowKit Go.Proofs.YthlahhkjoocigaaW.PrintWords Go.Proofs.YthlahhkjoocigaaW.PrintLast Go.Proofs.YthlahhkjoocigaaW.PrintMore
attribute [local go_sem] max2_int min2_int max_two min_two max_three min_three max_four min_four   -- for this text's walks alone
set_option linter.unusedVariables false
set_option linter.unusedSimpArgs false

/-! ### ratlinelaw16_SchedWaits: function 8 -/
mutual
def ratlinelaw16_SchedWaits.j0 : Nat → Int → List (S51) → Bool → Option (Bool)
  | 0, _, _, _ => none
  | k + 1, x1, x7, x61 => if x61 = true then (some false) else (ratlinelaw16_SchedWaits.l0 k x1 ([] : List (S51)) x7 (x7.length : Int) 0)
def ratlinelaw16_SchedWaits.l0 : Nat → Int → List (S51) → List (S51) → Int → Int → Option (Bool)
  | 0, _, _, _, _, _ => none
  | k + 1, x1, x12, x62, x63, x64 => if x64 < x63 then (if 0 ≤ x64 then (if x64 < (x62.length : Int) then (if x12.length < 4398046511104 then (ratlinelaw16_SchedWaits.l0 k x1 (x12 ++ [(⟨x1, (rd_T51 x62 x64).f1⟩ : S51)]) x62 x63 (wrap64 (x64 + 1))) else (none)) else (none)) else (none)) else ((sched_Waits.f x12 x1).bind fun t211 => (if t211 = 0 then ((ratlinelaw16_awake.f).bind fun t212 => (some t212)) else (some false)))
end
def ratlinelaw16_SchedWaits.f (k : Nat) (l0 : List (S51)) (a1 : Int) (a2 : Int) : Option (Bool) := (ratlinelaw16_Few.f k l0 40).bind fun t188 => (if t188 = true then ((ratlinelaw16_Turns.f k l0).bind fun t190 => (if (wrap64 ((t190.length : Int) + 1)) = 0 then (none) else ((sched_Waits.f t190 a1).bind fun t193 => (if 0 ≤ (Int.tmod (wrap64 (a2)) (wrap64 ((t190.length : Int) + 1))) then (if (Int.tmod (wrap64 (a2)) (wrap64 ((t190.length : Int) + 1))) ≤ (t190.length : Int) then ((sched_Waits.f (t190.take ((Int.tmod (wrap64 (a2)) (wrap64 ((t190.length : Int) + 1))) : Int).toNat) a1).bind fun t199 => ((sched_Waits.f (t190.drop ((Int.tmod (wrap64 (a2)) (wrap64 ((t190.length : Int) + 1))) : Int).toNat) a1).bind fun t205 => (if t193 < 0 then (ratlinelaw16_SchedWaits.j0 k a1 t190 true) else (if t193 > (t190.length : Int) then (ratlinelaw16_SchedWaits.j0 k a1 t190 true) else (if t193 < (mx t199 t205) then (ratlinelaw16_SchedWaits.j0 k a1 t190 true) else (ratlinelaw16_SchedWaits.j0 k a1 t190 (decide (t193 > (wrap64 (t199 + t205)))))))))) else (none)) else (none))))) else ((ratlinelaw16_awake.f).bind fun t189 => (some t189)))
theorem ratlinelaw16_SchedWaits.mono_l : ∀ k, (∀ y0 y1 y2, LeO (ratlinelaw16_SchedWaits.j0 k y0 y1 y2) (ratlinelaw16_SchedWaits.j0 (k + 1) y0 y1 y2)) ∧ (∀ y0 y1 y2 y3 y4, LeO (ratlinelaw16_SchedWaits.l0 k y0 y1 y2 y3 y4) (ratlinelaw16_SchedWaits.l0 (k + 1) y0 y1 y2 y3 y4))
  | 0 => ⟨fun _ _ _ r h => by simp [ratlinelaw16_SchedWaits.j0] at h, fun _ _ _ _ _ r h => by simp [ratlinelaw16_SchedWaits.l0] at h⟩
  | k + 1 => by
    obtain ⟨ih0, ih1⟩ := ratlinelaw16_SchedWaits.mono_l k
    refine ⟨?_, ?_⟩
    · intro y0 y1 y2
      unfold ratlinelaw16_SchedWaits.j0
      repeat' first
      | (with_reducible exact ih0 _ _ _)
      | (with_reducible exact ih1 _ _ _ _ _)
      | (with_reducible exact ratlinelaw16_Few.mono _ _ _)
      | (with_reducible exact ratlinelaw16_Turns.mono _ _)
      | (with_reducible exact LeO.refl _)
      | (with_reducible exact LeO.none _)
      | (with_reducible refine LeO.ite ?_ ?_)
      | (with_reducible refine LeO.bind ?_ (fun _ => ?_))
      | exact ih0 _ _ _
      | exact ih1 _ _ _ _ _
      | exact ratlinelaw16_Few.mono _ _ _
      | exact ratlinelaw16_Turns.mono _ _
      | exact LeO.none _
      | refine LeO.ite ?_ ?_
      | refine LeO.bind ?_ (fun _ => ?_)
    · intro y0 y1 y2 y3 y4
      unfold ratlinelaw16_SchedWaits.l0
      repeat' first
      | (with_reducible exact ih0 _ _ _)
      | (with_reducible exact ih1 _ _ _ _ _)
      | (with_reducible exact ratlinelaw16_Few.mono _ _ _)
      | (with_reducible exact ratlinelaw16_Turns.mono _ _)
      | (with_reducible exact LeO.refl _)
      | (with_reducible exact LeO.none _)
      | (with_reducible refine LeO.ite ?_ ?_)
      | (with_reducible refine LeO.bind ?_ (fun _ => ?_))
      | exact ih0 _ _ _
      | exact ih1 _ _ _ _ _
      | exact ratlinelaw16_Few.mono _ _ _
      | exact ratlinelaw16_Turns.mono _ _
      | exact LeO.none _
      | refine LeO.ite ?_ ?_
      | refine LeO.bind ?_ (fun _ => ?_)
theorem ratlinelaw16_SchedWaits.mono : ∀ a0 a1 a2 k, LeO (ratlinelaw16_SchedWaits.f k a0 a1 a2) (ratlinelaw16_SchedWaits.f (k + 1) a0 a1 a2) := by
  intro a0 a1 a2 k
  obtain ⟨ih0, ih1⟩ := ratlinelaw16_SchedWaits.mono_l k
  unfold ratlinelaw16_SchedWaits.f
  repeat' first
      | (with_reducible exact ih0 _ _ _)
      | (with_reducible exact ih1 _ _ _ _ _)
      | (with_reducible exact ratlinelaw16_Few.mono _ _ _)
      | (with_reducible exact ratlinelaw16_Turns.mono _ _)
      | (with_reducible exact LeO.refl _)
      | (with_reducible exact LeO.none _)
      | (with_reducible refine LeO.ite ?_ ?_)
      | (with_reducible refine LeO.bind ?_ (fun _ => ?_))
      | exact ih0 _ _ _
      | exact ih1 _ _ _ _ _
      | exact ratlinelaw16_Few.mono _ _ _
      | exact ratlinelaw16_Turns.mono _ _
      | exact LeO.none _
      | refine LeO.ite ?_ ?_
      | refine LeO.bind ?_ (fun _ => ?_)
def ratlinelaw16_SchedWaits.T5 : Bool × List (List Nat × List Nat) := (true, [([], []), ([], []), ([0, 1], [0, 1]), ([], []), ([], []), ([3, 4], [3, 4]), ([], []), ([5, 6, 2], [5, 6]), ([], []), ([], []), ([8, 9], [8, 9]), ([], []), ([10, 11, 7], [10, 11]), ([2, 12, 0, 1, 2], [2]), ([7, 13, 0, 1, 2, 3, 4, 5, 6, 7, 13], [7]), ([12, 14, 0, 1, 2, 3, 4, 5, 6, 7, 8, 9, 10, 11, 12, 13, 14], [12])])
def ratlinelaw16_SchedWaits.B5 : List Nat := [0, 0, 3, 0, 0, 24, 0, 127, 0, 0, 768, 0, 4095, 8191, 16383, 32767]
theorem ratlinelaw16_SchedWaits.tab5 : rtab .any (opsOf Try.f8 5) = ratlinelaw16_SchedWaits.T5 := by kernel_rfl
theorem ratlinelaw16_SchedWaits.bits5 : waitsOk ratlinelaw16_SchedWaits.T5.2 ratlinelaw16_SchedWaits.B5 = true := by kernel_rfl
set_option maxHeartbeats 8000000 in
set_option maxRecDepth 100000 in
theorem ratlinelaw16_SchedWaits.calls (k : Nat) (A0 : Option Addr) (c0 : Nat) (l0 : List (S51)) (a1 : Int) (a2 : Int) (r : Bool) (w : World) (hr0 : Kd.C k51 w A0 l0.length l0) (hc0 : l0.length ≤ c0) (h : ratlinelaw16_SchedWaits.f k l0 a1 a2 = some r) :
    Calls Try.prog 8 #[.slice A0 l0.length c0, .int .i64 a1, .int .u8 a2] w fun e w' => e = .returned (.bool r) ∧ Below w.heap.size w w' := by
  have hu51 := Try.underlying51
  have HR0 := Aside0.mk hr0
  have HC0 := Aside0.mk hc0
  clear hr0 hc0
  have HB := Aside0.mk (Below.refl w.heap.size w)
  have H : ((ratlinelaw16_Few.f k l0 40).bind fun t188 => (if t188 = true then ((ratlinelaw16_Turns.f k l0).bind fun t190 => (if (wrap64 ((t190.length : Int) + 1)) = 0 then (none) else ((sched_Waits.f t190 a1).bind fun t193 => (if 0 ≤ (Int.tmod (wrap64 (a2)) (wrap64 ((t190.length : Int) + 1))) then (if (Int.tmod (wrap64 (a2)) (wrap64 ((t190.length : Int) + 1))) ≤ (t190.length : Int) then ((sched_Waits.f (t190.take ((Int.tmod (wrap64 (a2)) (wrap64 ((t190.length : Int) + 1))) : Int).toNat) a1).bind fun t199 => ((sched_Waits.f (t190.drop ((Int.tmod (wrap64 (a2)) (wrap64 ((t190.length : Int) + 1))) : Int).toNat) a1).bind fun t205 => (if t193 < 0 then (ratlinelaw16_SchedWaits.j0 k a1 t190 true) else (if t193 > (t190.length : Int) then (ratlinelaw16_SchedWaits.j0 k a1 t190 true) else (if t193 < (mx t199 t205) then (ratlinelaw16_SchedWaits.j0 k a1 t190 true) else (ratlinelaw16_SchedWaits.j0 k a1 t190 (decide (t193 > (wrap64 (t199 + t205)))))))))) else (none)) else (none))))) else ((ratlinelaw16_awake.f).bind fun t189 => (some t189)))) = some r := h
  clear h
  replace H := Option.bind_eq_some_iff.mp H
  obtain ⟨t188, A40, H⟩ := H
  replace H : (if t188 = true then ((ratlinelaw16_Turns.f k l0).bind fun t190 => (if (wrap64 ((t190.length : Int) + 1)) = 0 then (none) else ((sched_Waits.f t190 a1).bind fun t193 => (if 0 ≤ (Int.tmod (wrap64 (a2)) (wrap64 ((t190.length : Int) + 1))) then (if (Int.tmod (wrap64 (a2)) (wrap64 ((t190.length : Int) + 1))) ≤ (t190.length : Int) then ((sched_Waits.f (t190.take ((Int.tmod (wrap64 (a2)) (wrap64 ((t190.length : Int) + 1))) : Int).toNat) a1).bind fun t199 => ((sched_Waits.f (t190.drop ((Int.tmod (wrap64 (a2)) (wrap64 ((t190.length : Int) + 1))) : Int).toNat) a1).bind fun t205 => (if t193 < 0 then (ratlinelaw16_SchedWaits.j0 k a1 t190 true) else (if t193 > (t190.length : Int) then (ratlinelaw16_SchedWaits.j0 k a1 t190 true) else (if t193 < (mx t199 t205) then (ratlinelaw16_SchedWaits.j0 k a1 t190 true) else (ratlinelaw16_SchedWaits.j0 k a1 t190 (decide (t193 > (wrap64 (t199 + t205)))))))))) else (none)) else (none))))) else ((ratlinelaw16_awake.f).bind fun t189 => (some t189))) = some r := H
  have A4 := Aside0.mk A40
  clear A40
  by_cases c5 : t188 = true
  · subst c5
    have H1 : ((ratlinelaw16_Turns.f k l0).bind fun t190 => (if (wrap64 ((t190.length : Int) + 1)) = 0 then (none) else ((sched_Waits.f t190 a1).bind fun t193 => (if 0 ≤ (Int.tmod (wrap64 (a2)) (wrap64 ((t190.length : Int) + 1))) then (if (Int.tmod (wrap64 (a2)) (wrap64 ((t190.length : Int) + 1))) ≤ (t190.length : Int) then ((sched_Waits.f (t190.take ((Int.tmod (wrap64 (a2)) (wrap64 ((t190.length : Int) + 1))) : Int).toNat) a1).bind fun t199 => ((sched_Waits.f (t190.drop ((Int.tmod (wrap64 (a2)) (wrap64 ((t190.length : Int) + 1))) : Int).toNat) a1).bind fun t205 => (if t193 < 0 then (ratlinelaw16_SchedWaits.j0 k a1 t190 true) else (if t193 > (t190.length : Int) then (ratlinelaw16_SchedWaits.j0 k a1 t190 true) else (if t193 < (mx t199 t205) then (ratlinelaw16_SchedWaits.j0 k a1 t190 true) else (ratlinelaw16_SchedWaits.j0 k a1 t190 (decide (t193 > (wrap64 (t199 + t205)))))))))) else (none)) else (none))))) = some r := by rw [if_pos rfl] at H; exact H
    clear H
    have H := H1
    clear H1
    replace H := Option.bind_eq_some_iff.mp H
    obtain ⟨t190, A60, H⟩ := H
    replace H : (if (wrap64 ((t190.length : Int) + 1)) = 0 then (none) else ((sched_Waits.f t190 a1).bind fun t193 => (if 0 ≤ (Int.tmod (wrap64 (a2)) (wrap64 ((t190.length : Int) + 1))) then (if (Int.tmod (wrap64 (a2)) (wrap64 ((t190.length : Int) + 1))) ≤ (t190.length : Int) then ((sched_Waits.f (t190.take ((Int.tmod (wrap64 (a2)) (wrap64 ((t190.length : Int) + 1))) : Int).toNat) a1).bind fun t199 => ((sched_Waits.f (t190.drop ((Int.tmod (wrap64 (a2)) (wrap64 ((t190.length : Int) + 1))) : Int).toNat) a1).bind fun t205 => (if t193 < 0 then (ratlinelaw16_SchedWaits.j0 k a1 t190 true) else (if t193 > (t190.length : Int) then (ratlinelaw16_SchedWaits.j0 k a1 t190 true) else (if t193 < (mx t199 t205) then (ratlinelaw16_SchedWaits.j0 k a1 t190 true) else (ratlinelaw16_SchedWaits.j0 k a1 t190 (decide (t193 > (wrap64 (t199 + t205)))))))))) else (none)) else (none)))) = some r := H
    have A6 := Aside0.mk A60
    clear A60
    by_cases c7 : (wrap64 ((t190.length : Int) + 1)) = 0
    · rw [if_pos c7] at H
      exact absurd H (by simp)
    · rw [if_neg c7] at H
      have c7b0 : ((wrap64 ((t190.length : Int) + 1)) == 0) = false := beq_eq_false_iff_ne.mpr c7
      have c7b1 : ((wrap64 ((t190.length : Int) + 1)) != 0) = true := bne_iff_ne.mpr c7
      replace H := Option.bind_eq_some_iff.mp H
      obtain ⟨t193, A80, H⟩ := H
      replace H : (if 0 ≤ (Int.tmod (wrap64 (a2)) (wrap64 ((t190.length : Int) + 1))) then (if (Int.tmod (wrap64 (a2)) (wrap64 ((t190.length : Int) + 1))) ≤ (t190.length : Int) then ((sched_Waits.f (t190.take ((Int.tmod (wrap64 (a2)) (wrap64 ((t190.length : Int) + 1))) : Int).toNat) a1).bind fun t199 => ((sched_Waits.f (t190.drop ((Int.tmod (wrap64 (a2)) (wrap64 ((t190.length : Int) + 1))) : Int).toNat) a1).bind fun t205 => (if t193 < 0 then (ratlinelaw16_SchedWaits.j0 k a1 t190 true) else (if t193 > (t190.length : Int) then (ratlinelaw16_SchedWaits.j0 k a1 t190 true) else (if t193 < (mx t199 t205) then (ratlinelaw16_SchedWaits.j0 k a1 t190 true) else (ratlinelaw16_SchedWaits.j0 k a1 t190 (decide (t193 > (wrap64 (t199 + t205)))))))))) else (none)) else (none)) = some r := H
      have A8 := Aside0.mk A80
      clear A80
      obtain ⟨ji9, hji9⟩ : ∃ j_ : Int, (Int.tmod (wrap64 (a2)) (wrap64 ((t190.length : Int) + 1))) = j_ := ⟨_, rfl⟩
      replace H : (if 0 ≤ (ji9) then (if (ji9) ≤ (t190.length : Int) then ((sched_Waits.f (t190.take ((ji9) : Int).toNat) a1).bind fun t199 => ((sched_Waits.f (t190.drop ((ji9) : Int).toNat) a1).bind fun t205 => (if t193 < 0 then (ratlinelaw16_SchedWaits.j0 k a1 t190 true) else (if t193 > (t190.length : Int) then (ratlinelaw16_SchedWaits.j0 k a1 t190 true) else (if t193 < (mx t199 t205) then (ratlinelaw16_SchedWaits.j0 k a1 t190 true) else (ratlinelaw16_SchedWaits.j0 k a1 t190 (decide (t193 > (wrap64 (t199 + t205)))))))))) else (none)) else (none)) = some r := by first | (rw [hji9] at H; exact H) | (simp only [hji9] at H ⊢; exact H)
      (try rw [hji9] at A4)
      (try rw [hji9] at A6)
      (try rw [hji9] at A8)
      by_cases c10 : 0 ≤ (ji9)
      · rw [if_pos c10] at H
        have c10b0 := eq_true c10
        have c10b1 : decide (0 ≤ (ji9)) = true := decide_eq_true c10
        clear c10
        by_cases c11 : (ji9) ≤ (t190.length : Int)
        · rw [if_pos c11] at H
          have c11b0 := eq_true c11
          have c11b1 : decide ((ji9) ≤ (t190.length : Int)) = true := decide_eq_true c11
          clear c11
          obtain ⟨y194, hy194⟩ : ∃ y_ : List (S51), y_ = (t190.take ((ji9) : Int).toNat) := ⟨_, rfl⟩
          replace H : ((sched_Waits.f y194 a1).bind fun t199 => ((sched_Waits.f (t190.drop ((ji9) : Int).toNat) a1).bind fun t205 => (if t193 < 0 then (ratlinelaw16_SchedWaits.j0 k a1 t190 true) else (if t193 > (t190.length : Int) then (ratlinelaw16_SchedWaits.j0 k a1 t190 true) else (if t193 < (mx t199 t205) then (ratlinelaw16_SchedWaits.j0 k a1 t190 true) else (ratlinelaw16_SchedWaits.j0 k a1 t190 (decide (t193 > (wrap64 (t199 + t205)))))))))) = some r := by first | (rw [hy194]; with_reducible exact H) | (have H2_ := (Option.bind_some _ _).symm.trans H; rw [hy194]; with_reducible exact H2_) | (have H2_ := (Option.bind_some _ _).symm.trans H; with_reducible exact H2_) | with_reducible exact H | (rw [hy194]; exact H) | exact H
          have Ny194 := Aside0.mk hy194
          clear hy194
          replace H := Option.bind_eq_some_iff.mp H
          obtain ⟨t199, A120, H⟩ := H
          replace H : ((sched_Waits.f (t190.drop ((ji9) : Int).toNat) a1).bind fun t205 => (if t193 < 0 then (ratlinelaw16_SchedWaits.j0 k a1 t190 true) else (if t193 > (t190.length : Int) then (ratlinelaw16_SchedWaits.j0 k a1 t190 true) else (if t193 < (mx t199 t205) then (ratlinelaw16_SchedWaits.j0 k a1 t190 true) else (ratlinelaw16_SchedWaits.j0 k a1 t190 (decide (t193 > (wrap64 (t199 + t205))))))))) = some r := H
          have A12 := Aside0.mk A120
          clear A120
          have c13b0 := eq_true (of_decide_eq_true (by first | (with_reducible assumption) | assumption) : 0 ≤ (ji9))
          have c14b0 := eq_true (of_decide_eq_true (by first | (with_reducible assumption) | assumption) : (ji9) ≤ (t190.length : Int))
          obtain ⟨y200, hy200⟩ : ∃ y_ : List (S51), y_ = (t190.drop ((ji9) : Int).toNat) := ⟨_, rfl⟩
          replace H : ((sched_Waits.f y200 a1).bind fun t205 => (if t193 < 0 then (ratlinelaw16_SchedWaits.j0 k a1 t190 true) else (if t193 > (t190.length : Int) then (ratlinelaw16_SchedWaits.j0 k a1 t190 true) else (if t193 < (mx t199 t205) then (ratlinelaw16_SchedWaits.j0 k a1 t190 true) else (ratlinelaw16_SchedWaits.j0 k a1 t190 (decide (t193 > (wrap64 (t199 + t205))))))))) = some r := by first | (rw [hy200]; with_reducible exact H) | (have H2_ := (Option.bind_some _ _).symm.trans H; rw [hy200]; with_reducible exact H2_) | (have H2_ := (Option.bind_some _ _).symm.trans H; with_reducible exact H2_) | with_reducible exact H | (rw [hy200]; exact H) | exact H
          have Ny200 := Aside0.mk hy200
          clear hy200
          replace H := Option.bind_eq_some_iff.mp H
          obtain ⟨t205, A150, H⟩ := H
          replace H : (if t193 < 0 then (ratlinelaw16_SchedWaits.j0 k a1 t190 true) else (if t193 > (t190.length : Int) then (ratlinelaw16_SchedWaits.j0 k a1 t190 true) else (if t193 < (mx t199 t205) then (ratlinelaw16_SchedWaits.j0 k a1 t190 true) else (ratlinelaw16_SchedWaits.j0 k a1 t190 (decide (t193 > (wrap64 (t199 + t205)))))))) = some r := H
          have A15 := Aside0.mk A150
          clear A150
          have HC16 := Aside0.mk H
          clear H
          go_enter Try.func8, Try.ntmps8
          try go_wp2_with (first | ((with_reducible refine gate_callee (f := 27) rfl ?_); refine goesL_ (some 16) rfl rfl Try.func27 (by kernel_rfl) rfl #[.slice A0 l0.length c0, .int .i64 40] rfl (by (try simp only [List.map_toArray, List.map_cons, List.map_nil]); first | done | rfl | (simp only [List.length_drop, List.length_take]; rfl)) ?_; (with_reducible refine (ratlinelaw16_Few.calls k _ _ l0 40 true _ ?side1 ?side2 A4.out).mono ?_); (case side1 => repeat (first | exact HR0.out | (with_reducible refine Kd.C_alloc ?_ _) | (with_reducible refine Kd.C_drewN ?_ _) | (with_reducible refine Kd.C_drew ?_))); (case side2 => exact HC0.out); rintro e w17 ⟨rfl, hb⟩; refine ⟨_, rfl, ?_⟩; have n0_ := Aside0.mk (below_step (by repeat (first | (with_reducible first | exact HB.out | apply below_alloc | apply pw_below_drewN | apply below_drew1) | exact HB.out)) hb); clear HB; have HB := n0_; clear n0_; (try clear hb); (try clear hb2); (try clear hk); (try clear hi)) | ((with_reducible refine gate_callee (f := 30) rfl ?_); refine goesL_ (some 20) rfl rfl Try.func30 (by kernel_rfl) rfl #[.slice A0 l0.length c0] rfl (by (try simp only [List.map_toArray, List.map_cons, List.map_nil]); first | done | rfl | (simp only [List.length_drop, List.length_take]; rfl)) ?_; (with_reducible refine (ratlinelaw16_Turns.calls k _ _ l0 t190 _ ?side1 ?side2 A6.out).mono ?_); (case side1 => repeat (first | exact (Kd.C_below HR0.out HB.out) | (with_reducible refine Kd.C_alloc ?_ _) | (with_reducible refine Kd.C_drewN ?_ _) | (with_reducible refine Kd.C_drew ?_))); (case side2 => exact HC0.out); rintro e w18 ⟨v191, rfl, ho0, hb⟩; refine ⟨_, rfl, ?_⟩; have n0_ := Aside0.mk (Kd.N_lower (Kd.N_mono (ok' := fun k_ => True) (Kd.S_N (Kd.S_bound ho0)) (fun k_ hk_ => trivial)) (below_size (by repeat (first | (with_reducible first | exact HB.out | apply below_alloc | apply pw_below_drewN | apply below_drew1) | exact HB.out)))); have n1_ := Aside0.mk (below_step (by repeat (first | (with_reducible first | exact HB.out | apply below_alloc | apply pw_below_drewN | apply below_drew1) | exact HB.out)) hb); clear HB; have HO192 := n0_; have HB := n1_; clear n0_ n1_; (try clear hb); (try clear hb2); (try clear hk); (try clear hi); (try clear ho0); obtain ⟨Ao19, co19, eo19⟩ := Kd.N_slice HO192.out; subst eo19))
          have n0_ := Aside0.mk (Kd.N_drew HO192.out)
          have n1_ := Aside0.mk (below_drew1 HB.out)
          clear HO192
          clear HB
          have HO192 := n0_
          have HB := n1_
          clear n0_ n1_
          have q21 : ((ji9) : Int) ≤ ((t190.length : Int) : Int) := of_decide_eq_true (by first | (with_reducible assumption) | assumption)
          obtain ⟨i021, hi021, _, hsz21, _⟩ := info_parts info51
          have hroom21 : t190.length ≤ co19 := (Kd.N_reads' HO192.out).2.1
          have hC21 : Kd.F k51 _ _ Ao19 t190.length t190 := (Kd.V_at (base := w.heap.size) (Kd.N_V HO192.out)).2.2
          have hcut21 := cut_to (P := Try.prog) 38 51 .i64 Try.underlying38 hi021 Ao19 t190.length co19 (ji9) (of_decide_eq_true (by first | (with_reducible assumption) | assumption)) q21 hroom21
          have hr21 := Kd.F_take (m := ((ji9) : Int).toNat) hC21 (by omega)
          have hy21 : y194.length = ((ji9) : Int).toNat := (by rw [Ny194.out, List.length_take]; omega)
          rw [← Ny194.out] at hr21
          rw [← hy21] at hcut21
          have HO198 := Aside0.mk (show Kd.V k51 51 _ w.heap.size _ (.slice Ao19 y194.length co19) y194 from Kd.V_mk (by omega) hr21)
          have HC198 := Aside0.mk (show y194.length ≤ co19 from by omega)
          clear hr21 hC21 hroom21 hi021 hsz21
          have KY21 := Aside0.mk hy21
          clear hy21
          replace q21 := eq_true q21
          have q22 : ((ji9) : Int) ≤ ((t190.length : Int) : Int) := of_decide_eq_true (by first | (with_reducible assumption) | assumption)
          obtain ⟨i022, hi022, _, hsz22, _⟩ := info_parts info51
          have hroom22 : t190.length ≤ co19 := (Kd.N_reads' HO192.out).2.1
          have hC22 : Kd.F k51 _ _ Ao19 t190.length t190 := (Kd.V_at (base := w.heap.size) (Kd.N_V HO192.out)).2.2
          have q022 : (0 : Int) ≤ ((ji9) : Int) := of_decide_eq_true (by first | (with_reducible assumption) | assumption)
          have hcut22 := cut_from (P := Try.prog) 38 51 .i64 Try.underlying38 hi022 2 hsz22 Ao19 t190.length co19 (ji9) q022 q22
          have hr22 := Kd.F_cut (m := ((ji9) : Int).toNat) (c := co19) hC22 (by omega) hroom22
          obtain ⟨A22, hA22⟩ : ∃ A1, A1 = (if co19 = ((ji9) : Int).toNat then Ao19 else (Ao19 : Option Addr).map (·.add (((ji9) : Int).toNat * 2))) := ⟨_, rfl⟩
          obtain ⟨c22, hc22⟩ : ∃ c1, c1 = co19 - ((ji9) : Int).toNat := ⟨_, rfl⟩
          have hy22 : y200.length = t190.length - ((ji9) : Int).toNat := (by rw [Ny200.out, List.length_drop] <;> omega)
          rw [show (t190).drop ((ji9) : Int).toNat = y200 from Ny200.out.symm] at hr22
          replace hr22 : Kd.F k51 _ _ A22 y200.length y200 := (by rw [hA22]; exact hr22)
          rw [← hy22, ← hA22, ← hc22] at hcut22
          have HO204 := Aside0.mk (show Kd.V k51 51 _ w.heap.size _ (.slice A22 y200.length c22) y200 from Kd.V_mk (by rw [hy22, hc22]; exact Nat.sub_le_sub_right hroom22 _) hr22)
          have HC204 := Aside0.mk (show y200.length ≤ c22 from by rw [hy22, hc22]; exact Nat.sub_le_sub_right hroom22 _)
          clear hr22 hC22 hroom22 hi022 hsz22 hc22
          have KY22 := Aside0.mk hy22
          have KA22 := Aside0.mk hA22
          clear hy22 hA22
          replace q22 := eq_true q22
          refine start_ (n := 16) (S := fun w' => True) (ds := []) #[false, false, false, false, false, false, false, false, false, false, false, false, false, false, false, false] (by kernel_rfl) rfl rfl trivial (fun hHeld => ?_); refine with_tabW ratlinelaw16_SchedWaits.tab5 ratlinelaw16_SchedWaits.bits5 (fun HT_ HW_ => ?_)
          generalize w18.drew = w20 at HO192 HB HO198 HO204 hHeld ⊢
          refine pure_ (i := 0) (N := some 27) (v := ?_) (a' := ?_) #[true, false, false, false, false, false, false, false, false, false, false, false, false, false, false, false] rfl rfl (any_of HT_.out (by kernel_rfl)) (fun _ _ _ h => h) (Or.inl ⟨by rfl, ?_⟩) ?_ ?_
          rotate_left
          · intro w'
            go_simp
            with_reducible rfl
          rotate_left
          · simp only [Act.put, List.setIfInBounds_toArray, List.set_cons_zero, List.set_cons_succ, i64_w, i32_w]
            rfl
          refine pure_ (i := 1) (N := some 28) (v := ?_) (a' := ?_) #[true, true, false, false, false, false, false, false, false, false, false, false, false, false, false, false] rfl rfl (any_of HT_.out (by kernel_rfl)) (fun _ _ _ h => h) (Or.inl ⟨by rfl, ?_⟩) ?_ ?_
          rotate_left
          · intro w'
            go_simp
            with_reducible rfl
          rotate_left
          · simp only [Act.put, List.setIfInBounds_toArray, List.set_cons_zero, List.set_cons_succ, i64_w, i32_w]
            rfl
          refine pure_ (i := 3) (N := some 30) (v := ?_) (a' := ?_) #[true, true, false, true, false, false, false, false, false, false, false, false, false, false, false, false] rfl rfl (any_of HT_.out (by kernel_rfl)) (fun _ _ _ h => h) (Or.inl ⟨by rfl, ?_⟩) ?_ ?_
          rotate_left
          · intro w'
            go_simp
            with_reducible rfl
          rotate_left
          · simp only [Act.put, List.setIfInBounds_toArray, List.set_cons_zero, List.set_cons_succ, i64_w, i32_w]
            rfl
          refine pure_ (i := 4) (N := some 31) (v := ?_) (a' := ?_) #[true, true, false, true, true, false, false, false, false, false, false, false, false, false, false, false] rfl rfl (any_of HT_.out (by kernel_rfl)) (fun _ _ _ h => h) (Or.inl ⟨by rfl, ?_⟩) ?_ ?_
          rotate_left
          · intro w'
            go_simp
            with_reducible rfl
          rotate_left
          · simp only [Act.put, List.setIfInBounds_toArray, List.set_cons_zero, List.set_cons_succ, i64_w, i32_w]
            rfl
          refine pure_ (i := 5) (N := some 32) (v := ?_) (a' := ?_) #[true, true, false, true, true, true, false, false, false, false, false, false, false, false, false, false] rfl rfl (any_of HT_.out (by kernel_rfl)) (fun _ _ _ h => h) (Or.inl ⟨by rfl, ?_⟩) ?_ ?_
          rotate_left
          · intro w'
            go_simp
            with_reducible rfl
          rotate_left
          · simp only [Act.put, List.setIfInBounds_toArray, List.set_cons_zero, List.set_cons_succ, i64_w, i32_w]
            rfl
          refine pure_ (i := 6) (N := some 33) (v := ?_) (a' := ?_) #[true, true, false, true, true, true, true, false, false, false, false, false, false, false, false, false] rfl rfl (any_of HT_.out (by kernel_rfl)) (fun _ _ _ h => h) (Or.inl ⟨by rfl, ?_⟩) ?_ ?_
          rotate_left
          · intro w'
            go_simp
            with_reducible rfl
          rotate_left
          · simp only [Act.put, List.setIfInBounds_toArray, List.set_cons_zero, List.set_cons_succ, i64_w, i32_w]
            rfl
          refine pure_ (i := 8) (N := some 35) (v := ?_) (a' := ?_) #[true, true, false, true, true, true, true, false, true, false, false, false, false, false, false, false] rfl rfl (any_of HT_.out (by kernel_rfl)) (fun _ _ _ h => h) (Or.inl ⟨by rfl, ?_⟩) ?_ ?_
          rotate_left
          · intro w'
            go_simp
            with_reducible rfl
          rotate_left
          · simp only [Act.put, List.setIfInBounds_toArray, List.set_cons_zero, List.set_cons_succ, i64_w, i32_w]
            rfl
          refine pure_ (i := 9) (N := some 36) (v := ?_) (a' := ?_) #[true, true, false, true, true, true, true, false, true, true, false, false, false, false, false, false] rfl rfl (any_of HT_.out (by kernel_rfl)) (fun _ _ _ h => h) (Or.inl ⟨by rfl, ?_⟩) ?_ ?_
          rotate_left
          · intro w'
            go_simp
            with_reducible rfl
          rotate_left
          · simp only [Act.put, List.setIfInBounds_toArray, List.set_cons_zero, List.set_cons_succ, i64_w, i32_w]
            rfl
          refine pure_ (i := 10) (N := some 37) (v := ?_) (a' := ?_) #[true, true, false, true, true, true, true, false, true, true, true, false, false, false, false, false] rfl rfl (any_of HT_.out (by kernel_rfl)) (fun _ _ _ h => h) (Or.inl ⟨by rfl, ?_⟩) ?_ ?_
          rotate_left
          · intro w'
            go_simp
            with_reducible rfl
          rotate_left
          · simp only [Act.put, List.setIfInBounds_toArray, List.set_cons_zero, List.set_cons_succ, i64_w, i32_w]
            rfl
          refine pure_ (i := 11) (N := some 38) (v := ?_) (a' := ?_) #[true, true, false, true, true, true, true, false, true, true, true, true, false, false, false, false] rfl rfl (any_of HT_.out (by kernel_rfl)) (fun _ _ _ h => h) (Or.inl ⟨by rfl, ?_⟩) ?_ ?_
          rotate_left
          · intro w'
            go_simp
            with_reducible rfl
          rotate_left
          · simp only [Act.put, List.setIfInBounds_toArray, List.set_cons_zero, List.set_cons_succ, i64_w, i32_w]
            rfl
          refine one_ (i := 2) (N := some 29) #[true, true, true, true, true, true, true, false, true, true, true, true, false, false, false, false] rfl rfl (one_of HT_.out (by kernel_rfl)) (by decide) (fun K hK => ?_)
          refine goes_ Try.func35 (by kernel_rfl) rfl #[.slice Ao19 t190.length co19, .int .i64 a1] (by rfl) rfl rfl (by (try simp only [List.map_toArray, List.map_cons, List.map_nil]); first | done | rfl | (simp only [List.length_drop, List.length_take]; rfl)) ?_
          with_reducible refine (sched_Waits.calls _ _ t190 a1 t193 _ ?side1 ?side2 A8.out).mono ?_
          (case side1 => repeat (first | exact (Kd.N_reads' HO192.out).2.2 | (with_reducible refine Kd.C_alloc ?_ _) | (with_reducible refine Kd.C_drewN ?_ _) | (with_reducible refine Kd.C_drew ?_)))
          (case side2 => exact (Kd.N_reads' HO192.out).2.1)
          rintro e w23 ⟨rfl, hb⟩
          refine ⟨_, rfl, ?_⟩
          have n0_ := Aside0.mk (Kd.N_below (by (with_reducible repeat (first | apply Kd.N_alloc | apply Kd.N_drewN | apply Kd.N_drew)); exact HO192.out) hb)
          have n1_ := Aside0.mk (Kd.V_below (by (with_reducible repeat (first | apply Kd.V_alloc | apply Kd.V_drewN | apply Kd.V_drew)); exact HO198.out) hb)
          have n2_ := Aside0.mk (Kd.V_below (by (with_reducible repeat (first | apply Kd.V_alloc | apply Kd.V_drewN | apply Kd.V_drew)); exact HO204.out) hb)
          have n3_ := Aside0.mk (below_step (by repeat (first | (with_reducible first | exact HB.out | apply below_alloc | apply pw_below_drewN | apply below_drew1) | exact HB.out)) hb)
          clear HO192
          clear HO198
          clear HO204
          clear HB
          have HO192 := n0_
          have HO198 := n1_
          have HO204 := n2_
          have HB := n3_
          clear n0_ n1_ n2_ n3_
          (try clear hb)
          (try clear hb2)
          (try clear hk)
          (try clear hi)
          refine hK.out _ _ trivial (fun hHeld => ?_)
          clear hK K
          refine norm_ (a' := ?_) ?_ ?_
          rotate_left
          · show Act.put _ (some 29) _ = _
            simp only [Act.put, List.setIfInBounds_toArray, List.set_cons_zero, List.set_cons_succ, i64_w, i32_w]
            rfl
          refine one_ (i := 7) (N := some 34) #[true, true, true, true, true, true, true, true, true, true, true, true, false, false, false, false] rfl rfl (one_of HT_.out (by kernel_rfl)) (by decide) (fun K hK => ?_)
          refine goes_ Try.func35 (by kernel_rfl) rfl #[.slice Ao19 y194.length co19, .int .i64 a1] (by rfl) rfl rfl (by (try simp only [List.map_toArray, List.map_cons, List.map_nil]); first | done | rfl | (simp only [List.length_drop, List.length_take]; rfl)) ?_
          with_reducible refine (sched_Waits.calls _ _ y194 a1 t199 _ ?side1 ?side2 A12.out).mono ?_
          (case side1 => repeat (first | exact (Kd.V_reads' HO198.out).2.2 | (with_reducible refine Kd.C_alloc ?_ _) | (with_reducible refine Kd.C_drewN ?_ _) | (with_reducible refine Kd.C_drew ?_)))
          (case side2 => exact (Kd.V_reads' HO198.out).2.1)
          rintro e w24 ⟨rfl, hb⟩
          refine ⟨_, rfl, ?_⟩
          have n0_ := Aside0.mk (Kd.N_below (by (with_reducible repeat (first | apply Kd.N_alloc | apply Kd.N_drewN | apply Kd.N_drew)); exact HO192.out) hb)
          have n1_ := Aside0.mk (Kd.V_below (by (with_reducible repeat (first | apply Kd.V_alloc | apply Kd.V_drewN | apply Kd.V_drew)); exact HO198.out) hb)
          have n2_ := Aside0.mk (Kd.V_below (by (with_reducible repeat (first | apply Kd.V_alloc | apply Kd.V_drewN | apply Kd.V_drew)); exact HO204.out) hb)
          have n3_ := Aside0.mk (below_step (by repeat (first | (with_reducible first | exact HB.out | apply below_alloc | apply pw_below_drewN | apply below_drew1) | exact HB.out)) hb)
          clear HO192
          clear HO198
          clear HO204
          clear HB
          have HO192 := n0_
          have HO198 := n1_
          have HO204 := n2_
          have HB := n3_
          clear n0_ n1_ n2_ n3_
          (try clear hb)
          (try clear hb2)
          (try clear hk)
          (try clear hi)
          refine hK.out _ _ trivial (fun hHeld => ?_)
          clear hK K
          refine norm_ (a' := ?_) ?_ ?_
          rotate_left
          · show Act.put _ (some 34) _ = _
            simp only [Act.put, List.setIfInBounds_toArray, List.set_cons_zero, List.set_cons_succ, i64_w, i32_w]
            rfl
          refine one_ (i := 12) (N := some 39) #[true, true, true, true, true, true, true, true, true, true, true, true, true, false, false, false] rfl rfl (one_of HT_.out (by kernel_rfl)) (by decide) (fun K hK => ?_)
          refine goes_ Try.func35 (by kernel_rfl) rfl #[.slice A22 y200.length c22, .int .i64 a1] (by rfl) rfl rfl (by (try simp only [List.map_toArray, List.map_cons, List.map_nil]); first | done | rfl | (simp only [List.length_drop, List.length_take]; rfl)) ?_
          with_reducible refine (sched_Waits.calls _ _ y200 a1 t205 _ ?side1 ?side2 A15.out).mono ?_
          (case side1 => repeat (first | exact (Kd.V_reads' HO204.out).2.2 | (with_reducible refine Kd.C_alloc ?_ _) | (with_reducible refine Kd.C_drewN ?_ _) | (with_reducible refine Kd.C_drew ?_)))
          (case side2 => exact (Kd.V_reads' HO204.out).2.1)
          rintro e w25 ⟨rfl, hb⟩
          refine ⟨_, rfl, ?_⟩
          have n0_ := Aside0.mk (Kd.N_below (by (with_reducible repeat (first | apply Kd.N_alloc | apply Kd.N_drewN | apply Kd.N_drew)); exact HO192.out) hb)
          have n1_ := Aside0.mk (Kd.V_below (by (with_reducible repeat (first | apply Kd.V_alloc | apply Kd.V_drewN | apply Kd.V_drew)); exact HO198.out) hb)
          have n2_ := Aside0.mk (Kd.V_below (by (with_reducible repeat (first | apply Kd.V_alloc | apply Kd.V_drewN | apply Kd.V_drew)); exact HO204.out) hb)
          have n3_ := Aside0.mk (below_step (by repeat (first | (with_reducible first | exact HB.out | apply below_alloc | apply pw_below_drewN | apply below_drew1) | exact HB.out)) hb)
          clear HO192
          clear HO198
          clear HO204
          clear HB
          have HO192 := n0_
          have HO198 := n1_
          have HO204 := n2_
          have HB := n3_
          clear n0_ n1_ n2_ n3_
          (try clear hb)
          (try clear hb2)
          (try clear hk)
          (try clear hi)
          refine hK.out _ _ trivial (fun hHeld => ?_)
          clear hK K
          refine norm_ (a' := ?_) ?_ ?_
          rotate_left
          · show Act.put _ (some 39) _ = _
            simp only [Act.put, List.setIfInBounds_toArray, List.set_cons_zero, List.set_cons_succ, i64_w, i32_w]
            rfl
          refine pure_ (i := 13) (N := some 9) (v := ?_) (a' := ?_) #[true, true, true, true, true, true, true, true, true, true, true, true, true, true, false, false] rfl rfl (any_of HT_.out (by kernel_rfl)) (fun _ _ _ h => h) (Or.inl ⟨by rfl, ?_⟩) ?_ ?_
          rotate_left
          · intro w'
            go_simp
            with_reducible rfl
          rotate_left
          · simp only [Act.put, List.setIfInBounds_toArray, List.set_cons_zero, List.set_cons_succ, i64_w, i32_w]
            rfl
          refine pure_ (i := 14) (N := some 10) (v := ?_) (a' := ?_) #[true, true, true, true, true, true, true, true, true, true, true, true, true, true, true, false] rfl rfl (any_of HT_.out (by kernel_rfl)) (fun _ _ _ h => h) (Or.inl ⟨by rfl, ?_⟩) ?_ ?_
          rotate_left
          · intro w'
            go_simp
            with_reducible rfl
          rotate_left
          · simp only [Act.put, List.setIfInBounds_toArray, List.set_cons_zero, List.set_cons_succ, i64_w, i32_w]
            rfl
          refine pure_ (i := 15) (N := some 11) (v := ?_) (a' := ?_) #[true, true, true, true, true, true, true, true, true, true, true, true, true, true, true, true] rfl rfl (any_of HT_.out (by kernel_rfl)) (fun _ _ _ h => h) (Or.inl ⟨by rfl, ?_⟩) ?_ ?_
          rotate_left
          · intro w'
            go_simp
            with_reducible rfl
          rotate_left
          · simp only [Act.put, List.setIfInBounds_toArray, List.set_cons_zero, List.set_cons_succ, i64_w, i32_w]
            rfl
          refine done_ (done_of HT_.out (by kernel_rfl)) ?_
          go_upto_region 6 with (fail)
          go_cut [61] (fun v61 wc => ∃ (kq : Nat) (x61_15 : Bool), v61 = .bool x61_15 ∧ Aside0 (ratlinelaw16_SchedWaits.j0 kq a1 t190 x61_15 = some r) ∧ Aside0 (kq ≤ k) ∧ Aside0 (Kd.N k51 51 wc w.heap.size (fun _ => True) (.slice Ao19 t190.length co19) t190) ∧ Aside0 (Below w.heap.size w wc))
          case first =>
            have H := HC16.out
            clear HC16
            by_cases c26 : t193 < 0
            · rw [if_pos c26] at H
              have c26b0 : decide (t193 < 0) = true := decide_eq_true c26
              clear c26
              (first | rw [c26b0] | (simp only [i64_w, i32_w]; rw [c26b0]) | skip)
              have H' := Aside0.mk H
              clear H
              go_wp2
              go_meet
              case rel => exact ⟨_, (true), (by first | rfl | (simp; done) | (simp [*]; done)), H', ⟨by first | omega | exact Nat.le_refl _⟩, ⟨by (with_reducible repeat (first | apply Kd.N_alloc | apply Kd.N_drewN | apply Kd.N_drew)); exact HO192.out⟩, ⟨by repeat (first | (with_reducible first | exact HB.out | apply below_alloc | apply pw_below_drewN | apply below_drew1) | exact HB.out)⟩⟩
            · rw [if_neg c26] at H
              have c26b0 : decide (t193 < 0) = false := decide_eq_false c26
              clear c26
              (first | rw [c26b0] | (simp only [i64_w, i32_w]; rw [c26b0]) | skip)
              by_cases c27 : t193 > (t190.length : Int)
              · rw [if_pos c27] at H
                have c27b0 : decide ((t190.length : Int) < t193) = true := decide_eq_true c27
                clear c27
                have H' := Aside0.mk H
                clear H
                go_wp2
                go_meet
                case rel => exact ⟨_, (true), (by first | rfl | (simp; done) | (simp [*]; done)), H', ⟨by first | omega | exact Nat.le_refl _⟩, ⟨by (with_reducible repeat (first | apply Kd.N_alloc | apply Kd.N_drewN | apply Kd.N_drew)); exact HO192.out⟩, ⟨by repeat (first | (with_reducible first | exact HB.out | apply below_alloc | apply pw_below_drewN | apply below_drew1) | exact HB.out)⟩⟩
              · rw [if_neg c27] at H
                have c27b0 : decide ((t190.length : Int) < t193) = false := decide_eq_false c27
                clear c27
                obtain ⟨ji28, hji28⟩ : ∃ j_ : Int, (mx t199 t205) = j_ := ⟨_, rfl⟩
                replace H : (if t193 < (ji28) then (ratlinelaw16_SchedWaits.j0 k a1 t190 true) else (ratlinelaw16_SchedWaits.j0 k a1 t190 (decide (t193 > (wrap64 (t199 + t205)))))) = some r := by first | (rw [hji28] at H; exact H) | (simp only [hji28] at H ⊢; exact H)
                have hji28_ : (if t199 < t205 then t205 else t199) = ji28 := hji28
                by_cases c29 : t193 < (ji28)
                · rw [if_pos c29] at H
                  have c29b0 : decide (t193 < (ji28)) = true := decide_eq_true c29
                  clear c29
                  have H' := Aside0.mk H
                  clear H
                  go_wp2
                  go_meet
                  case rel => exact ⟨_, (true), (by first | rfl | (simp; done) | (simp [*]; done)), H', ⟨by first | omega | exact Nat.le_refl _⟩, ⟨by (with_reducible repeat (first | apply Kd.N_alloc | apply Kd.N_drewN | apply Kd.N_drew)); exact HO192.out⟩, ⟨by repeat (first | (with_reducible first | exact HB.out | apply below_alloc | apply pw_below_drewN | apply below_drew1) | exact HB.out)⟩⟩
                · rw [if_neg c29] at H
                  have c29b0 : decide (t193 < (ji28)) = false := decide_eq_false c29
                  clear c29
                  have H' := Aside0.mk H
                  clear H
                  go_wp2
                  go_meet
                  case rel => exact ⟨_, (decide (t193 > (wrap64 (t199 + t205)))), (by first | rfl | (simp; done) | (simp [*]; done)), H', ⟨by first | omega | exact Nat.le_refl _⟩, ⟨by (with_reducible repeat (first | apply Kd.N_alloc | apply Kd.N_drewN | apply Kd.N_drew)); exact HO192.out⟩, ⟨by repeat (first | (with_reducible first | exact HB.out | apply below_alloc | apply pw_below_drewN | apply below_drew1) | exact HB.out)⟩⟩
          case rest =>
            clear HC16
            try clear c1
            try clear c2
            try clear p2
            try clear q2
            try clear c3
            try clear c5
            try clear p6
            try clear c7
            try clear c7b0
            try clear c7b1
            try clear c8
            try clear c10
            try clear c10b0
            try clear c10b1
            try clear c11
            try clear c11b0
            try clear c11b1
            try clear c13
            try clear c13b0
            try clear c14
            try clear c14b0
            try clear q21
            try clear c22
            try clear q22
            try clear c26
            try clear c26b0
            try clear c27
            try clear c27b0
            try clear c29
            try clear c29b0
            try clear q022
            try clear q21
            try clear q22
            obtain ⟨kq, x61_15, rfl, HA, HJ15, HO_7, HB⟩ := hcut
            cases kq with
            | zero => exact absurd HA.out (by simp [ratlinelaw16_SchedWaits.j0])
            | succ kj15 =>
              have H := HA.out
              clear HA
              simp only [ratlinelaw16_SchedWaits.j0] at H
              by_cases c30 : x61_15 = true
              · subst c30
                have H1 : (some false) = some r := by rw [if_pos rfl] at H; exact H
                clear H
                have H := H1
                clear H1
                obtain rfl := Option.some.inj H
                go_wp2
                go_ret
                exact ⟨by first | rfl | (simp [errW_none, errW_some] <;> rfl) | (simp only [← hji9]; first | rfl | (simp [errW_none, errW_some] <;> rfl)) | (simp [*, errW_none, errW_some] <;> rfl), by repeat (first | (with_reducible first | exact HB.out | apply below_alloc | apply pw_below_drewN | apply below_drew1) | exact HB.out)⟩
              · replace c30 := Bool.eq_false_iff.mpr c30
                subst c30
                have H1 : (ratlinelaw16_SchedWaits.l0 kj15 a1 ([] : List (S51)) t190 (t190.length : Int) 0) = some r := by rw [if_neg (show ¬ (false = true) by decide)] at H; exact H
                clear H
                have H := H1
                clear H1
                have H' := Aside0.mk H
                clear H
                go_wp2
                go_loopg [12, 64] kj15 (fun kq v12 v64 w' => ∃ (x12_2 : List (S51)) (x64_2 : Int), v64 = .int .i64 x64_2 ∧ Aside0 (ratlinelaw16_SchedWaits.l0 kq a1 x12_2 t190 (t190.length : Int) x64_2 = some r) ∧ Aside0 (kq ≤ kj15) ∧ Aside0 (Kd.N k51 51 w' w.heap.size (fun k_ => some k_ ≠ ((.slice Ao19 t190.length co19) : Value).ownBlock) v12 x12_2) ∧ Aside0 (Kd.N k51 51 w' w.heap.size (fun k_ => some k_ ≠ (v12 : Value).ownBlock) (.slice Ao19 t190.length co19) t190) ∧ Aside0 (Below w.heap.size w w'))
                case atStart => exact ⟨(([] : List (S51))), (0), (by first | rfl | (simp; done) | (simp [*]; done)), H', ⟨Nat.le_refl _⟩, ⟨by first | exact Kd.S_nil _ _ _ _ _ | exact Kd.N_nil _ _ _ _ _ | exact Kd.V_nil _ _ _ _ _ | exact Kd.Q_nil _ _ _ _ _ | exact Kd.R_nil _ _ _ _ _⟩, ⟨by (with_reducible repeat (first | apply Kd.N_alloc | apply Kd.N_drewN | apply Kd.N_drew)); exact Kd.N_mono HO_7.out (fun _ hk => (by simp [Value.ownBlock]))⟩, ⟨by repeat (first | (with_reducible first | exact HB.out | apply below_alloc | apply pw_below_drewN | apply below_drew1) | exact HB.out)⟩⟩
                case round =>
                  clear H'
                  try clear c1
                  try clear c2
                  try clear p2
                  try clear q2
                  try clear c3
                  try clear c5
                  try clear p6
                  try clear c7
                  try clear c7b0
                  try clear c7b1
                  try clear c8
                  try clear c10
                  try clear c10b0
                  try clear c10b1
                  try clear c11
                  try clear c11b0
                  try clear c11b1
                  try clear c13
                  try clear c13b0
                  try clear c14
                  try clear c14b0
                  try clear q21
                  try clear c22
                  try clear q22
                  try clear c26
                  try clear c26b0
                  try clear c27
                  try clear c27b0
                  try clear c29
                  try clear c29b0
                  try clear c30
                  try clear p2
                  try clear p6
                  try clear q022
                  try clear q2
                  try clear q21
                  try clear q22
                  obtain ⟨x12_2, x64_2, rfl, HA, HK2, HO_12, HO_62, HB⟩ := hrel
                  cases gk with
                  | zero => exact absurd HA.out (by simp [ratlinelaw16_SchedWaits.l0])
                  | succ k2 =>
                    have H := HA.out
                    clear HA
                    simp only [ratlinelaw16_SchedWaits.l0] at H
                    by_cases c31 : x64_2 < (t190.length : Int)
                    · rw [if_pos c31] at H
                      have c31b0 : decide (x64_2 < (t190.length : Int)) = true := decide_eq_true c31
                      clear c31
                      by_cases c32 : 0 ≤ x64_2
                      · rw [if_pos c32] at H
                        have c32b0 : decide (0 ≤ x64_2) = true := decide_eq_true c32
                        clear c32
                        by_cases c33 : x64_2 < (t190.length : Int)
                        · rw [if_pos c33] at H
                          have c33b0 : decide (x64_2 < (t190.length : Int)) = true := decide_eq_true c33
                          clear c33
                          by_cases c34 : x12_2.length < 4398046511104
                          · rw [if_pos c34] at H
                            have LMc34 := Aside0.mk c34
                            clear c34
                            obtain ⟨y208, hy208⟩ : ∃ y_ : List (S51), y_ = (x12_2 ++ [(⟨a1, (rd_T51 t190 x64_2).f1⟩ : S51)]) := ⟨_, rfl⟩
                            replace H : (ratlinelaw16_SchedWaits.l0 k2 a1 y208 t190 (t190.length : Int) (wrap64 (x64_2 + 1))) = some r := by first | (rw [hy208]; with_reducible exact H) | (have H2_ := (Option.bind_some _ _).symm.trans H; rw [hy208]; with_reducible exact H2_) | (have H2_ := (Option.bind_some _ _).symm.trans H; with_reducible exact H2_) | with_reducible exact H | (rw [hy208]; exact H) | exact H
                            have Ny208 := Aside0.mk hy208
                            clear hy208
                            have H' := Aside0.mk H
                            clear H
                            have p206 : 0 ≤ (x64_2 : Int) := of_decide_eq_true (by first | (with_reducible assumption) | assumption)
                            have q206 : x64_2 < (t190.length : Int) := of_decide_eq_true (by first | (with_reducible assumption) | assumption)
                            obtain ⟨ad206, A206_1, c206_1, e206, hx206_0, hx206_1, hl206_1, hi206_1⟩ := at_T51 (Kd.N_reads' HO_62.out).2.2 x64_2 p206 q206
                            cases e206
                            obtain ⟨ce206, hce206, hMe206, hcc206⟩ := Kd.N_get HO_62.out z51 x64_2 p206 (by first | exact q206 | exact of_decide_eq_true (by first | (with_reducible assumption) | assumption) | (have e_ := (Kd.N_reads' HO_62.out).1; omega))
                            obtain ⟨ua206_1, uc206_1, rfl, ul206_1, ge206_1⟩ := k51_openF hMe206
                            have hv206_1 := hcc206 1 _ rfl
                            rw [add_field _ _ 1 (by omega)] at hv206_1
                            replace hv206_1 := Option.some.inj (hv206_1.symm.trans hx206_1)
                            injection hv206_1 with hva_ hvn_ hvc_
                            rw [hva_] at ge206_1
                            rw [hvc_] at ul206_1
                            have HL206_1 := Aside0.mk (show Kd.V (Kd.int .i64) 3 _ w.heap.size _ _ ((rd_T51 t190 x64_2).f1) from Kd.V_mk ul206_1 ge206_1)
                            clear hva_ hvn_ hvc_ ge206_1 ul206_1
                            clear hcc206 hce206
                            have HR206_1 := Aside0.mk hi206_1
                            have HC206_1 := Aside0.mk hl206_1
                            clear hi206_1 hl206_1
                            replace p206 := eq_true p206
                            replace q206 := eq_true q206
                            go_wp2_with (first | ((with_reducible refine gate_dst (N := 14) rfl ?_); (try (refine gate_guard (by rfl) ?_; dsimp only)); refine box_event ?hg (N := 14) ?hd (cs := #[.int .i64 0, .slice none 0 0]) (t := 51) ?hr ?_; (case hd => rfl); (case hg => rfl); (case hr => first | (go_simp; done) | (go_simp; rfl)); intro gb207 hg w35 hbox hb; have n0_ := Aside0.mk (Kd.N_below (Kd.N_elderB (by (with_reducible repeat (first | apply Kd.N_alloc | apply Kd.N_drewN | apply Kd.N_drew)); exact HO_12.out) gb207 (Nat.le_of_eq hg.symm)) hb); have n1_ := Aside0.mk (Kd.N_below (Kd.N_elderB (by (with_reducible repeat (first | apply Kd.N_alloc | apply Kd.N_drewN | apply Kd.N_drew)); exact HO_62.out) gb207 (Nat.le_of_eq hg.symm)) hb); have n2_ := Aside0.mk (Kd.V_below (Kd.V_elderB (by (with_reducible repeat (first | apply Kd.V_alloc | apply Kd.V_drewN | apply Kd.V_drew)); exact HL206_1.out) gb207 (Nat.le_of_eq hg.symm)) hb); have n3_ := Aside0.mk (Kd.C_below (by repeat (first | (with_reducible exact HR206_1.out) | (with_reducible refine Kd.C_alloc ?_ _) | (with_reducible refine Kd.C_drewN ?_ _) | (with_reducible refine Kd.C_drew ?_) | exact HR206_1.out)) hb); have n4_ := Aside0.mk (below_step (by repeat (first | (with_reducible first | exact HB.out | apply below_alloc | apply pw_below_drewN | apply below_drew1) | exact HB.out)) hb); have n5_ := Aside0.mk (hbox); have n6_ := Aside0.mk ((by rw [hg]; exact (below_size (by repeat (first | (with_reducible first | exact HB.out | apply below_alloc | apply pw_below_drewN | apply below_drew1) | exact HB.out))) : w.heap.size ≤ gb207)); have n7_ := Aside0.mk ((by rw [hg]; exact (below_size (by repeat (first | (with_reducible first | exact HB.out | apply below_alloc | apply pw_below_drewN | apply below_drew1) | exact HB.out))) : w.heap.size ≤ gb207)); clear HO_12; clear HO_62; clear HL206_1; clear HR206_1; clear HB; have HO_12 := n0_; have HO_62 := n1_; have HL206_1 := n2_; have HR206_1 := n3_; have HB := n4_; have BK207 := n5_; have GW207 := n6_; have GE207 := n7_; clear n0_ n1_ n2_ n3_ n4_ n5_ n6_ n7_; clear hb hbox hg; have hcz36_0 : w35.cell? ⟨gb207, 0, none⟩ = some (.int .i64 0) := (blk_cell BK207.out 0).trans rfl; have hcz36_1 : w35.cell? ⟨gb207, 1, none⟩ = some (.slice none 0 0) := (blk_cell BK207.out 1).trans rfl; have hfz36_0 := blk_frozen BK207.out 0; have hfz36_1 := blk_frozen BK207.out 1) | ((with_reducible refine gate_store (t := 51) (p := 14) rfl ?_); refine store_event (t := 51) (p := 14) (v := ?vo_w37) (w1 := ((w35.setCell ⟨gb207, 0, none⟩ (.int .i64 ((rd_T51 t190 x64_2).f0))).setCell ⟨gb207, 1, none⟩ (.slice A206_1 ((rd_T51 t190 x64_2).f1).length c206_1))) ?hg ?ho ?hn ?hr ?_; (case ho => rfl); (case hg => rfl); (case hn => rfl); (case hr => first | (go_simp; done) | (go_simp; rfl)); intro w37 hw; have n0_ : Aside0 (Kd.N k51 51 w37 w.heap.size (fun k_ => some k_ ≠ (.slice (some ad206) t190.length co19 : Value).ownBlock ∧ k_ ≠ gb207) u12 x12_2) := ⟨(by rw [hw]; exact (by (with_reducible repeat (first | apply Kd.N_alloc | apply Kd.N_drewN | apply Kd.N_drew)); exact Kd.N_mono (Kd.N_far (p := ⟨gb207, 1, none⟩) (Kd.N_far (p := ⟨gb207, 0, none⟩) (Kd.N_mono HO_12.out (fun k_ hk => (⟨hk, hk.2⟩ : _ ∧ k_ ≠ gb207))) (fun _ hk => hk.2) (.int .i64 ((rd_T51 t190 x64_2).f0))) (fun _ hk => hk.2) (.slice A206_1 ((rd_T51 t190 x64_2).f1).length c206_1)) (fun _ hk => ⟨hk.1.1, hk.1.2⟩)))⟩; have n1_ : Aside0 (Kd.N k51 51 w37 w.heap.size (fun k_ => some k_ ≠ (u12 : Value).ownBlock ∧ k_ ≠ gb207) (.slice (some ad206) t190.length co19) t190) := ⟨(by rw [hw]; exact (by (with_reducible repeat (first | apply Kd.N_alloc | apply Kd.N_drewN | apply Kd.N_drew)); exact Kd.N_mono (Kd.N_far (p := ⟨gb207, 1, none⟩) (Kd.N_far (p := ⟨gb207, 0, none⟩) (Kd.N_mono HO_62.out (fun k_ hk => (⟨hk, hk.2⟩ : _ ∧ k_ ≠ gb207))) (fun _ hk => hk.2) (.int .i64 ((rd_T51 t190 x64_2).f0))) (fun _ hk => hk.2) (.slice A206_1 ((rd_T51 t190 x64_2).f1).length c206_1)) (fun _ hk => ⟨hk.1.1, hk.1.2⟩)))⟩; have n2_ : Aside0 (Kd.V (Kd.int .i64) 3 w37 w.heap.size (fun k_ => some k_ ≠ (u12 : Value).ownBlock ∧ some k_ ≠ (.slice (some ad206) t190.length co19 : Value).ownBlock ∧ k_ ≠ gb207) (.slice A206_1 ((rd_T51 t190 x64_2).f1).length c206_1) ((rd_T51 t190 x64_2).f1)) := ⟨(by rw [hw]; exact (by (with_reducible repeat (first | apply Kd.V_alloc | apply Kd.V_drewN | apply Kd.V_drew)); exact Kd.V_mono (Kd.V_far (p := ⟨gb207, 1, none⟩) (Kd.V_far (p := ⟨gb207, 0, none⟩) (Kd.V_mono HL206_1.out (fun k_ hk => (⟨hk, hk.2⟩ : _ ∧ k_ ≠ gb207))) (fun _ hk => hk.2) (.int .i64 ((rd_T51 t190 x64_2).f0))) (fun _ hk => hk.2) (.slice A206_1 ((rd_T51 t190 x64_2).f1).length c206_1)) (fun _ hk => ⟨hk.1.1.1, ⟨hk.1.1.2, hk.1.2⟩⟩)))⟩; have n3_ : Aside0 (w37.heap[gb207]? = some (.cells #[.int .i64 ((rd_T51 t190 x64_2).f0), .slice A206_1 ((rd_T51 t190 x64_2).f1).length c206_1] 51 (0, 0))) := ⟨(by rw [hw]; exact (by (with_reducible repeat (first | refine blk_drewN ?_ _ | refine blk_drew ?_ | refine blk_alloc ?_ _)); refine blk_put (cs := #[.int .i64 ((rd_T51 t190 x64_2).f0), .slice none 0 0]) ?_ 1 _ rfl; (with_reducible repeat (first | refine blk_drewN ?_ _ | refine blk_drew ?_ | refine blk_alloc ?_ _)); refine blk_put (cs := #[.int .i64 0, .slice none 0 0]) ?_ 0 _ rfl; (with_reducible repeat (first | refine blk_drewN ?_ _ | refine blk_drew ?_ | refine blk_alloc ?_ _)); exact BK207.out))⟩; have n4_ : Aside0 (Below w.heap.size w w37) := ⟨(by rw [hw]; exact (by repeat (first | (with_reducible first | exact HB.out | apply below_alloc | apply pw_below_drewN | apply below_drew1 | refine below_set ?_ GE207.out) | exact HB.out)))⟩; clear hw; clear HO_12; clear HO_62; clear HL206_1; clear BK207; clear HB; have HO_12 := n0_; have HO_62 := n1_; have HL206_1 := n2_; have BK207 := n3_; have HB := n4_; clear n0_ n1_ n2_ n3_ n4_; have hcz38_0 : w37.cell? ⟨gb207, 0, none⟩ = some (.int .i64 ((rd_T51 t190 x64_2).f0)) := (blk_cell BK207.out 0).trans rfl; have hcz38_1 : w37.cell? ⟨gb207, 1, none⟩ = some (.slice A206_1 ((rd_T51 t190 x64_2).f1).length c206_1) := (blk_cell BK207.out 1).trans rfl; have hfz38_0 := blk_frozen BK207.out 0; have hfz38_1 := blk_frozen BK207.out 1) | ((with_reducible refine gate_store (t := 3) (p := 69) rfl ?_); refine store_event (t := 3) (p := 69) (v := ?vo_w39) (w1 := (w37.setCell ⟨gb207, 0, none⟩ (.int .i64 a1))) ?hg ?ho ?hn ?hr ?_; (case ho => rfl); (case hg => rfl); (case hn => rfl); (case hr => first | (go_simp; done) | (go_simp; rfl)); intro w39 hw; have n0_ : Aside0 (Kd.N k51 51 w39 w.heap.size (fun k_ => some k_ ≠ (.slice (some ad206) t190.length co19 : Value).ownBlock ∧ k_ ≠ gb207) u12 x12_2) := ⟨(by rw [hw]; exact (by (with_reducible repeat (first | apply Kd.N_alloc | apply Kd.N_drewN | apply Kd.N_drew)); exact Kd.N_mono (Kd.N_far (p := ⟨gb207, 0, none⟩) (Kd.N_mono HO_12.out (fun k_ hk => (⟨hk, hk.2⟩ : _ ∧ k_ ≠ gb207))) (fun _ hk => hk.2) (.int .i64 a1)) (fun _ hk => ⟨hk.1.1, hk.1.2⟩)))⟩; have n1_ : Aside0 (Kd.N k51 51 w39 w.heap.size (fun k_ => some k_ ≠ (u12 : Value).ownBlock ∧ k_ ≠ gb207) (.slice (some ad206) t190.length co19) t190) := ⟨(by rw [hw]; exact (by (with_reducible repeat (first | apply Kd.N_alloc | apply Kd.N_drewN | apply Kd.N_drew)); exact Kd.N_mono (Kd.N_far (p := ⟨gb207, 0, none⟩) (Kd.N_mono HO_62.out (fun k_ hk => (⟨hk, hk.2⟩ : _ ∧ k_ ≠ gb207))) (fun _ hk => hk.2) (.int .i64 a1)) (fun _ hk => ⟨hk.1.1, hk.1.2⟩)))⟩; have n2_ : Aside0 (Kd.V (Kd.int .i64) 3 w39 w.heap.size (fun k_ => some k_ ≠ (u12 : Value).ownBlock ∧ some k_ ≠ (.slice (some ad206) t190.length co19 : Value).ownBlock ∧ k_ ≠ gb207) (.slice A206_1 ((rd_T51 t190 x64_2).f1).length c206_1) ((rd_T51 t190 x64_2).f1)) := ⟨(by rw [hw]; exact (by (with_reducible repeat (first | apply Kd.V_alloc | apply Kd.V_drewN | apply Kd.V_drew)); exact Kd.V_mono (Kd.V_far (p := ⟨gb207, 0, none⟩) (Kd.V_mono HL206_1.out (fun k_ hk => (⟨hk, hk.2.2⟩ : _ ∧ k_ ≠ gb207))) (fun _ hk => hk.2) (.int .i64 a1)) (fun _ hk => ⟨hk.1.1, ⟨hk.1.2.1, hk.1.2.2⟩⟩)))⟩; have n3_ : Aside0 (w39.heap[gb207]? = some (.cells #[.int .i64 a1, .slice A206_1 ((rd_T51 t190 x64_2).f1).length c206_1] 51 (0, 0))) := ⟨(by rw [hw]; exact (by (with_reducible repeat (first | refine blk_drewN ?_ _ | refine blk_drew ?_ | refine blk_alloc ?_ _)); refine blk_put (cs := #[.int .i64 ((rd_T51 t190 x64_2).f0), .slice A206_1 ((rd_T51 t190 x64_2).f1).length c206_1]) ?_ 0 _ rfl; (with_reducible repeat (first | refine blk_drewN ?_ _ | refine blk_drew ?_ | refine blk_alloc ?_ _)); exact BK207.out))⟩; have n4_ : Aside0 (Below w.heap.size w w39) := ⟨(by rw [hw]; exact (by repeat (first | (with_reducible first | exact HB.out | apply below_alloc | apply pw_below_drewN | apply below_drew1 | refine below_set ?_ GE207.out) | exact HB.out)))⟩; clear hw; clear HO_12; clear HO_62; clear HL206_1; clear BK207; clear HB; have HO_12 := n0_; have HO_62 := n1_; have HL206_1 := n2_; have BK207 := n3_; have HB := n4_; clear n0_ n1_ n2_ n3_ n4_; have hcz40_0 : w39.cell? ⟨gb207, 0, none⟩ = some (.int .i64 a1) := (blk_cell BK207.out 0).trans rfl; have hcz40_1 : w39.cell? ⟨gb207, 1, none⟩ = some (.slice A206_1 ((rd_T51 t190 x64_2).f1).length c206_1) := (blk_cell BK207.out 1).trans rfl; have hfz40_0 := blk_frozen BK207.out 0; have hfz40_1 := blk_frozen BK207.out 1) | ((with_reducible refine gate_builtin (b := .append) (xs := #[.tmp 70, .tmp 72]) rfl ?_); (try (refine gate_guard (by rfl) ?_; dsimp only)); at_builtin; refine Kd.N_append k51 (w0 := w) w.heap.size rfl (.tmp 70) (.tmp 72) 38 51 (.agg #[(.int .i64 0), (.slice none 0 0)]) 32 rfl Try.underlying38 info51 rfl (by decide) (by omega) u12 x12_2 (⟨a1, (rd_T51 t190 x64_2).f1⟩ : S51) [.int .i64 a1, .slice A206_1 ((rd_T51 t190 x64_2).f1).length c206_1] (fun k_ => some k_ ≠ (.slice (some ad206) t190.length co19 : Value).ownBlock ∧ k_ ≠ gb207) (fun k_ => ((fun k_ => some k_ ≠ (.slice (some ad206) t190.length co19 : Value).ownBlock ∧ k_ ≠ gb207)) k_ ∧ some k_ ≠ (u12 : Value).ownBlock) rfl rfl ?aP (fun _ hk => hk) ?aF ?aO ?aB ?aS ?aL ?_; (case aP => exact (k51_mkF _ _ (⟨a1, (rd_T51 t190 x64_2).f1⟩ : S51) (Kd.V_reads' (Kd.V_mono (ok' := (fun k_ => ((fun k_ => some k_ ≠ (.slice (some ad206) t190.length co19 : Value).ownBlock ∧ k_ ≠ gb207)) k_ ∧ some k_ ≠ (u12 : Value).ownBlock)) (HL206_1.out) (fun k_ hk => ⟨⟨hk.2.1, hk.2.2⟩, hk.1⟩))).2.1 (Kd.V_F (Kd.V_mono (ok' := (fun k_ => ((fun k_ => some k_ ≠ (.slice (some ad206) t190.length co19 : Value).ownBlock ∧ k_ ≠ gb207)) k_ ∧ some k_ ≠ (u12 : Value).ownBlock)) (HL206_1.out) (fun k_ hk => ⟨⟨hk.2.1, hk.2.2⟩, hk.1⟩))))); (case aB => exact (by repeat (first | (with_reducible first | exact HB.out | apply below_alloc | apply pw_below_drewN | apply below_drew1 | refine below_set ?_ GE207.out) | exact HB.out))); (case aF => exact (fun k_ hk => ⟨Kd.fresh' (Kd.N_lt (by (with_reducible repeat (first | apply Kd.N_alloc | apply Kd.N_drewN | apply Kd.N_drew)); exact HO_62.out)) k_ hk, Kd.freshB (g := gb207) (o := .cells #[.int .i64 a1, .slice A206_1 ((rd_T51 t190 x64_2).f1).length c206_1] 51 (0, 0)) (by (with_reducible repeat (first | refine blk_drewN ?_ _ | refine blk_drew ?_ | refine blk_alloc ?_ _)); exact BK207.out) k_ hk⟩)); (case aO => exact (by (with_reducible repeat (first | apply Kd.N_alloc | apply Kd.N_drewN | apply Kd.N_drew)); exact HO_12.out)); (case aS => exact (below_size (by repeat (first | (with_reducible first | exact HB.out | apply below_alloc | apply pw_below_drewN | apply below_drew1 | refine below_set ?_ GE207.out) | exact HB.out)))); (case aL => have := LMc34.out; omega); intro v209 w41 ho hb hg hat; rw [← Ny208.out] at ho; have n0_ := Aside0.mk (Kd.N_afterv (ok := (fun k_ => k_ ≠ gb207)) (by (with_reducible repeat (first | apply Kd.N_alloc | apply Kd.N_drewN | apply Kd.N_drew)); exact Kd.N_mono HO_62.out (fun _ hk => ⟨hk.2, hk.1⟩)) hg hat); have n1_ := Aside0.mk (Kd.V_afterv (ok := (fun k_ => some k_ ≠ (.slice (some ad206) t190.length co19 : Value).ownBlock ∧ k_ ≠ gb207)) (by (with_reducible repeat (first | apply Kd.V_alloc | apply Kd.V_drewN | apply Kd.V_drew)); exact Kd.V_mono HL206_1.out (fun _ hk => ⟨⟨hk.2.1, hk.2.2⟩, hk.1⟩)) hg hat); have n2_ := Aside0.mk (blk_grown (g := gb207) (o := .cells #[.int .i64 a1, .slice A206_1 ((rd_T51 t190 x64_2).f1).length c206_1] 51 (0, 0)) (by (with_reducible repeat (first | refine blk_drewN ?_ _ | refine blk_drew ?_ | refine blk_alloc ?_ _)); exact BK207.out) hg (Kd.N_away HO_12.out (fun _ hk => hk.2))); have n3_ := Aside0.mk (hb); have n4_ := Aside0.mk (ho); clear HO_62; clear HL206_1; clear BK207; clear HB; clear HO_12; have HO_62 := n0_; have HL206_1 := n1_; have BK207 := n2_; have HB := n3_; have HO210 := n4_; clear n0_ n1_ n2_ n3_ n4_; clear ho hb hg hat))
                            go_roundg k2
                            case measure => have := HJ15.out; have := HK2.out; omega
                            case rel => exact ⟨(y208), (wrap64 (x64_2 + 1)), (by first | rfl | (simp; done) | (simp [*]; done)), H', ⟨by have := HJ15.out; have := HK2.out; omega⟩, ⟨by (with_reducible repeat (first | apply Kd.N_alloc | apply Kd.N_drewN | apply Kd.N_drew)); exact Kd.N_mono HO210.out (fun _ hk => hk.1)⟩, ⟨by (with_reducible repeat (first | apply Kd.N_alloc | apply Kd.N_drewN | apply Kd.N_drew)); exact Kd.N_mono HO_62.out (fun _ hk => hk.2)⟩, ⟨by repeat (first | (with_reducible first | exact HB.out | apply below_alloc | apply pw_below_drewN | apply below_drew1 | refine below_set ?_ GE207.out) | exact HB.out)⟩⟩
                          · rw [if_neg c34] at H
                            exact absurd H (by simp)
                        · rw [if_neg c33] at H
                          exact absurd H (by simp)
                      · rw [if_neg c32] at H
                        exact absurd H (by simp)
                    · rw [if_neg c31] at H
                      have c31b0 : decide (x64_2 < (t190.length : Int)) = false := decide_eq_false c31
                      clear c31
                      replace H := Option.bind_eq_some_iff.mp H
                      obtain ⟨t211, A420, H⟩ := H
                      replace H : (if t211 = 0 then ((ratlinelaw16_awake.f).bind fun t212 => (some t212)) else (some false)) = some r := H
                      have A42 := Aside0.mk A420
                      clear A420
                      by_cases c43 : t211 = 0
                      · rw [if_pos c43] at H
                        have c43b0 : (t211 == 0) = true := beq_iff_eq.mpr c43
                        have c43b1 : (t211 != 0) = false := bne_eq_false_iff_eq.mpr c43
                        clear c43
                        replace H := Option.bind_eq_some_iff.mp H
                        obtain ⟨t212, A440, H⟩ := H
                        replace H : (some t212) = some r := H
                        have A44 := Aside0.mk A440
                        clear A440
                        obtain rfl := Option.some.inj H
                        obtain ⟨Ao45, co45, eo45⟩ := Kd.N_slice HO_12.out
                        subst eo45
                        go_wp2_with (first | ((with_reducible refine gate_callee (f := 35) rfl ?_); refine goesL_ (some 77) rfl rfl Try.func35 (by kernel_rfl) rfl #[.slice Ao45 x12_2.length co45, .int .i64 a1] rfl (by (try simp only [List.map_toArray, List.map_cons, List.map_nil]); first | done | rfl | (simp only [List.length_drop, List.length_take]; rfl)) ?_; (with_reducible refine (sched_Waits.calls _ _ x12_2 a1 t211 _ ?side1 ?side2 A42.out).mono ?_); (case side1 => repeat (first | exact (Kd.N_reads' HO_12.out).2.2 | (with_reducible refine Kd.C_alloc ?_ _) | (with_reducible refine Kd.C_drewN ?_ _) | (with_reducible refine Kd.C_drew ?_))); (case side2 => exact (Kd.N_reads' HO_12.out).2.1); rintro e w46 ⟨rfl, hb⟩; refine ⟨_, rfl, ?_⟩; have n0_ := Aside0.mk (Kd.N_below (by (with_reducible repeat (first | apply Kd.N_alloc | apply Kd.N_drewN | apply Kd.N_drew)); exact HO_12.out) hb); have n1_ := Aside0.mk (Kd.N_below (by (with_reducible repeat (first | apply Kd.N_alloc | apply Kd.N_drewN | apply Kd.N_drew)); exact HO_62.out) hb); have n2_ := Aside0.mk (below_step (by repeat (first | (with_reducible first | exact HB.out | apply below_alloc | apply pw_below_drewN | apply below_drew1) | exact HB.out)) hb); clear HO_12; clear HO_62; clear HB; have HO_12 := n0_; have HO_62 := n1_; have HB := n2_; clear n0_ n1_ n2_; (try clear hb); (try clear hb2); (try clear hk); (try clear hi)) | (go_at_call 28; (with_reducible refine (ratlinelaw16_awake.calls  t212 _ A44.out).mono ?_); rintro e w47 ⟨rfl, hb⟩; have n0_ := Aside0.mk (Kd.N_below (by (with_reducible repeat (first | apply Kd.N_alloc | apply Kd.N_drewN | apply Kd.N_drew)); exact HO_12.out) hb); have n1_ := Aside0.mk (Kd.N_below (by (with_reducible repeat (first | apply Kd.N_alloc | apply Kd.N_drewN | apply Kd.N_drew)); exact HO_62.out) hb); have n2_ := Aside0.mk (below_step (by repeat (first | (with_reducible first | exact HB.out | apply below_alloc | apply pw_below_drewN | apply below_drew1) | exact HB.out)) hb); clear HO_12; clear HO_62; clear HB; have HO_12 := n0_; have HO_62 := n1_; have HB := n2_; clear n0_ n1_ n2_; (try clear hb); (try clear hb2); (try clear hk); (try clear hi)))
                        go_ret
                        exact ⟨by first | rfl | (simp [errW_none, errW_some] <;> rfl) | (simp only [← hji9]; first | rfl | (simp [errW_none, errW_some] <;> rfl)) | (simp [*, errW_none, errW_some] <;> rfl), by repeat (first | (with_reducible first | exact HB.out | apply below_alloc | apply pw_below_drewN | apply below_drew1) | exact HB.out)⟩
                      · rw [if_neg c43] at H
                        have c43b0 : (t211 == 0) = false := beq_eq_false_iff_ne.mpr c43
                        have c43b1 : (t211 != 0) = true := bne_iff_ne.mpr c43
                        obtain rfl := Option.some.inj H
                        obtain ⟨Ao48, co48, eo48⟩ := Kd.N_slice HO_12.out
                        subst eo48
                        go_wp2_with (first | ((with_reducible refine gate_callee (f := 35) rfl ?_); refine goesL_ (some 77) rfl rfl Try.func35 (by kernel_rfl) rfl #[.slice Ao48 x12_2.length co48, .int .i64 a1] rfl (by (try simp only [List.map_toArray, List.map_cons, List.map_nil]); first | done | rfl | (simp only [List.length_drop, List.length_take]; rfl)) ?_; (with_reducible refine (sched_Waits.calls _ _ x12_2 a1 t211 _ ?side1 ?side2 A42.out).mono ?_); (case side1 => repeat (first | exact (Kd.N_reads' HO_12.out).2.2 | (with_reducible refine Kd.C_alloc ?_ _) | (with_reducible refine Kd.C_drewN ?_ _) | (with_reducible refine Kd.C_drew ?_))); (case side2 => exact (Kd.N_reads' HO_12.out).2.1); rintro e w49 ⟨rfl, hb⟩; refine ⟨_, rfl, ?_⟩; have n0_ := Aside0.mk (Kd.N_below (by (with_reducible repeat (first | apply Kd.N_alloc | apply Kd.N_drewN | apply Kd.N_drew)); exact HO_12.out) hb); have n1_ := Aside0.mk (Kd.N_below (by (with_reducible repeat (first | apply Kd.N_alloc | apply Kd.N_drewN | apply Kd.N_drew)); exact HO_62.out) hb); have n2_ := Aside0.mk (below_step (by repeat (first | (with_reducible first | exact HB.out | apply below_alloc | apply pw_below_drewN | apply below_drew1) | exact HB.out)) hb); clear HO_12; clear HO_62; clear HB; have HO_12 := n0_; have HO_62 := n1_; have HB := n2_; clear n0_ n1_ n2_; (try clear hb); (try clear hb2); (try clear hk); (try clear hi)))
                        go_ret
                        exact ⟨by first | rfl | (simp [errW_none, errW_some] <;> rfl) | (simp only [← hji9]; first | rfl | (simp [errW_none, errW_some] <;> rfl)) | (simp [*, errW_none, errW_some] <;> rfl), by repeat (first | (with_reducible first | exact HB.out | apply below_alloc | apply pw_below_drewN | apply below_drew1) | exact HB.out)⟩
        · rw [if_neg c11] at H
          exact absurd H (by simp)
      · rw [if_neg c10] at H
        exact absurd H (by simp)
  · replace c5 := Bool.eq_false_iff.mpr c5
    subst c5
    have H1 : ((ratlinelaw16_awake.f).bind fun t189 => (some t189)) = some r := by rw [if_neg (show ¬ (false = true) by decide)] at H; exact H
    clear H
    have H := H1
    clear H1
    replace H := Option.bind_eq_some_iff.mp H
    obtain ⟨t189, A500, H⟩ := H
    replace H : (some t189) = some r := H
    have A50 := Aside0.mk A500
    clear A500
    obtain rfl := Option.some.inj H
    go_enter Try.func8, Try.ntmps8
    go_wp2_with (first | ((with_reducible refine gate_callee (f := 27) rfl ?_); refine goesL_ (some 16) rfl rfl Try.func27 (by kernel_rfl) rfl #[.slice A0 l0.length c0, .int .i64 40] rfl (by (try simp only [List.map_toArray, List.map_cons, List.map_nil]); first | done | rfl | (simp only [List.length_drop, List.length_take]; rfl)) ?_; (with_reducible refine (ratlinelaw16_Few.calls k _ _ l0 40 false _ ?side1 ?side2 A4.out).mono ?_); (case side1 => repeat (first | exact HR0.out | (with_reducible refine Kd.C_alloc ?_ _) | (with_reducible refine Kd.C_drewN ?_ _) | (with_reducible refine Kd.C_drew ?_))); (case side2 => exact HC0.out); rintro e w51 ⟨rfl, hb⟩; refine ⟨_, rfl, ?_⟩; have n0_ := Aside0.mk (below_step (by repeat (first | (with_reducible first | exact HB.out | apply below_alloc | apply pw_below_drewN | apply below_drew1) | exact HB.out)) hb); clear HB; have HB := n0_; clear n0_; (try clear hb); (try clear hb2); (try clear hk); (try clear hi)) | ((with_reducible refine gate_callee (f := 28) rfl ?_); refine goesL_ (some 18) rfl rfl Try.func28 (by kernel_rfl) rfl #[] rfl (by (try simp only [List.map_toArray, List.map_cons, List.map_nil]); first | done | rfl | (simp only [List.length_drop, List.length_take]; rfl)) ?_; (with_reducible refine (ratlinelaw16_awake.calls  t189 _ A50.out).mono ?_); rintro e w52 ⟨rfl, hb⟩; refine ⟨_, rfl, ?_⟩; have n0_ := Aside0.mk (below_step (by repeat (first | (with_reducible first | exact HB.out | apply below_alloc | apply pw_below_drewN | apply below_drew1) | exact HB.out)) hb); clear HB; have HB := n0_; clear n0_; (try clear hb); (try clear hb2); (try clear hk); (try clear hi)))
    go_ret
    exact ⟨by first | rfl | (simp [errW_none, errW_some] <;> rfl) | (simp [*, errW_none, errW_some] <;> rfl), by repeat (first | (with_reducible first | exact HB.out | apply below_alloc | apply pw_below_drewN | apply below_drew1) | exact HB.out)⟩

end Go.Proofs.Ythlahhkjoocigaa.XSched
