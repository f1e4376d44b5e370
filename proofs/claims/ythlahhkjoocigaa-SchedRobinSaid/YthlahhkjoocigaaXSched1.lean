-- Written by a program of this session (wip/xprint.py): functions of the given Go program as plain Lean functions, and that the machine's calls come to them.
import Derived.Test.YthlahhkjoocigaaXSched0
namespace Go.Proofs.Ythlahhkjoocigaa.XSched
open Go.RowKit Go.Proofs.YthlahhkjoocigaaW.PrintWords Go.Proofs.YthlahhkjoocigaaW.PrintLast Go.Proofs.YthlahhkjoocigaaW.PrintMore
attribute [local go_sem] max2_int min2_int max_two min_two max_three min_three max_four min_four   -- for this text's walks alone
set_option linter.unusedVariables false
set_option linter.unusedSimpArgs false

/-! ### ratlinelaw16_Few: function 27 -/
def ratlinelaw16_Few.l0 : Nat → List (S51) → Int → List (S51) → Int → Int → Option (Bool)
  | 0, _, _, _, _, _ => none
  | k + 1, x0, x1, x7, x8, x9 => if x9 < x8 then (if 0 ≤ x9 then (if x9 < (x7.length : Int) then (if (((rd_T51 x7 x9).f1).length : Int) > 20 then (some false) else (ratlinelaw16_Few.l0 k x0 x1 x7 x8 (wrap64 (x9 + 1)))) else (none)) else (none)) else (some (decide ((x0.length : Int) ≤ x1)))
def ratlinelaw16_Few.f (k : Nat) (l0 : List (S51)) (a1 : Int) : Option (Bool) := ratlinelaw16_Few.l0 k l0 a1 l0 (l0.length : Int) 0
theorem ratlinelaw16_Few.mono_l : ∀ k, (∀ y0 y1 y2 y3 y4, LeO (ratlinelaw16_Few.l0 k y0 y1 y2 y3 y4) (ratlinelaw16_Few.l0 (k + 1) y0 y1 y2 y3 y4))
  | 0 => fun _ _ _ _ _ r h => by simp [ratlinelaw16_Few.l0] at h
  | k + 1 => by
    have ih0 := ratlinelaw16_Few.mono_l k
    · intro y0 y1 y2 y3 y4
      unfold ratlinelaw16_Few.l0
      repeat' first
      | (with_reducible exact ih0 _ _ _ _ _)
      | (with_reducible exact LeO.refl _)
      | (with_reducible exact LeO.none _)
      | (with_reducible refine LeO.ite ?_ ?_)
      | (with_reducible refine LeO.bind ?_ (fun _ => ?_))
      | exact ih0 _ _ _ _ _
      | exact LeO.none _
      | refine LeO.ite ?_ ?_
      | refine LeO.bind ?_ (fun _ => ?_)
theorem ratlinelaw16_Few.mono : ∀ a0 a1 k, LeO (ratlinelaw16_Few.f k a0 a1) (ratlinelaw16_Few.f (k + 1) a0 a1) := by
  intro a0 a1 k
  have ih0 := ratlinelaw16_Few.mono_l k
  unfold ratlinelaw16_Few.f
  repeat' first
      | (with_reducible exact ih0 _ _ _ _ _)
      | (with_reducible exact LeO.refl _)
      | (with_reducible exact LeO.none _)
      | (with_reducible refine LeO.ite ?_ ?_)
      | (with_reducible refine LeO.bind ?_ (fun _ => ?_))
      | exact ih0 _ _ _ _ _
      | exact LeO.none _
      | refine LeO.ite ?_ ?_
      | refine LeO.bind ?_ (fun _ => ?_)
set_option maxHeartbeats 8000000 in
set_option maxRecDepth 100000 in
theorem ratlinelaw16_Few.calls (k : Nat) (A0 : Option Addr) (c0 : Nat) (l0 : List (S51)) (a1 : Int) (r : Bool) (w : World) (hr0 : Kd.C k51 w A0 l0.length l0) (hc0 : l0.length ≤ c0) (h : ratlinelaw16_Few.f k l0 a1 = some r) :
    Calls Try.prog 27 #[.slice A0 l0.length c0, .int .i64 a1] w fun e w' => e = .returned (.bool r) ∧ Below w.heap.size w w' := by
  have hu51 := Try.underlying51
  have HR0 := Aside0.mk hr0
  have HC0 := Aside0.mk hc0
  clear hr0 hc0
  have HB := Aside0.mk (Below.refl w.heap.size w)
  have H : (ratlinelaw16_Few.l0 k l0 a1 l0 (l0.length : Int) 0) = some r := h
  clear h
  have H' := Aside0.mk H
  clear H
  go_enter Try.func27, Try.ntmps27
  go_wp2
  go_loopg [9] k (fun kq v9 w' => ∃ (x9_1 : Int), v9 = .int .i64 x9_1 ∧ Aside0 (ratlinelaw16_Few.l0 kq l0 a1 l0 (l0.length : Int) x9_1 = some r) ∧ Aside0 (kq ≤ k) ∧ Aside0 (Below w.heap.size w w'))
  case atStart => exact ⟨(0), (by first | rfl | (simp; done) | (simp [*]; done)), H', ⟨Nat.le_refl _⟩, ⟨by repeat (first | (with_reducible first | exact HB.out | apply below_alloc | apply pw_below_drewN | apply below_drew1) | exact HB.out)⟩⟩
  case round =>
    clear H'
    try clear c2
    try clear p2
    obtain ⟨x9_1, rfl, HA, HK1, HB⟩ := hrel
    cases gk with
    | zero => exact absurd HA.out (by simp [ratlinelaw16_Few.l0])
    | succ k1 =>
      have H := HA.out
      clear HA
      simp only [ratlinelaw16_Few.l0] at H
      by_cases c3 : x9_1 < (l0.length : Int)
      · rw [if_pos c3] at H
        have c3b0 : decide (x9_1 < (l0.length : Int)) = true := decide_eq_true c3
        clear c3
        by_cases c4 : 0 ≤ x9_1
        · rw [if_pos c4] at H
          have c4b0 : decide (0 ≤ x9_1) = true := decide_eq_true c4
          clear c4
          by_cases c5 : x9_1 < (l0.length : Int)
          · rw [if_pos c5] at H
            have c5b0 : decide (x9_1 < (l0.length : Int)) = true := decide_eq_true c5
            clear c5
            by_cases c6 : (((rd_T51 l0 x9_1).f1).length : Int) > 20
            · rw [if_pos c6] at H
              have c6b0 : decide (20 < (((rd_T51 l0 x9_1).f1).length : Int)) = true := decide_eq_true c6
              have c6b1 : decide (20 < ((rd_T51 l0 x9_1).f1).length) = true := decide_eq_true (by omega)
              clear c6
              obtain rfl := Option.some.inj H
              have p101 : 0 ≤ (x9_1 : Int) := of_decide_eq_true (by first | (with_reducible assumption) | assumption)
              have q101 : x9_1 < (l0.length : Int) := of_decide_eq_true (by first | (with_reducible assumption) | assumption)
              obtain ⟨ad101, A101_1, c101_1, e101, hx101_0, hx101_1, hl101_1, hi101_1⟩ := at_T51 HR0.out x9_1 p101 q101
              cases e101
              replace hx101_0 := (HB.out.cell (World.block_lt_of_cell? w _ hx101_0)).trans hx101_0
              replace hx101_1 := (HB.out.cell (World.block_lt_of_cell? w _ hx101_1)).trans hx101_1
              have HR101_1 := Aside0.mk hi101_1
              have HC101_1 := Aside0.mk hl101_1
              clear hi101_1 hl101_1
              replace p101 := eq_true p101
              replace q101 := eq_true q101
              go_wp2_with (first | ((with_reducible refine gate_dst (N := 6) rfl ?_); refine box_event ?hg (N := 6) ?hd (cs := #[.int .i64 0, .slice none 0 0]) (t := 51) ?hr ?_; (case hd => rfl); (case hg => rfl); (case hr => first | (go_simp; done) | (go_simp; rfl)); intro gb102 hg w7 hbox hb; have n0_ := Aside0.mk (below_step (by repeat (first | (with_reducible first | exact HB.out | apply below_alloc | apply pw_below_drewN | apply below_drew1) | exact HB.out)) hb); have n1_ := Aside0.mk (hbox); have n2_ := Aside0.mk ((by rw [hg]; exact (below_size (by repeat (first | (with_reducible first | exact HB.out | apply below_alloc | apply pw_below_drewN | apply below_drew1) | exact HB.out))) : w.heap.size ≤ gb102)); have n3_ := Aside0.mk ((by rw [hg]; exact (below_size (by repeat (first | (with_reducible first | exact HB.out | apply below_alloc | apply pw_below_drewN | apply below_drew1) | exact HB.out))) : w.heap.size ≤ gb102)); clear HB; have HB := n0_; have BK102 := n1_; have GW102 := n2_; have GE102 := n3_; clear n0_ n1_ n2_ n3_; clear hb hbox hg; have hcz8_0 : w7.cell? ⟨gb102, 0, none⟩ = some (.int .i64 0) := (blk_cell BK102.out 0).trans rfl; have hcz8_1 : w7.cell? ⟨gb102, 1, none⟩ = some (.slice none 0 0) := (blk_cell BK102.out 1).trans rfl; have hfz8_0 := blk_frozen BK102.out 0; have hfz8_1 := blk_frozen BK102.out 1))
              go_ret
              exact ⟨by first | rfl | (simp [errW_none, errW_some] <;> rfl) | (simp [*, errW_none, errW_some] <;> rfl), by repeat (first | (with_reducible first | exact HB.out | apply below_alloc | apply pw_below_drewN | apply below_drew1 | refine below_set ?_ GE102.out) | exact HB.out)⟩
            · rw [if_neg c6] at H
              have c6b0 : decide (20 < (((rd_T51 l0 x9_1).f1).length : Int)) = false := decide_eq_false c6
              have c6b1 : decide (20 < ((rd_T51 l0 x9_1).f1).length) = false := decide_eq_false (by omega)
              clear c6
              have H' := Aside0.mk H
              clear H
              have p101 : 0 ≤ (x9_1 : Int) := of_decide_eq_true (by first | (with_reducible assumption) | assumption)
              have q101 : x9_1 < (l0.length : Int) := of_decide_eq_true (by first | (with_reducible assumption) | assumption)
              obtain ⟨ad101, A101_1, c101_1, e101, hx101_0, hx101_1, hl101_1, hi101_1⟩ := at_T51 HR0.out x9_1 p101 q101
              cases e101
              replace hx101_0 := (HB.out.cell (World.block_lt_of_cell? w _ hx101_0)).trans hx101_0
              replace hx101_1 := (HB.out.cell (World.block_lt_of_cell? w _ hx101_1)).trans hx101_1
              have HR101_1 := Aside0.mk hi101_1
              have HC101_1 := Aside0.mk hl101_1
              clear hi101_1 hl101_1
              replace p101 := eq_true p101
              replace q101 := eq_true q101
              go_wp2_with (first | ((with_reducible refine gate_dst (N := 6) rfl ?_); refine box_event ?hg (N := 6) ?hd (cs := #[.int .i64 0, .slice none 0 0]) (t := 51) ?hr ?_; (case hd => rfl); (case hg => rfl); (case hr => first | (go_simp; done) | (go_simp; rfl)); intro gb102 hg w9 hbox hb; have n0_ := Aside0.mk (below_step (by repeat (first | (with_reducible first | exact HB.out | apply below_alloc | apply pw_below_drewN | apply below_drew1) | exact HB.out)) hb); have n1_ := Aside0.mk (hbox); have n2_ := Aside0.mk ((by rw [hg]; exact (below_size (by repeat (first | (with_reducible first | exact HB.out | apply below_alloc | apply pw_below_drewN | apply below_drew1) | exact HB.out))) : w.heap.size ≤ gb102)); have n3_ := Aside0.mk ((by rw [hg]; exact (below_size (by repeat (first | (with_reducible first | exact HB.out | apply below_alloc | apply pw_below_drewN | apply below_drew1) | exact HB.out))) : w.heap.size ≤ gb102)); clear HB; have HB := n0_; have BK102 := n1_; have GW102 := n2_; have GE102 := n3_; clear n0_ n1_ n2_ n3_; clear hb hbox hg; have hcz10_0 : w9.cell? ⟨gb102, 0, none⟩ = some (.int .i64 0) := (blk_cell BK102.out 0).trans rfl; have hcz10_1 : w9.cell? ⟨gb102, 1, none⟩ = some (.slice none 0 0) := (blk_cell BK102.out 1).trans rfl; have hfz10_0 := blk_frozen BK102.out 0; have hfz10_1 := blk_frozen BK102.out 1))
              go_roundg k1
              case measure => have := HK1.out; omega
              case rel => exact ⟨(wrap64 (x9_1 + 1)), (by first | rfl | (simp; done) | (simp [*]; done)), H', ⟨by have := HK1.out; omega⟩, ⟨by repeat (first | (with_reducible first | exact HB.out | apply below_alloc | apply pw_below_drewN | apply below_drew1 | refine below_set ?_ GE102.out) | exact HB.out)⟩⟩
          · rw [if_neg c5] at H
            exact absurd H (by simp)
        · rw [if_neg c4] at H
          exact absurd H (by simp)
      · rw [if_neg c3] at H
        have c3b0 : decide (x9_1 < (l0.length : Int)) = false := decide_eq_false c3
        clear c3
        obtain rfl := Option.some.inj H
        go_wp2
        go_ret
        exact ⟨by first | rfl | (simp [errW_none, errW_some] <;> rfl) | (simp [*, errW_none, errW_some] <;> rfl), by repeat (first | (with_reducible first | exact HB.out | apply below_alloc | apply pw_below_drewN | apply below_drew1) | exact HB.out)⟩

/-! ### sched_Next: function 31 -/
def sched_Next.f (l0 : List Int) (a1 : Int) : Option (Int × Bool) := if (l0.length : Int) = 0 then (some (0, false)) else (if (((l0.length : Int)) % 4294967296) = 0 then (none) else (if 0 ≤ (Int.tmod a1 (((l0.length : Int)) % 4294967296)) then (if (Int.tmod a1 (((l0.length : Int)) % 4294967296)) < (l0.length : Int) then (some (rd l0 (Int.tmod a1 (((l0.length : Int)) % 4294967296)), true)) else (none)) else (none)))
set_option maxHeartbeats 8000000 in
set_option maxRecDepth 100000 in
theorem sched_Next.calls (A0 : Option Addr) (c0 : Nat) (l0 : List Int) (a1 : Int) (r1 : Int) (r2 : Bool) (w : World) (hr0 : Kd.C (Kd.int .i64) w A0 l0.length l0) (hc0 : l0.length ≤ c0) (h : sched_Next.f l0 a1 = some (r1, r2)) :
    Calls Try.prog 31 #[.slice A0 l0.length c0, .int .u32 a1] w fun e w' => e = .returned (.tuple #[.int .i64 r1, .bool r2]) ∧ Drawn0 w w' := by
  have HR0 := Aside0.mk hr0
  have HC0 := Aside0.mk hc0
  clear hr0 hc0
  have H : (if (l0.length : Int) = 0 then (some (0, false)) else (if (((l0.length : Int)) % 4294967296) = 0 then (none) else (if 0 ≤ (Int.tmod a1 (((l0.length : Int)) % 4294967296)) then (if (Int.tmod a1 (((l0.length : Int)) % 4294967296)) < (l0.length : Int) then (some (rd l0 (Int.tmod a1 (((l0.length : Int)) % 4294967296)), true)) else (none)) else (none)))) = some (r1, r2) := h
  clear h
  by_cases c3 : (l0.length : Int) = 0
  · rw [if_pos c3] at H
    have c3b0 : ((l0.length : Int) == 0) = true := beq_iff_eq.mpr c3
    have c3b1 : ((l0.length : Int) != 0) = false := bne_eq_false_iff_eq.mpr c3
    clear c3
    simp only [Option.some.injEq, Prod.mk.injEq] at H
    obtain ⟨rfl, rfl⟩ := H
    go_enter Try.func31, Try.ntmps31
    go_wp2
    go_ret2
    exact ⟨by first | rfl | (simp; done) | (simp [*]; done), by repeat (first | exact Drawn0.refl _ | apply Drawn0.step)⟩
  · rw [if_neg c3] at H
    have c3b0 : ((l0.length : Int) == 0) = false := beq_eq_false_iff_ne.mpr c3
    have c3b1 : ((l0.length : Int) != 0) = true := bne_iff_ne.mpr c3
    have c3b2 : ¬ (l0 = []) := fun h_ => c3 (by rw [h_]; rfl)
    by_cases c4 : (((l0.length : Int)) % 4294967296) = 0
    · rw [if_pos c4] at H
      exact absurd H (by simp)
    · rw [if_neg c4] at H
      have c4b0 : ((((l0.length : Int)) % 4294967296) == 0) = false := beq_eq_false_iff_ne.mpr c4
      have c4b1 : ((((l0.length : Int)) % 4294967296) != 0) = true := bne_iff_ne.mpr c4
      obtain ⟨ji5, hji5⟩ : ∃ j_ : Int, (Int.tmod a1 (((l0.length : Int)) % 4294967296)) = j_ := ⟨_, rfl⟩
      replace H : (if 0 ≤ (ji5) then (if (ji5) < (l0.length : Int) then (some (rd l0 (ji5), true)) else (none)) else (none)) = some (r1, r2) := by first | (rw [hji5] at H; exact H) | (simp only [hji5] at H ⊢; exact H)
      by_cases c6 : 0 ≤ (ji5)
      · rw [if_pos c6] at H
        have c6b0 : decide (0 ≤ (ji5)) = true := decide_eq_true c6
        clear c6
        by_cases c7 : (ji5) < (l0.length : Int)
        · rw [if_pos c7] at H
          have c7b0 : decide ((ji5) < (l0.length : Int)) = true := decide_eq_true c7
          clear c7
          simp only [Option.some.injEq, Prod.mk.injEq] at H
          obtain ⟨rfl, rfl⟩ := H
          have p103 : 0 ≤ ((ji5) : Int) := of_decide_eq_true (by first | (with_reducible assumption) | assumption)
          have q103 : (ji5) < (l0.length : Int) := of_decide_eq_true (by first | (with_reducible assumption) | assumption)
          obtain ⟨ad103, e103, hx103_0⟩ := Kd.at_int HR0.out (ji5) p103 q103
          cases e103
          replace p103 := eq_true p103
          replace q103 := eq_true q103
          go_enter Try.func31, Try.ntmps31
          go_wp2
          go_ret2
          exact ⟨by first | rfl | (simp; done) | (simp only [← hji5] <;> (first | rfl | simp)) | (simp [*]; done), by repeat (first | exact Drawn0.refl _ | apply Drawn0.step)⟩
        · rw [if_neg c7] at H
          exact absurd H (by simp)
      · rw [if_neg c6] at H
        exact absurd H (by simp)

-- NOT PRINTED: function 66 (slices_IndexFunc_int_int)

/-! ### sched_Robin: function 33 -/
/-- Where the first one above 'last' stands; -1: nowhere. -/
def gtIdx (last : Int) : List Int → Int → Int
  | [], _ => -1
  | x :: xs, i => if last < x then i else gtIdx last xs (i + 1)
def sched_Robin.f (l0 : List Int) (a1 : Int) : Option (Int × Bool) := some ((mx (gtIdx a1 l0 0) 0) % 4294967296, decide ((l0.length : Int) > 0))

theorem drop_cons {α : Type} (d : α) (l : List α) (i : Nat) (h : i < l.length) : l.drop i = l.getD i d :: l.drop (i + 1) := by
  rw [List.drop_eq_getElem_cons h, List.getD_eq_getElem?_getD, List.getElem?_eq_getElem h]; rfl

/-- The cells of a block, behind one more block. -/
theorem cell_alloc {w : World} {g : Nat} {t : TypeId} {cs : Array Value} (h : w.heap[g]? = some (.cells cs t (0, 0))) (i : Nat) (v : Value) (hv : cs[i]? = some v) : ∀ o, (w.alloc o).cell? ⟨g, i, none⟩ = some v :=
  fun o => (blk_cell (blk_alloc h o) i).trans hv

theorem robin1 (x last : Int) (g : Nat) (w : World) (hg : w.heap[g]? = some (.cells #[.int .i64 last] 3 (0, 0))) :
    Calls Try.prog 67 #[.int .i64 x, .pointer (some ⟨g, 0, none⟩)] w fun e w' => e = .returned (.bool (decide (last < x))) ∧ w = w' := by
  have f0 : w.cell? ⟨g, 0, none⟩ = some (.int .i64 last) := (blk_cell hg 0).trans rfl
  clear hg
  go_enter Try.func67, Try.ntmps67
  go_wp2
  all_goals (go_ret; exact ⟨by simp [*], rfl⟩)

set_option maxHeartbeats 4000000 in
set_option maxRecDepth 100000 in
theorem robin2 (A0 : Option Addr) (c0 : Nat) (l0 : List Int) (last : Int) (g : Nat) (w : World) (hr0 : Kd.C (Kd.int .i64) w A0 l0.length l0) (hg : w.heap[g]? = some (.cells #[.int .i64 last] 3 (0, 0))) :
    Calls Try.prog 66 #[.slice A0 l0.length c0, .func (.func 67) #[] #[.pointer (some ⟨g, 0, none⟩)]] w fun e w' => e = .returned (.int .i64 (gtIdx last l0 0)) ∧ w = w' := by
  have HR0 := Aside0.mk hr0
  have HG := Aside0.mk hg
  have hl0 : l0.length ≤ 9223372036854775807 := hr0.2.1
  clear hr0 hg
  go_enter Try.func66, Try.ntmps66
  go_wp2_with fail
  go_loop [8] (fun v8 => ∃ i : Nat, i ≤ l0.length ∧ v8 = .int .i64 i ∧ Aside0 (gtIdx last (l0.drop i) i = gtIdx last l0 0)) (fun v8 => l0.length - (intOf v8).toNat)
  case atStart => exact ⟨0, Nat.zero_le _, rfl, ⟨rfl⟩⟩
  case round =>
    obtain ⟨i, hi, rfl, HA⟩ := hrel
    by_cases hlt : i < l0.length
    · have H := HA.out
      rw [drop_cons 0 l0 i hlt] at H
      obtain ⟨ad, e0, hx⟩ := Kd.at_int HR0.out (i : Int) (by omega) (by omega)
      subst e0
      simp only [rd, Int.toNat_natCast] at hx
      simp only [gtIdx] at H
      generalize l0.getD i 0 = x at hx H
      by_cases hc : last < x
      · rw [if_pos hc] at H
        have hcb : decide (last < x) = true := decide_eq_true hc
        clear hc HA
        have HH := Aside0.mk H
        clear H
        go_wp2_with (go_at_call 67; (with_reducible refine (robin1 _ _ _ _ HG.out).mono ?_); rintro e w5 ⟨rfl, rfl⟩)
        go_ret
        exact ⟨by rw [← HH.out]; rfl, rfl⟩
      · rw [if_neg hc] at H
        have hcb : decide (last < x) = false := decide_eq_false hc
        clear hc HA
        have HH := Aside0.mk H
        clear H
        go_wp2_with (go_at_call 67; (with_reducible refine (robin1 _ _ _ _ HG.out).mono ?_); rintro e w5 ⟨rfl, rfl⟩)
        go_round
        case rel => exact ⟨i + 1, by omega, by go_num, ⟨HH.out⟩⟩
        case measure => simp [intOf]; omega
    · obtain rfl : i = l0.length := by omega
      have H := HA.out
      rw [List.drop_of_length_le (Nat.le_refl _)] at H
      have HH := Aside0.mk H
      clear H HA
      go_wp2
      go_ret
      exact ⟨by rw [← HH.out]; rfl, rfl⟩

set_option maxHeartbeats 4000000 in
set_option maxRecDepth 100000 in
theorem sched_Robin.calls (A0 : Option Addr) (c0 : Nat) (l0 : List Int) (a1 : Int) (r1 : Int) (r2 : Bool) (w : World) (hr0 : Kd.C (Kd.int .i64) w A0 l0.length l0) (hc0 : l0.length ≤ c0) (h : sched_Robin.f l0 a1 = some (r1, r2)) :
    Calls Try.prog 33 #[.slice A0 l0.length c0, .int .i64 a1] w fun e w' => e = .returned (.tuple #[.int .u32 r1, .bool r2]) ∧ Below w.heap.size w w' := by
  obtain ⟨rfl, rfl⟩ := Prod.mk.inj (Option.some.inj h)
  have HR0 := Aside0.mk hr0
  have hl0 : l0.length ≤ 9223372036854775807 := hr0.2.1
  clear hr0 h
  go_enter Try.func33, Try.ntmps33
  go_wp2_with (go_at_call 66; (with_reducible refine (robin2 _ _ _ a1 _ _ (Kd.C_alloc HR0.out _) (blk_new _ _)).mono ?_); rintro e w5 ⟨rfl, rfl⟩)
  all_goals
    go_ret2
    exact ⟨by first | (simp [mx, *]; done) | (simp [mx]; rw [if_neg (by omega)]), below_alloc (Below.refl _ _) _⟩

-- NOT PRINTED: function 68 (sched_waiting)

/-! ### slices_Index_int_int: function 84 -/
def slices_Index_int_int.l0 : Nat → List Int → Int → Int → Int → Option (Int)
  | 0, _, _, _, _ => none
  | k + 1, x0, x1, x7, x8 => if x8 < x7 then (if 0 ≤ x8 then (if x8 < (x0.length : Int) then (if x1 = (rd x0 x8) then (some x8) else (slices_Index_int_int.l0 k x0 x1 x7 (wrap64 (x8 + 1)))) else (none)) else (none)) else (some (-1))
def slices_Index_int_int.f (k : Nat) (l0 : List Int) (a1 : Int) : Option (Int) := slices_Index_int_int.l0 k l0 a1 (l0.length : Int) 0
theorem slices_Index_int_int.mono_l : ∀ k, (∀ y0 y1 y2 y3, LeO (slices_Index_int_int.l0 k y0 y1 y2 y3) (slices_Index_int_int.l0 (k + 1) y0 y1 y2 y3))
  | 0 => fun _ _ _ _ r h => by simp [slices_Index_int_int.l0] at h
  | k + 1 => by
    have ih0 := slices_Index_int_int.mono_l k
    · intro y0 y1 y2 y3
      unfold slices_Index_int_int.l0
      repeat' first
      | (with_reducible exact ih0 _ _ _ _)
      | (with_reducible exact LeO.refl _)
      | (with_reducible exact LeO.none _)
      | (with_reducible refine LeO.ite ?_ ?_)
      | (with_reducible refine LeO.bind ?_ (fun _ => ?_))
      | exact ih0 _ _ _ _
      | exact LeO.none _
      | refine LeO.ite ?_ ?_
      | refine LeO.bind ?_ (fun _ => ?_)
theorem slices_Index_int_int.mono : ∀ a0 a1 k, LeO (slices_Index_int_int.f k a0 a1) (slices_Index_int_int.f (k + 1) a0 a1) := by
  intro a0 a1 k
  have ih0 := slices_Index_int_int.mono_l k
  unfold slices_Index_int_int.f
  repeat' first
      | (with_reducible exact ih0 _ _ _ _)
      | (with_reducible exact LeO.refl _)
      | (with_reducible exact LeO.none _)
      | (with_reducible refine LeO.ite ?_ ?_)
      | (with_reducible refine LeO.bind ?_ (fun _ => ?_))
      | exact ih0 _ _ _ _
      | exact LeO.none _
      | refine LeO.ite ?_ ?_
      | refine LeO.bind ?_ (fun _ => ?_)
set_option maxHeartbeats 8000000 in
set_option maxRecDepth 100000 in
theorem slices_Index_int_int.calls (k : Nat) (A0 : Option Addr) (c0 : Nat) (l0 : List Int) (a1 : Int) (r : Int) (w : World) (hr0 : Kd.C (Kd.int .i64) w A0 l0.length l0) (hc0 : l0.length ≤ c0) (h : slices_Index_int_int.f k l0 a1 = some r) :
    Calls Try.prog 84 #[.slice A0 l0.length c0, .int .i64 a1] w fun e w' => e = .returned (.int .i64 r) ∧ Drawn0 w w' := by
  have HR0 := Aside0.mk hr0
  have HC0 := Aside0.mk hc0
  clear hr0 hc0
  have H : (slices_Index_int_int.l0 k l0 a1 (l0.length : Int) 0) = some r := h
  clear h
  have H' := Aside0.mk H
  clear H
  go_enter Try.func84, Try.ntmps84
  go_wp2
  go_loopg [8] k (fun kq v8 w' => ∃ (x8_1 : Int), v8 = .int .i64 x8_1 ∧ Aside0 (slices_Index_int_int.l0 kq l0 a1 (l0.length : Int) x8_1 = some r) ∧ Aside0 (kq ≤ k) ∧ Drawn0 w w')
  case atStart => exact ⟨(0), (by first | rfl | (simp; done) | (simp [*]; done)), H', ⟨Nat.le_refl _⟩, by repeat (first | exact Drawn0.refl _ | apply Drawn0.step)⟩
  case round =>
    clear H'
    try clear p2
    obtain ⟨x8_1, rfl, HA, HK1, ⟨m1, rfl⟩⟩ := hrel
    cases gk with
    | zero => exact absurd HA.out (by simp [slices_Index_int_int.l0])
    | succ k1 =>
      have H := HA.out
      clear HA
      simp only [slices_Index_int_int.l0] at H
      by_cases c3 : x8_1 < (l0.length : Int)
      · rw [if_pos c3] at H
        have c3b0 : decide (x8_1 < (l0.length : Int)) = true := decide_eq_true c3
        clear c3
        by_cases c4 : 0 ≤ x8_1
        · rw [if_pos c4] at H
          have c4b0 : decide (0 ≤ x8_1) = true := decide_eq_true c4
          clear c4
          by_cases c5 : x8_1 < (l0.length : Int)
          · rw [if_pos c5] at H
            have c5b0 : decide (x8_1 < (l0.length : Int)) = true := decide_eq_true c5
            clear c5
            by_cases c6 : a1 = (rd l0 x8_1)
            · rw [if_pos c6] at H
              have c6b0 : (a1 == (rd l0 x8_1)) = true := beq_iff_eq.mpr c6
              have c6b1 : (a1 != (rd l0 x8_1)) = false := bne_eq_false_iff_eq.mpr c6
              clear c6
              obtain rfl := Option.some.inj H
              have p104 : 0 ≤ (x8_1 : Int) := of_decide_eq_true (by first | (with_reducible assumption) | assumption)
              have q104 : x8_1 < (l0.length : Int) := of_decide_eq_true (by first | (with_reducible assumption) | assumption)
              obtain ⟨ad104, e104, hx104_0⟩ := Kd.at_int HR0.out x8_1 p104 q104
              cases e104
              replace p104 := eq_true p104
              replace q104 := eq_true q104
              go_wp2
              go_ret
              exact ⟨by first | rfl | (simp; done) | (simp [*]; done), by repeat (first | exact Drawn0.refl _ | apply Drawn0.step)⟩
            · rw [if_neg c6] at H
              have c6b0 : (a1 == (rd l0 x8_1)) = false := beq_eq_false_iff_ne.mpr c6
              have c6b1 : (a1 != (rd l0 x8_1)) = true := bne_iff_ne.mpr c6
              have H' := Aside0.mk H
              clear H
              have p104 : 0 ≤ (x8_1 : Int) := of_decide_eq_true (by first | (with_reducible assumption) | assumption)
              have q104 : x8_1 < (l0.length : Int) := of_decide_eq_true (by first | (with_reducible assumption) | assumption)
              obtain ⟨ad104, e104, hx104_0⟩ := Kd.at_int HR0.out x8_1 p104 q104
              cases e104
              replace p104 := eq_true p104
              replace q104 := eq_true q104
              go_wp2
              go_roundg k1
              case measure => have := HK1.out; omega
              case rel => exact ⟨(wrap64 (x8_1 + 1)), (by first | rfl | (simp; done) | (simp [*]; done)), H', ⟨by have := HK1.out; omega⟩, by repeat (first | exact Drawn0.refl _ | apply Drawn0.step)⟩
          · rw [if_neg c5] at H
            exact absurd H (by simp)
        · rw [if_neg c4] at H
          exact absurd H (by simp)
      · rw [if_neg c3] at H
        have c3b0 : decide (x8_1 < (l0.length : Int)) = false := decide_eq_false c3
        clear c3
        obtain rfl := Option.some.inj H
        go_wp2
        go_ret
        exact ⟨by first | rfl | (simp; done) | (simp [*]; done), by repeat (first | exact Drawn0.refl _ | apply Drawn0.step)⟩

/-! ### slices_Contains_int_int: function 79 -/
def slices_Contains_int_int.f (k : Nat) (l0 : List Int) (a1 : Int) : Option (Bool) := (slices_Index_int_int.f k l0 a1).bind fun t105 => (some (decide (t105 ≥ 0)))
theorem slices_Contains_int_int.mono : ∀ a0 a1 k, LeO (slices_Contains_int_int.f k a0 a1) (slices_Contains_int_int.f (k + 1) a0 a1) := by
  intro a0 a1 k
  unfold slices_Contains_int_int.f
  repeat' first
      | (with_reducible exact slices_Index_int_int.mono _ _ _)
      | (with_reducible exact LeO.refl _)
      | (with_reducible exact LeO.none _)
      | (with_reducible refine LeO.ite ?_ ?_)
      | (with_reducible refine LeO.bind ?_ (fun _ => ?_))
      | exact slices_Index_int_int.mono _ _ _
      | exact LeO.none _
      | refine LeO.ite ?_ ?_
      | refine LeO.bind ?_ (fun _ => ?_)
set_option maxHeartbeats 8000000 in
set_option maxRecDepth 100000 in
theorem slices_Contains_int_int.calls (k : Nat) (A0 : Option Addr) (c0 : Nat) (l0 : List Int) (a1 : Int) (r : Bool) (w : World) (hr0 : Kd.C (Kd.int .i64) w A0 l0.length l0) (hc0 : l0.length ≤ c0) (h : slices_Contains_int_int.f k l0 a1 = some r) :
    Calls Try.prog 79 #[.slice A0 l0.length c0, .int .i64 a1] w fun e w' => e = .returned (.bool r) ∧ Drawn0 w w' := by
  have HR0 := Aside0.mk hr0
  have HC0 := Aside0.mk hc0
  clear hr0 hc0
  have H : ((slices_Index_int_int.f k l0 a1).bind fun t105 => (some (decide (t105 ≥ 0)))) = some r := h
  clear h
  replace H := Option.bind_eq_some_iff.mp H
  obtain ⟨t105, A30, H⟩ := H
  replace H : (some (decide (t105 ≥ 0))) = some r := H
  have A3 := Aside0.mk A30
  clear A30
  obtain rfl := Option.some.inj H
  go_enter Try.func79, Try.ntmps79
  go_wp2_with (first | ((with_reducible refine gate_callee (f := 84) rfl ?_); refine goesL_ (some 7) rfl rfl Try.func84 (by kernel_rfl) rfl #[.slice A0 l0.length c0, .int .i64 a1] rfl (by (try simp only [List.map_toArray, List.map_cons, List.map_nil]); first | done | rfl | (simp only [List.length_drop, List.length_take]; rfl)) ?_; (with_reducible refine (slices_Index_int_int.calls k _ _ l0 a1 t105 _ ?side1 ?side2 A3.out).mono ?_); (case side1 => repeat (first | exact HR0.out | (with_reducible refine Kd.C_alloc ?_ _) | (with_reducible refine Kd.C_drewN ?_ _) | (with_reducible refine Kd.C_drew ?_))); (case side2 => exact HC0.out); rintro e w' ⟨rfl, ⟨nd, rfl⟩⟩; refine ⟨_, rfl, ?_⟩))
  go_ret
  exact ⟨by first | rfl | (simp; done) | (simp [*]; done), by repeat (first | exact Drawn0.refl _ | apply Drawn0.step)⟩

/-! ### sched_Waits: function 35 -/
/-- How often a task waited up to a turn, one turn behind the other. -/
def wstep (task : Int) (t : S51) (n : Int) : Int := if t.f0 = task then 0 else if decide (task ∈ t.f1) = true then n + 1 else 0
def waitL (task : Int) : List S51 → Int → List Int
  | [], _ => []
  | t :: ts, n => wstep task t n :: waitL task ts (wstep task t n)
def maxL : List Int → Int → Int
  | [], m => m
  | n :: ns, m => maxL ns (mx m n)
def sched_Waits.f (l0 : List S51) (a1 : Int) : Option Int := some (maxL (waitL a1 l0 0) 0)

theorem wstep_b (task : Int) (t : S51) {n : Int} (h : 0 ≤ n) : 0 ≤ wstep task t n ∧ wstep task t n ≤ n + 1 := by
  unfold wstep
  split
  · omega
  · split <;> omega
theorem waitL_length (task : Int) : ∀ (l : List S51) (n : Int), (waitL task l n).length = l.length
  | [], _ => rfl
  | t :: ts, n => by simp [waitL, waitL_length task ts]

theorem index_eq (x : Int) (l : List Int) (hl : l.length ≤ 9223372036854775807) : ∀ (r i : Nat), i ≤ l.length → l.length - i = r → ∃ k v, slices_Index_int_int.l0 k l x (l.length : Int) (i : Int) = some v ∧ (decide (v ≥ 0) = decide (x ∈ l.drop i))
  | 0, i, hi, hr => by
    obtain rfl : i = l.length := by omega
    exact ⟨1, -1, by simp only [slices_Index_int_int.l0]; rw [if_neg (by omega)], by rw [List.drop_of_length_le (Nat.le_refl _)]; simp⟩
  | r + 1, i, hi, hr => by
    have hlt : i < l.length := by omega
    have hd := drop_cons 0 l i hlt
    by_cases hx : x = l.getD i 0
    · refine ⟨1, (i : Int), ?_, ?_⟩
      · simp only [slices_Index_int_int.l0]
        rw [if_pos (by omega), if_pos (by omega), if_pos (by omega), if_pos (by simpa [rd] using hx)]
      · rw [hd, hx]; simp
    · obtain ⟨k, v, hk, hv⟩ := index_eq x l hl r (i + 1) (by omega) (by omega)
      refine ⟨k + 1, v, ?_, ?_⟩
      · simp only [slices_Index_int_int.l0]
        rw [if_pos (by omega), if_pos (by omega), if_pos (by omega), if_neg (by simpa [rd] using hx), show wrap64 ((i : Int) + 1) = ((i + 1 : Nat) : Int) from by unfold wrap64; omega]
        exact hk
      · rw [hv, hd, decide_eq_decide, List.mem_cons]; exact ⟨.inr, fun h => h.resolve_left hx⟩
theorem contains_eq (x : Int) (l : List Int) (hl : l.length ≤ 9223372036854775807) : ∃ k, slices_Contains_int_int.f k l x = some (decide (x ∈ l)) := by
  obtain ⟨k, v, hk, hv⟩ := index_eq x l hl l.length 0 (by omega) (by omega)
  refine ⟨k, ?_⟩
  unfold slices_Contains_int_int.f slices_Index_int_int.f
  rw [show (0 : Int) = ((0 : Nat) : Int) from rfl, hk]
  simp only [Option.bind_some]
  rw [show decide (v ≥ ((0 : Nat) : Int)) = decide (v ≥ 0) from rfl, hv]; rfl
theorem contains_calls (A0 : Option Addr) (c0 : Nat) (l0 : List Int) (a1 : Int) (w : World) (hr0 : Kd.C (Kd.int .i64) w A0 l0.length l0) (hc0 : l0.length ≤ c0) :
    Calls Try.prog 79 #[.slice A0 l0.length c0, .int .i64 a1] w fun e w' => e = .returned (.bool (decide (a1 ∈ l0))) ∧ Drawn0 w w' := by
  obtain ⟨k, hk⟩ := contains_eq a1 l0 hr0.2.1
  exact slices_Contains_int_int.calls k A0 c0 l0 a1 _ w hr0 hc0 hk

/-- What a round keeps: what lay below n₀, and one block more. -/
def KpB (n₀ g : Nat) (W W' : World) : Prop := Below n₀ W W' ∧ W'.heap[g]? = W.heap[g]?
theorem kpB_t {n₀ g : Nat} {A B C : World} (h : KpB n₀ g A B) (k : KpB n₀ g B C) : KpB n₀ g A C := ⟨h.1.trans k.1, k.2.trans h.2⟩
theorem kpB_b {n₀ g : Nat} {w : World} (hn : n₀ ≤ w.heap.size) (hg : g < w.heap.size) (W : World) (l : Nat) (o o' : Obj) (hl : w.heap.size ≤ l) (h : W.heap[l]? = some o) (h1 : o.isCells = false) (h2 : o.isWalk = false) : KpB n₀ g W (W.putObj l o') :=
  ⟨belowK_b hn W l o o' hl h h1 h2, World.putObj_heap_other (by omega)⟩

theorem kpB_d {n₀ g : Nat} {W W' : World} (hn : n₀ ≤ W.heap.size) (hg : g < W.heap.size) (h : Drawn0 W W') : KpB n₀ g W W' :=
  ⟨⟨h.below.os, h.below.tape, h.below.output, h.below.size, fun i hi => h.below.block i (Nat.lt_of_lt_of_le hi hn)⟩, h.below.block g hg⟩

section
attribute [local go_sem] Oper.semAt_some
set_option maxHeartbeats 4000000 in
set_option maxRecDepth 100000 in
theorem waiting1 (n : Nat) (hn : 3 ≤ n) (l n₀ gl gt : Nat) (A0 : Option Addr) (c0 : Nat) (l0 : List S51) (a1 : Int) (J Jx : List Int → World → Prop) (W : World)
    (hY : ∀ pre x W, J pre W → pre.length < l0.length → YieldAt Fence.wide (n - 1) Try.prog l #[.int .i64 x] W fun e W' =>
      (e = .returned (.bool true) ∧ J (pre ++ [x]) W' ∧ KpB n₀ gt W W') ∨ (e = .returned (.bool false) ∧ Jx (pre ++ [x]) W'))
    (hJ : AbidesFrom W.heap.size J) (w : World) (hw : w.heap.size = n₀) (hr0 : Kd.C k51 w A0 l0.length l0) (hc0 : l0.length ≤ c0) (hB0 : Below n₀ w W) 
    (hgl : W.heap[gl]? = some (.cells #[.slice A0 l0.length c0] 38 (0, 0))) (hgt : W.heap[gt]? = some (.cells #[.int .i64 a1] 3 (0, 0))) (h0 : J [] W) :
    CallsIn Fence.wide n Try.prog 78 #[.func (.yield l) #[] #[], .pointer (some ⟨gl, 0, none⟩), .pointer (some ⟨gt, 0, none⟩)] W fun e W' => (∃ v, e = .returned v) ∧
      ((∃ ys, ys = waitL a1 l0 0 ∧ J ys W') ∨ (∃ pre, True ∧ Jx pre W')) := by
  refine callsIn_of_wp Try.func78 rfl trivial ?_ rfl
  simp only [Try.ntmps78, List.size_toArray, List.length_cons, List.length_nil, Nat.reduceAdd, Nat.reduceSub, Array.replicate_succ, Array.replicate_zero, List.push_toArray, List.append_toArray, List.nil_append, List.cons_append]
  have HR0 := Aside0.mk hr0
  have HC0 := Aside0.mk hc0
  have HB0 := Aside0.mk hB0
  have HW := Aside0.mk hw
  have HGT := Aside0.mk hgt
  have HJ := Aside0.mk hJ
  have HY := Aside0.mk hY
  have hl0 : l0.length ≤ 9223372036854775807 := hr0.2.1
  have h1n : 1 ≤ n := by omega
  have f0 : W.cell? ⟨gl, 0, none⟩ = some (.slice A0 l0.length c0) := (blk_cell hgl 0).trans rfl
  clear hr0 hc0 hB0 hw hgt hgl hJ hY
  gi_wp2
  gi_loopw [4, 9] (fun v4 v9 wr => ∃ (k : Nat) (nn : Int) (pre : List Int), k ≤ l0.length ∧ v9 = .int .i64 k ∧ v4 = .int .i64 nn ∧ 0 ≤ nn ∧ nn ≤ k ∧ Aside0 (pre ++ waitL a1 (l0.drop k) nn = waitL a1 l0 0) ∧ Aside0 (pre.length = k) ∧ J pre wr ∧ Aside0 (KpB n₀ gt W wr)) (fun _ v9 _ => l0.length - (intOf v9).toNat)
  case atStart => exact ⟨0, 0, [], Nat.zero_le _, rfl, rfl, by omega, by omega, ⟨rfl⟩, ⟨rfl⟩, h0, ⟨⟨Below.refl _ _, rfl⟩⟩⟩
  case round =>
    obtain ⟨k, nn, pre, hk, rfl, rfl, hn0, hn1, HE, HL, hJs, HK⟩ := hrel
    clear f0 h0
    by_cases hlt : k < l0.length
    · have hle : n₀ ≤ wr.heap.size := by have h1 := (HB0.out.trans HK.out.1).size; have h2 := HW.out; omega
      have HBW := Aside0.mk (show Below w.heap.size w wr by rw [HW.out]; exact HB0.out.trans HK.out.1)
      have HT := Aside0.mk (HK.out.2.trans HGT.out)
      have he := HE.out
      rw [drop_cons z51 l0 k hlt] at he
      obtain ⟨ad, A1, c1, e0, hx0, hx1, hl1, hi1⟩ := at_T51 HR0.out (k : Int) (by omega) (by omega)
      subst e0
      replace hx0 := (HBW.out.cell (World.block_lt_of_cell? w _ hx0)).trans hx0
      replace hx1 := (HBW.out.cell (World.block_lt_of_cell? w _ hx1)).trans hx1
      simp only [rd_T51, Int.toNat_natCast] at hx0 hx1 hl1 hi1
      generalize l0.getD k z51 = x at hx0 hx1 hl1 hi1 he
      have HR1 := Aside0.mk hi1
      have HC1 := Aside0.mk hl1
      simp only [waitL] at he
      have hwb := wstep_b a1 x hn0
      have ft := cell_alloc HT.out 0 _ rfl
      have hgt := (Array.getElem?_eq_some_iff.1 HT.out).1
      have HKA := Aside0.mk (show KpB n₀ gt wr (wr.alloc (.cells #[.int .i64 x.f0, .slice A1 x.f1.length c1] 51)) from ⟨(Below.refl n₀ wr).alloc hle _, Below.heap_alloc wr _ gt hgt⟩)
      have hJA : J pre (wr.alloc (.cells #[.int .i64 x.f0, .slice A1 x.f1.length c1] 51)) := HJ.out pre wr _ none hJs (World.grownBy_alloc wr _ none) (fun r e => by cases e)
      have hlen : pre.length < l0.length := by rw [HL.out]; exact hlt
      have HHL := Aside0.mk hlen
      clear hi1 hl1 hlen hgt hle hJs
      by_cases hf : x.f0 = a1
      · have hs : wstep a1 x nn = 0 := by unfold wstep; rw [if_pos hf]
        rw [hs] at he
        have HE := Aside0.mk (show pre ++ ([(0 : Int)] ++ waitL a1 (l0.drop (k + 1)) 0) = waitL a1 l0 0 from he)
        obtain ⟨fn, tmps, assign, body, hy, hR⟩ := HY.out pre 0 _ hJA HHL.out
        have hfb : (x.f0 == a1) = true := beq_iff_eq.2 hf
        clear he hs hwb hf hJA
        gi_wp2
        refine ⟨trivial, ?_⟩
        gi_wp2
        refine hR.mono ?_
        rintro e W3 (⟨rfl, hJ3, hk3⟩ | ⟨rfl, hJx3⟩)
        · have HK3 := Aside0.mk hk3
          clear hk3 hy hR
          gi_wp2
          go_roundw
          case rel => exact ⟨k + 1, _, _, by omega, by go_num, rfl, by omega, by omega, ⟨by rw [List.append_assoc]; exact HE.out⟩, ⟨by rw [List.length_append, HL.out]; rfl⟩, hJ3, ⟨kpB_t HK.out (kpB_t HKA.out HK3.out)⟩⟩
          case measure => simp [intOf]; omega
        · gi_wp2
          refine bodyPost_ret (results_none rfl _ _ _) rfl ?_
          exact ⟨⟨_, rfl⟩, .inr ⟨_, trivial, hJx3⟩⟩
      · have hfb : (x.f0 == a1) = false := beq_eq_false_iff_ne.2 hf
        have hle2 := Aside0.mk (show n₀ ≤ (wr.alloc (.cells #[.int .i64 x.f0, .slice A1 x.f1.length c1] 51)).heap.size by rw [World.size_alloc]; have h1 := (HB0.out.trans HK.out.1).size; have h2 := HW.out; omega)
        have hgt2 := Aside0.mk (show gt < (wr.alloc (.cells #[.int .i64 x.f0, .slice A1 x.f1.length c1] 51)).heap.size by rw [World.size_alloc]; have h1 := (Array.getElem?_eq_some_iff.1 HT.out).1; omega)
        by_cases hm : a1 ∈ x.f1
        · have hmb : decide (a1 ∈ x.f1) = true := decide_eq_true hm
          have hs : wstep a1 x nn = nn + 1 := by unfold wstep; rw [if_neg hf, if_pos hmb]
          rw [hs] at he
          have HE := Aside0.mk (show pre ++ ([nn + 1] ++ waitL a1 (l0.drop (k + 1)) (nn + 1)) = waitL a1 l0 0 from he)
          clear he hs hwb hf hm
          gi_wp2
          refine ⟨trivial, ?_⟩
          refine (callsIn_wide.2 (contains_calls _ _ x.f1 a1 _ (Kd.C_alloc (Kd.C_below HR1.out HBW.out) _) HC1.out)).mono ?_
          rintro e w5 ⟨rfl, hd⟩
          have HD := Aside0.mk hd
          clear hd
          obtain ⟨fn, tmps, assign, body, hy, hR⟩ := HY.out pre (nn + 1) w5 (HJ.out pre _ w5 none hJA (grown_of_below HD.out.below none) (fun r e => by cases e)) HHL.out
          have n_HKA := Aside0.mk (kpB_t HKA.out (kpB_d hle2.out hgt2.out HD.out))
          clear HKA
          have HKA := n_HKA
          clear n_HKA hJA
          gi_wp2
          refine hR.mono ?_
          rintro e W3 (⟨rfl, hJ3, hk3⟩ | ⟨rfl, hJx3⟩)
          · have HK3 := Aside0.mk hk3
            clear hk3 hy hR
            gi_wp2
            go_roundw
            case rel => exact ⟨k + 1, _, _, by omega, by go_num, rfl, by omega, by omega, ⟨by rw [List.append_assoc]; exact HE.out⟩, ⟨by rw [List.length_append, HL.out]; rfl⟩, hJ3, ⟨kpB_t HK.out (kpB_t HKA.out HK3.out)⟩⟩
            case measure => simp [intOf]; omega
          · gi_wp2
            refine bodyPost_ret (results_none rfl _ _ _) rfl ?_
            exact ⟨⟨_, rfl⟩, .inr ⟨_, trivial, hJx3⟩⟩
        · have hmb : decide (a1 ∈ x.f1) = false := decide_eq_false hm
          have hs : wstep a1 x nn = 0 := by unfold wstep; rw [if_neg hf, if_neg (by rw [hmb]; simp)]
          rw [hs] at he
          have HE := Aside0.mk (show pre ++ ([(0 : Int)] ++ waitL a1 (l0.drop (k + 1)) 0) = waitL a1 l0 0 from he)
          clear he hs hwb hf hm
          gi_wp2
          refine ⟨trivial, ?_⟩
          refine (callsIn_wide.2 (contains_calls _ _ x.f1 a1 _ (Kd.C_alloc (Kd.C_below HR1.out HBW.out) _) HC1.out)).mono ?_
          rintro e w5 ⟨rfl, hd⟩
          have HD := Aside0.mk hd
          clear hd
          obtain ⟨fn, tmps, assign, body, hy, hR⟩ := HY.out pre 0 w5 (HJ.out pre _ w5 none hJA (grown_of_below HD.out.below none) (fun r e => by cases e)) HHL.out
          have n_HKA := Aside0.mk (kpB_t HKA.out (kpB_d hle2.out hgt2.out HD.out))
          clear HKA
          have HKA := n_HKA
          clear n_HKA hJA
          gi_wp2
          refine hR.mono ?_
          rintro e W3 (⟨rfl, hJ3, hk3⟩ | ⟨rfl, hJx3⟩)
          · have HK3 := Aside0.mk hk3
            clear hk3 hy hR
            gi_wp2
            go_roundw
            case rel => exact ⟨k + 1, _, _, by omega, by go_num, rfl, by omega, by omega, ⟨by rw [List.append_assoc]; exact HE.out⟩, ⟨by rw [List.length_append, HL.out]; rfl⟩, hJ3, ⟨kpB_t HK.out (kpB_t HKA.out HK3.out)⟩⟩
            case measure => simp [intOf]; omega
          · gi_wp2
            refine bodyPost_ret (results_none rfl _ _ _) rfl ?_
            exact ⟨⟨_, rfl⟩, .inr ⟨_, trivial, hJx3⟩⟩
    · obtain rfl : k = l0.length := by omega
      have he := HE.out
      rw [List.drop_of_length_le (Nat.le_refl _)] at he
      simp only [waitL, List.append_nil] at he
      subst he
      gi_wp2
      go_end0
      exact ⟨⟨_, rfl⟩, .inl ⟨_, rfl, hJs⟩⟩

theorem waiting2 (A0 : Option Addr) (n0 c0 : Nat) (a1 : Int) (w : World) :
    Calls Try.prog 68 #[.slice A0 n0 c0, .int .i64 a1] w fun e w' => e = .returned (.func (.func 78) #[] #[.pointer (some ⟨w.heap.size, 0, none⟩), .pointer (some ⟨w.heap.size + 1, 0, none⟩)]) ∧ (w.alloc (.cells #[.slice A0 n0 c0] 38)).alloc (.cells #[.int .i64 a1] 3) = w' := by
  go_enter Try.func68, Try.ntmps68
  go_wp2
  go_ret
  exact ⟨rfl, rfl⟩

theorem waiting_stops (n : Nat) (hn : 3 ≤ n) (gl gt : Nat) (A0 : Option Addr) (c0 : Nat) (l0 : List S51) (a1 : Int) (w W0 : World) (hr0 : Kd.C k51 w A0 l0.length l0) (hc0 : l0.length ≤ c0) (hB0 : Below w.heap.size w W0)
    (hgl : W0.heap[gl]? = some (.cells #[.slice A0 l0.length c0] 38 (0, 0))) (hgt : W0.heap[gt]? = some (.cells #[.int .i64 a1] 3 (0, 0))) :
    SeqStopsK Fence.wide n Try.prog 78 #[.pointer (some ⟨gl, 0, none⟩), .pointer (some ⟨gt, 0, none⟩)] (fun x : Int => #[Value.int .i64 x]) (KpB w.heap.size gt) (fun ys => ys = waitL a1 l0 0) (fun _ => True) l0.length W0 := fun l J Jx W hW hJ _ hY h0 =>
  waiting1 n hn l w.heap.size gl gt A0 c0 l0 a1 J Jx W hY hJ w rfl hr0 hc0 (below_step hB0 hW) (blk_below hgl hW) (blk_below hgt hW) h0

theorem maxL_snoc (x : Int) : ∀ (pre : List Int) (m : Int), maxL (pre ++ [x]) m = mx (maxL pre m) x
  | [], m => rfl
  | y :: pre, m => maxL_snoc x pre (mx m y)

set_option maxHeartbeats 4000000 in
set_option maxRecDepth 100000 in
theorem sched_Waits.calls (A0 : Option Addr) (c0 : Nat) (l0 : List S51) (a1 : Int) (r : Int) (w : World) (hr0 : Kd.C k51 w A0 l0.length l0) (hc0 : l0.length ≤ c0) (h : sched_Waits.f l0 a1 = some r) :
    Calls Try.prog 35 #[.slice A0 l0.length c0, .int .i64 a1] w fun e w' => e = .returned (.int .i64 r) ∧ Below w.heap.size w w' := by
  obtain rfl := Option.some.inj h
  clear h
  refine (callsIn_wide (n := 6)).1 ?_
  refine callsIn_of_wp_marks Try.func35 rfl trivial ?_ rfl
  simp only [Try.ntmps35, List.size_toArray, List.length_cons, List.length_nil, Nat.reduceAdd, Nat.reduceSub, Array.replicate_succ, Array.replicate_zero, List.push_toArray, List.append_toArray, List.nil_append, List.cons_append]
  have HR0 := Aside0.mk hr0
  have HC0 := Aside0.mk hc0
  clear hr0 hc0
  gi_wp2
  refine ⟨trivial, ?_⟩
  refine (callsIn_wide.2 (waiting2 _ _ _ _ _)).mono ?_
  rintro e w5 ⟨rfl, rfl⟩
  have bM := Boxed.new w 3 (.int .i64 0)
  have hB0 : Below w.heap.size w (((w.alloc (.cells #[.int .i64 0] 3)).alloc (.cells #[.slice A0 l0.length c0] 38)).alloc (.cells #[.int .i64 a1] 3)) := below_alloc (below_alloc (below_alloc (Below.refl _ _) _) _) _
  have g1 : (((w.alloc (.cells #[.int .i64 0] 3)).alloc (.cells #[.slice A0 l0.length c0] 38)).alloc (.cells #[.int .i64 a1] 3)).heap[w.heap.size + 1]? = some (.cells #[.slice A0 l0.length c0] 38 (0, 0)) := blk_alloc (by have h := blk_new (w.alloc (.cells #[.int .i64 0] 3)) (.cells #[.slice A0 l0.length c0] 38); rwa [World.size_alloc] at h) _
  have g2 : (((w.alloc (.cells #[.int .i64 0] 3)).alloc (.cells #[.slice A0 l0.length c0] 38)).alloc (.cells #[.int .i64 a1] 3)).heap[w.heap.size + 1 + 1]? = some (.cells #[.int .i64 a1] 3 (0, 0)) := by have h := blk_new ((w.alloc (.cells #[.int .i64 0] 3)).alloc (.cells #[.slice A0 l0.length c0] 38)) (.cells #[.int .i64 a1] 3); rwa [World.size_alloc, World.size_alloc] at h
  simp only [World.size_alloc]
  gi_wp2
  refine wpIn_rangeFunc_ownG rfl (by omega) (gf := 78) (lb := #[.pointer (some ⟨w.heap.size + 1, 0, none⟩), .pointer (some ⟨w.heap.size + 1 + 1, 0, none⟩)]) rfl trivial (enters_of Try.func78 (by kernel_rfl) rfl)
    (waiting_stops 5 (by omega) (w.heap.size + 1) (w.heap.size + 1 + 1) A0 c0 l0 a1 w _ HR0.out HC0.out hB0 g1 g2) kpB_t (kpB_b (by simp only [World.size_alloc]; omega) (by simp only [World.size_alloc]; omega)) (Below.refl _ _) (fun _ => rfl)
    (fun pre W => (W.cell? ⟨w.heap.size, 0, none⟩ = some (.int .i64 (maxL pre 0)) ∧ W.frozen? ⟨w.heap.size, 0, none⟩ = false) ∧ Below w.heap.size w W)
    (fun _ _ _ => False)
    (OwnFrom.and (Own.from (fun s A B row hs hg hr => ⟨cell_kept hs.1 hg hr, (frozen_kept hs.1 hg hr).trans hs.2⟩) _) (ownFrom_below (Nat.le_refl _) (by simp only [World.size_alloc]; omega)))
    (fun _ _ _ _ _ hs _ _ => hs)
    ⟨⟨((bM.alloc _).alloc _).cell, ((bM.alloc _).alloc _).frozen⟩, hB0⟩
    (fun x => { tmps := #[.slice A0 l0.length c0, .int .i64 a1, undef, undef, .int .i64 0, .pointer (some ⟨w.heap.size, 0, none⟩), .int .i64 x, .slice A0 l0.length c0, .int .i64 a1, .func (.func 78) #[] #[.pointer (some ⟨w.heap.size + 1, 0, none⟩), .pointer (some ⟨w.heap.size + 1 + 1, 0, none⟩)], .int .i64 x, undef, undef, undef, undef], defers := [] }) ?assign ?body ?done ?stop
  case assign =>
    intro l x W K hK
    gi_wp2
    exact hK
  case body =>
    rintro l pre x W ⟨⟨hc, hf⟩, hB⟩ _
    have e1 : ∀ v : Int, mx (maxL pre 0) x = v → Aside0 (maxL (pre ++ [x]) 0 = v) := fun v hv => ⟨(maxL_snoc x pre 0).trans hv⟩
    have hlt : w.heap.size + 1 + 1 ≠ w.heap.size := by omega
    have fin : ∀ v : Int, mx (maxL pre 0) x = v → (KeepsFrom (((w.alloc (.cells #[.int .i64 0] 3)).alloc (.cells #[.slice A0 l0.length c0] 38)).alloc (.cells #[.int .i64 a1] 3)).heap.size W (W.setCell ⟨w.heap.size, 0, none⟩ (.int .i64 v))) ∧ KpB w.heap.size (w.heap.size + 1 + 1) W (W.setCell ⟨w.heap.size, 0, none⟩ (.int .i64 v)) ∧ ((W.setCell ⟨w.heap.size, 0, none⟩ (.int .i64 v)).cell? ⟨w.heap.size, 0, none⟩ = some (.int .i64 (maxL (pre ++ [x]) 0)) ∧ (W.setCell ⟨w.heap.size, 0, none⟩ (.int .i64 v)).frozen? ⟨w.heap.size, 0, none⟩ = false) ∧ Below w.heap.size w (W.setCell ⟨w.heap.size, 0, none⟩ (.int .i64 v)) := fun v hv =>
      ⟨(KeepsOthers.setCell _ _ _).from _, ⟨(Below.refl w.heap.size W).setCell (p := ⟨w.heap.size, 0, none⟩) (Nat.le_refl _) _, Below.heap_setCell W _ _ _ hlt⟩, ⟨by rw [(e1 v hv).out]; exact World.cell?_setCell_same' _ _ _ (by rw [hc]; rfl), by rw [World.frozen?_setCell]; exact hf⟩, hB.setCell (p := ⟨w.heap.size, 0, none⟩) (Nat.le_refl _) _⟩
    have FIN := Aside0.mk fin
    clear fin e1 hlt
    by_cases hm : maxL pre 0 < x
    · have hv : mx (maxL pre 0) x = x := by unfold mx; rw [if_pos hm]
      have HV := Aside0.mk hv
      clear hv
      gi_wp2
      exact FIN.out _ HV.out
    · have hv : mx (maxL pre 0) x = maxL pre 0 := by unfold mx; rw [if_neg hm]
      have HV := Aside0.mk hv
      clear hv
      gi_wp2
      have h := FIN.out _ HV.out
      refine ⟨?_, ?_, ⟨?_, ?_⟩, ?_⟩
      · have h1 := h.1; simp only [World.size_alloc] at h1; exact h1
      · exact h.2.1
      · exact h.2.2.1.1
      · exact h.2.2.1.2
      · exact h.2.2.2
  case done =>
    rintro D ys W hD rfl ⟨⟨hc, _⟩, hB⟩ hK
    gi_wp2
    refine ⟨by simp, .inl ⟨_, _, rfl, run_takeDeferred hK, ?_⟩⟩
    exact ⟨_, results_tmp rfl _ _ _, rfl, hB.trans (belowK_b (w := w) (Nat.le_refl _) W D _ _ (by simp at hD; omega) hK rfl rfl)⟩
  case stop =>
    rintro D c pre W _ _ h _
    exact h.elim
end

end Go.Proofs.Ythlahhkjoocigaa.XSched
