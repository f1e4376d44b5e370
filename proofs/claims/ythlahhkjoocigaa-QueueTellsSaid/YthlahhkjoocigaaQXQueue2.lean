-- Written by a program of this session (wip/xprint.py): functions of the given Go program as plain Lean functions, and that the machine's calls come to them.
import Derived.Test.YthlahhkjoocigaaQXQueue0
namespace Go.Proofs.Ythlahhkjoocigaa.XQueue
open Go.RowKit Go.Proofs.YthlahhkjoocigaaW.PrintWords Go.Proofs.YthlahhkjoocigaaW.PrintLast Go.Proofs.YthlahhkjoocigaaW.PrintMore
attribute [local go_sem] max2_int min2_int max_two min_two max_three min_three max_four min_four   -- for this text's walks alone
set_option linter.unusedVariables false
set_option linter.unusedSimpArgs false

/-! ### queue_Group: function 43 -/
def queue_Group.l0 : Nat → Int → Int → Int → Int → List (S65) → Int → Int → List (S65) → List (S65) → Int → Option (Int)
  | 0, _, _, _, _, _, _, _, _, _, _ => none
  | k + 1, x1, x2, x7, x8, x15, x16, x17, x102000, x102001, x102002 => if x17 < x16 then (if 0 ≤ x17 then (if x17 < (x15.length : Int) then (if (wrap64 (x7 + ((rd_T65 x15 x17).f1))) > x1 then (some x17) else (if (IntKind.u64.wrap (x8 + ((rd_T65 x15 x17).f2))) > x2 then (some x17) else (queue_Group.l0 k x1 x2 (wrap64 (x7 + ((rd_T65 x15 x17).f1))) (IntKind.u64.wrap (x8 + ((rd_T65 x15 x17).f2))) x15 x16 (wrap64 (x17 + 1)) x102000 x102001 x102002))) else (none)) else (none)) else (some (x102000.length : Int))
def queue_Group.f (k : Nat) (l0_0 : List (S65)) (l0_1 : List (S65)) (a0_2 : Int) (a1 : Int) (a2 : Int) : Option (Int) := if a0_2 > 0 then (some 0) else (queue_Group.l0 k a1 a2 0 0 l0_0 (l0_0.length : Int) 0 l0_0 l0_1 a0_2)
theorem queue_Group.mono_l : ∀ k, (∀ y0 y1 y2 y3 y4 y5 y6 y7 y8 y9, LeO (queue_Group.l0 k y0 y1 y2 y3 y4 y5 y6 y7 y8 y9) (queue_Group.l0 (k + 1) y0 y1 y2 y3 y4 y5 y6 y7 y8 y9))
  | 0 => fun _ _ _ _ _ _ _ _ _ _ r h => by simp [queue_Group.l0] at h
  | k + 1 => by
    have ih0 := queue_Group.mono_l k
    · intro y0 y1 y2 y3 y4 y5 y6 y7 y8 y9
      unfold queue_Group.l0
      repeat' first
      | (with_reducible exact ih0 _ _ _ _ _ _ _ _ _ _)
      | (with_reducible exact LeO.refl _)
      | (with_reducible exact LeO.none _)
      | (with_reducible refine LeO.ite ?_ ?_)
      | (with_reducible refine LeO.bind ?_ (fun _ => ?_))
      | exact ih0 _ _ _ _ _ _ _ _ _ _
      | exact LeO.none _
      | refine LeO.ite ?_ ?_
      | refine LeO.bind ?_ (fun _ => ?_)
theorem queue_Group.mono : ∀ a0 a1 a2 a3 a4 k, LeO (queue_Group.f k a0 a1 a2 a3 a4) (queue_Group.f (k + 1) a0 a1 a2 a3 a4) := by
  intro a0 a1 a2 a3 a4 k
  have ih0 := queue_Group.mono_l k
  unfold queue_Group.f
  repeat' first
      | (with_reducible exact ih0 _ _ _ _ _ _ _ _ _ _)
      | (with_reducible exact LeO.refl _)
      | (with_reducible exact LeO.none _)
      | (with_reducible refine LeO.ite ?_ ?_)
      | (with_reducible refine LeO.bind ?_ (fun _ => ?_))
      | exact ih0 _ _ _ _ _ _ _ _ _ _
      | exact LeO.none _
      | refine LeO.ite ?_ ?_
      | refine LeO.bind ?_ (fun _ => ?_)
set_option maxHeartbeats 8000000 in
set_option maxRecDepth 100000 in
theorem queue_Group.calls (k : Nat) (A0_0 : Option Addr) (c0_0 : Nat) (l0_0 : List (S65)) (A0_1 : Option Addr) (c0_1 : Nat) (l0_1 : List (S65)) (a0_2 : Int) (a1 : Int) (a2 : Int) (r : Int) (w : World) (hr0_0 : Kd.C k65 w A0_0 l0_0.length l0_0) (hc0_0 : l0_0.length ≤ c0_0) (hr0_1 : Kd.C k65 w A0_1 l0_1.length l0_1) (hc0_1 : l0_1.length ≤ c0_1) (h : queue_Group.f k l0_0 l0_1 a0_2 a1 a2 = some r) :
    Calls Try.prog 43 #[.agg #[.slice A0_0 l0_0.length c0_0, .slice A0_1 l0_1.length c0_1, .int .i64 a0_2], .int .i64 a1, .int .u64 a2] w fun e w' => e = .returned (.int .i64 r) ∧ Below w.heap.size w w' := by
  have hu58 := Try.underlying58
  have hu65 := Try.underlying65
  have HR0_0 := Aside0.mk hr0_0
  have HC0_0 := Aside0.mk hc0_0
  clear hr0_0 hc0_0
  have HR0_1 := Aside0.mk hr0_1
  have HC0_1 := Aside0.mk hc0_1
  clear hr0_1 hc0_1
  have HB := Aside0.mk (Below.refl w.heap.size w)
  have H : (if a0_2 > 0 then (some 0) else (queue_Group.l0 k a1 a2 0 0 l0_0 (l0_0.length : Int) 0 l0_0 l0_1 a0_2)) = some r := h
  clear h
  by_cases c4 : a0_2 > 0
  · rw [if_pos c4] at H
    have c4b0 : decide (0 < a0_2) = true := decide_eq_true c4
    clear c4
    obtain rfl := Option.some.inj H
    go_enter Try.func43, Try.ntmps43
    go_wp2_with (first | ((with_reducible refine gate_dst (N := 3) rfl ?_); refine box_event ?hg (N := 3) ?hd (cs := #[.slice A0_0 l0_0.length c0_0, .slice A0_1 l0_1.length c0_1, .int .i64 a0_2]) (t := 58) ?hr ?_; (case hd => rfl); (case hg => rfl); (case hr => first | (go_simp; done) | (go_simp; rfl)); intro gb101 hg w5 hbox hb; have n0_ := Aside0.mk (below_step (by repeat (first | (with_reducible first | exact HB.out | apply below_alloc | apply pw_below_drewN | apply below_drew1) | exact HB.out)) hb); have n1_ := Aside0.mk (hbox); have n2_ := Aside0.mk ((by rw [hg]; exact (below_size (by repeat (first | (with_reducible first | exact HB.out | apply below_alloc | apply pw_below_drewN | apply below_drew1) | exact HB.out))) : w.heap.size ≤ gb101)); have n3_ := Aside0.mk ((by rw [hg]; exact (below_size (by repeat (first | (with_reducible first | exact HB.out | apply below_alloc | apply pw_below_drewN | apply below_drew1) | exact HB.out))) : w.heap.size ≤ gb101)); clear HB; have HB := n0_; have BK101 := n1_; have GW101 := n2_; have GE101 := n3_; clear n0_ n1_ n2_ n3_; clear hb hbox hg; have hcz6_0 : w5.cell? ⟨gb101, 0, none⟩ = some (.slice A0_0 l0_0.length c0_0) := (blk_cell BK101.out 0).trans rfl; have hcz6_1 : w5.cell? ⟨gb101, 1, none⟩ = some (.slice A0_1 l0_1.length c0_1) := (blk_cell BK101.out 1).trans rfl; have hcz6_2 : w5.cell? ⟨gb101, 2, none⟩ = some (.int .i64 a0_2) := (blk_cell BK101.out 2).trans rfl; have hfz6_0 := blk_frozen BK101.out 0; have hfz6_1 := blk_frozen BK101.out 1; have hfz6_2 := blk_frozen BK101.out 2))
    repeat (go_quiet (first | ((with_reducible refine gate_dst (N := 3) rfl ?_); refine box_event ?hg (N := 3) ?hd (cs := #[.slice A0_0 l0_0.length c0_0, .slice A0_1 l0_1.length c0_1, .int .i64 a0_2]) (t := 58) ?hr ?_; (case hd => rfl); (case hg => rfl); (case hr => first | (go_simp; done) | (go_simp; rfl)); intro gb101 hg w5 hbox hb; have n0_ := Aside0.mk (below_step (by repeat (first | (with_reducible first | exact HB.out | apply below_alloc | apply pw_below_drewN | apply below_drew1) | exact HB.out)) hb); have n1_ := Aside0.mk (hbox); have n2_ := Aside0.mk ((by rw [hg]; exact (below_size (by repeat (first | (with_reducible first | exact HB.out | apply below_alloc | apply pw_below_drewN | apply below_drew1) | exact HB.out))) : w.heap.size ≤ gb101)); have n3_ := Aside0.mk ((by rw [hg]; exact (below_size (by repeat (first | (with_reducible first | exact HB.out | apply below_alloc | apply pw_below_drewN | apply below_drew1) | exact HB.out))) : w.heap.size ≤ gb101)); clear HB; have HB := n0_; have BK101 := n1_; have GW101 := n2_; have GE101 := n3_; clear n0_ n1_ n2_ n3_; clear hb hbox hg; have hcz6_0 : w5.cell? ⟨gb101, 0, none⟩ = some (.slice A0_0 l0_0.length c0_0) := (blk_cell BK101.out 0).trans rfl; have hcz6_1 : w5.cell? ⟨gb101, 1, none⟩ = some (.slice A0_1 l0_1.length c0_1) := (blk_cell BK101.out 1).trans rfl; have hcz6_2 : w5.cell? ⟨gb101, 2, none⟩ = some (.int .i64 a0_2) := (blk_cell BK101.out 2).trans rfl; have hfz6_0 := blk_frozen BK101.out 0; have hfz6_1 := blk_frozen BK101.out 1; have hfz6_2 := blk_frozen BK101.out 2)); try go_wp2_with (first | ((with_reducible refine gate_dst (N := 3) rfl ?_); refine box_event ?hg (N := 3) ?hd (cs := #[.slice A0_0 l0_0.length c0_0, .slice A0_1 l0_1.length c0_1, .int .i64 a0_2]) (t := 58) ?hr ?_; (case hd => rfl); (case hg => rfl); (case hr => first | (go_simp; done) | (go_simp; rfl)); intro gb101 hg w5 hbox hb; have n0_ := Aside0.mk (below_step (by repeat (first | (with_reducible first | exact HB.out | apply below_alloc | apply pw_below_drewN | apply below_drew1) | exact HB.out)) hb); have n1_ := Aside0.mk (hbox); have n2_ := Aside0.mk ((by rw [hg]; exact (below_size (by repeat (first | (with_reducible first | exact HB.out | apply below_alloc | apply pw_below_drewN | apply below_drew1) | exact HB.out))) : w.heap.size ≤ gb101)); have n3_ := Aside0.mk ((by rw [hg]; exact (below_size (by repeat (first | (with_reducible first | exact HB.out | apply below_alloc | apply pw_below_drewN | apply below_drew1) | exact HB.out))) : w.heap.size ≤ gb101)); clear HB; have HB := n0_; have BK101 := n1_; have GW101 := n2_; have GE101 := n3_; clear n0_ n1_ n2_ n3_; clear hb hbox hg; have hcz6_0 : w5.cell? ⟨gb101, 0, none⟩ = some (.slice A0_0 l0_0.length c0_0) := (blk_cell BK101.out 0).trans rfl; have hcz6_1 : w5.cell? ⟨gb101, 1, none⟩ = some (.slice A0_1 l0_1.length c0_1) := (blk_cell BK101.out 1).trans rfl; have hcz6_2 : w5.cell? ⟨gb101, 2, none⟩ = some (.int .i64 a0_2) := (blk_cell BK101.out 2).trans rfl; have hfz6_0 := blk_frozen BK101.out 0; have hfz6_1 := blk_frozen BK101.out 1; have hfz6_2 := blk_frozen BK101.out 2)))
    go_ret
    exact ⟨by first | rfl | (simp [errW_none, errW_some] <;> rfl) | (simp [*, errW_none, errW_some] <;> rfl), by repeat (first | (with_reducible first | exact HB.out | apply below_alloc | apply pw_below_drewN | apply below_drew1 | refine below_set ?_ GE101.out) | exact HB.out)⟩
  · rw [if_neg c4] at H
    have c4b0 : decide (0 < a0_2) = false := decide_eq_false c4
    clear c4
    have H' := Aside0.mk H
    clear H
    go_enter Try.func43, Try.ntmps43
    go_wp2_with (first | ((with_reducible refine gate_dst (N := 3) rfl ?_); refine box_event ?hg (N := 3) ?hd (cs := #[.slice A0_0 l0_0.length c0_0, .slice A0_1 l0_1.length c0_1, .int .i64 a0_2]) (t := 58) ?hr ?_; (case hd => rfl); (case hg => rfl); (case hr => first | (go_simp; done) | (go_simp; rfl)); intro gb101 hg w7 hbox hb; have n0_ := Aside0.mk (below_step (by repeat (first | (with_reducible first | exact HB.out | apply below_alloc | apply pw_below_drewN | apply below_drew1) | exact HB.out)) hb); have n1_ := Aside0.mk (hbox); have n2_ := Aside0.mk ((by rw [hg]; exact (below_size (by repeat (first | (with_reducible first | exact HB.out | apply below_alloc | apply pw_below_drewN | apply below_drew1) | exact HB.out))) : w.heap.size ≤ gb101)); have n3_ := Aside0.mk ((by rw [hg]; exact (below_size (by repeat (first | (with_reducible first | exact HB.out | apply below_alloc | apply pw_below_drewN | apply below_drew1) | exact HB.out))) : w.heap.size ≤ gb101)); clear HB; have HB := n0_; have BK101 := n1_; have GW101 := n2_; have GE101 := n3_; clear n0_ n1_ n2_ n3_; clear hb hbox hg; have hcz8_0 : w7.cell? ⟨gb101, 0, none⟩ = some (.slice A0_0 l0_0.length c0_0) := (blk_cell BK101.out 0).trans rfl; have hcz8_1 : w7.cell? ⟨gb101, 1, none⟩ = some (.slice A0_1 l0_1.length c0_1) := (blk_cell BK101.out 1).trans rfl; have hcz8_2 : w7.cell? ⟨gb101, 2, none⟩ = some (.int .i64 a0_2) := (blk_cell BK101.out 2).trans rfl; have hfz8_0 := blk_frozen BK101.out 0; have hfz8_1 := blk_frozen BK101.out 1; have hfz8_2 := blk_frozen BK101.out 2))
    repeat (go_quiet (first | ((with_reducible refine gate_dst (N := 3) rfl ?_); refine box_event ?hg (N := 3) ?hd (cs := #[.slice A0_0 l0_0.length c0_0, .slice A0_1 l0_1.length c0_1, .int .i64 a0_2]) (t := 58) ?hr ?_; (case hd => rfl); (case hg => rfl); (case hr => first | (go_simp; done) | (go_simp; rfl)); intro gb101 hg w7 hbox hb; have n0_ := Aside0.mk (below_step (by repeat (first | (with_reducible first | exact HB.out | apply below_alloc | apply pw_below_drewN | apply below_drew1) | exact HB.out)) hb); have n1_ := Aside0.mk (hbox); have n2_ := Aside0.mk ((by rw [hg]; exact (below_size (by repeat (first | (with_reducible first | exact HB.out | apply below_alloc | apply pw_below_drewN | apply below_drew1) | exact HB.out))) : w.heap.size ≤ gb101)); have n3_ := Aside0.mk ((by rw [hg]; exact (below_size (by repeat (first | (with_reducible first | exact HB.out | apply below_alloc | apply pw_below_drewN | apply below_drew1) | exact HB.out))) : w.heap.size ≤ gb101)); clear HB; have HB := n0_; have BK101 := n1_; have GW101 := n2_; have GE101 := n3_; clear n0_ n1_ n2_ n3_; clear hb hbox hg; have hcz8_0 : w7.cell? ⟨gb101, 0, none⟩ = some (.slice A0_0 l0_0.length c0_0) := (blk_cell BK101.out 0).trans rfl; have hcz8_1 : w7.cell? ⟨gb101, 1, none⟩ = some (.slice A0_1 l0_1.length c0_1) := (blk_cell BK101.out 1).trans rfl; have hcz8_2 : w7.cell? ⟨gb101, 2, none⟩ = some (.int .i64 a0_2) := (blk_cell BK101.out 2).trans rfl; have hfz8_0 := blk_frozen BK101.out 0; have hfz8_1 := blk_frozen BK101.out 1; have hfz8_2 := blk_frozen BK101.out 2)); try go_wp2_with (first | ((with_reducible refine gate_dst (N := 3) rfl ?_); refine box_event ?hg (N := 3) ?hd (cs := #[.slice A0_0 l0_0.length c0_0, .slice A0_1 l0_1.length c0_1, .int .i64 a0_2]) (t := 58) ?hr ?_; (case hd => rfl); (case hg => rfl); (case hr => first | (go_simp; done) | (go_simp; rfl)); intro gb101 hg w7 hbox hb; have n0_ := Aside0.mk (below_step (by repeat (first | (with_reducible first | exact HB.out | apply below_alloc | apply pw_below_drewN | apply below_drew1) | exact HB.out)) hb); have n1_ := Aside0.mk (hbox); have n2_ := Aside0.mk ((by rw [hg]; exact (below_size (by repeat (first | (with_reducible first | exact HB.out | apply below_alloc | apply pw_below_drewN | apply below_drew1) | exact HB.out))) : w.heap.size ≤ gb101)); have n3_ := Aside0.mk ((by rw [hg]; exact (below_size (by repeat (first | (with_reducible first | exact HB.out | apply below_alloc | apply pw_below_drewN | apply below_drew1) | exact HB.out))) : w.heap.size ≤ gb101)); clear HB; have HB := n0_; have BK101 := n1_; have GW101 := n2_; have GE101 := n3_; clear n0_ n1_ n2_ n3_; clear hb hbox hg; have hcz8_0 : w7.cell? ⟨gb101, 0, none⟩ = some (.slice A0_0 l0_0.length c0_0) := (blk_cell BK101.out 0).trans rfl; have hcz8_1 : w7.cell? ⟨gb101, 1, none⟩ = some (.slice A0_1 l0_1.length c0_1) := (blk_cell BK101.out 1).trans rfl; have hcz8_2 : w7.cell? ⟨gb101, 2, none⟩ = some (.int .i64 a0_2) := (blk_cell BK101.out 2).trans rfl; have hfz8_0 := blk_frozen BK101.out 0; have hfz8_1 := blk_frozen BK101.out 1; have hfz8_2 := blk_frozen BK101.out 2)))
    go_loopg [7, 8, 17] k (fun kq v7 v8 v17 w' => ∃ (x7_1 : Int) (x8_1 : Int) (x17_1 : Int), v7 = .int .i64 x7_1 ∧ v8 = .int .u64 x8_1 ∧ v17 = .int .i64 x17_1 ∧ Aside0 (queue_Group.l0 kq a1 a2 x7_1 x8_1 l0_0 (l0_0.length : Int) x17_1 l0_0 l0_1 a0_2 = some r) ∧ Aside0 (kq ≤ k) ∧ Aside0 (w'.heap[gb101]? = some (.cells #[(.slice A0_0 l0_0.length c0_0), (.slice A0_1 l0_1.length c0_1), .int .i64 a0_2] 58 (0, 0))) ∧ Aside0 (Below w.heap.size w w'))
    case atStart => exact ⟨(0), (0), (0), (by first | rfl | (simp; done) | (simp [*]; done)), (by first | rfl | (simp; done) | (simp [*]; done)), (by first | rfl | (simp; done) | (simp [*]; done)), H', ⟨Nat.le_refl _⟩, ⟨by (with_reducible repeat (first | refine blk_drewN ?_ _ | refine blk_drew ?_ | refine blk_alloc ?_ _)); exact BK101.out⟩, ⟨by repeat (first | (with_reducible first | exact HB.out | apply below_alloc | apply pw_below_drewN | apply below_drew1 | refine below_set ?_ GE101.out) | exact HB.out)⟩⟩
    case round =>
      clear H'
      try clear p2
      try clear c4
      try clear c4b0
      try clear hcz6_0
      try clear hcz6_1
      try clear hcz6_2
      try clear hcz8_0
      try clear hcz8_1
      try clear hcz8_2
      try clear hfz6_0
      try clear hfz6_1
      try clear hfz6_2
      try clear hfz8_0
      try clear hfz8_1
      try clear hfz8_2
      obtain ⟨x7_1, x8_1, x17_1, rfl, rfl, rfl, HA, HK1, BK101, HB⟩ := hrel
      cases gk with
      | zero => exact absurd HA.out (by simp [queue_Group.l0])
      | succ k1 =>
        have H := HA.out
        clear HA
        simp only [queue_Group.l0] at H
        by_cases c9 : x17_1 < (l0_0.length : Int)
        · rw [if_pos c9] at H
          have c9b0 : decide (x17_1 < (l0_0.length : Int)) = true := decide_eq_true c9
          clear c9
          by_cases c10 : 0 ≤ x17_1
          · rw [if_pos c10] at H
            have c10b0 : decide (0 ≤ x17_1) = true := decide_eq_true c10
            clear c10
            by_cases c11 : x17_1 < (l0_0.length : Int)
            · rw [if_pos c11] at H
              have c11b0 : decide (x17_1 < (l0_0.length : Int)) = true := decide_eq_true c11
              clear c11
              by_cases c12 : (wrap64 (x7_1 + ((rd_T65 l0_0 x17_1).f1))) > a1
              · rw [if_pos c12] at H
                have c12b0 : decide (a1 < (wrap64 (x7_1 + ((rd_T65 l0_0 x17_1).f1)))) = true := decide_eq_true c12
                clear c12
                obtain rfl := Option.some.inj H
                have p102 : 0 ≤ (x17_1 : Int) := of_decide_eq_true (by first | (with_reducible assumption) | assumption)
                have q102 : x17_1 < (l0_0.length : Int) := of_decide_eq_true (by first | (with_reducible assumption) | assumption)
                obtain ⟨ad102, e102, hx102_0, hx102_1, hx102_2, hx102_3, hx102_4, hx102_5⟩ := at_T65 HR0_0.out x17_1 p102 q102
                cases e102
                replace hx102_0 := (HB.out.cell (World.block_lt_of_cell? w _ hx102_0)).trans hx102_0
                replace hx102_1 := (HB.out.cell (World.block_lt_of_cell? w _ hx102_1)).trans hx102_1
                replace hx102_2 := (HB.out.cell (World.block_lt_of_cell? w _ hx102_2)).trans hx102_2
                replace hx102_3 := (HB.out.cell (World.block_lt_of_cell? w _ hx102_3)).trans hx102_3
                replace hx102_4 := (HB.out.cell (World.block_lt_of_cell? w _ hx102_4)).trans hx102_4
                replace hx102_5 := (HB.out.cell (World.block_lt_of_cell? w _ hx102_5)).trans hx102_5
                replace p102 := eq_true p102
                replace q102 := eq_true q102
                go_wp2_with (first | ((with_reducible refine gate_dst (N := 10) rfl ?_); refine box_event ?hg (N := 10) ?hd (cs := #[.int .i64 0, .int .i64 0, .int .u64 0, .int .u64 0, .int .u8 0, .int .i64 0]) (t := 65) ?hr ?_; (case hd => rfl); (case hg => rfl); (case hr => first | (go_simp; done) | (go_simp; rfl)); intro gb103 hg w13 hbox hb; have n0_ := Aside0.mk (blk_below (g := gb101) (o := .cells #[.slice (some ad102) l0_0.length c0_0, .slice A0_1 l0_1.length c0_1, .int .i64 a0_2] 58 (0, 0)) (by (with_reducible repeat (first | refine blk_drewN ?_ _ | refine blk_drew ?_ | refine blk_alloc ?_ _)); exact BK101.out) hb); have n1_ := Aside0.mk (below_step (by repeat (first | (with_reducible first | exact HB.out | apply below_alloc | apply pw_below_drewN | apply below_drew1 | refine below_set ?_ GE101.out) | exact HB.out)) hb); have n2_ := Aside0.mk (hbox); have n3_ := Aside0.mk ((by rw [hg]; exact (below_size (by repeat (first | (with_reducible first | exact HB.out | apply below_alloc | apply pw_below_drewN | apply below_drew1 | refine below_set ?_ GE101.out) | exact HB.out))) : w.heap.size ≤ gb103)); have n4_ := Aside0.mk ((by rw [hg]; exact (below_size (by repeat (first | (with_reducible first | exact HB.out | apply below_alloc | apply pw_below_drewN | apply below_drew1 | refine below_set ?_ GE101.out) | exact HB.out))) : w.heap.size ≤ gb103)); have n5_ := Aside0.mk ((by rw [hg]; exact Nat.ne_of_lt (blk_lt (g := gb101) (o := .cells #[.slice (some ad102) l0_0.length c0_0, .slice A0_1 l0_1.length c0_1, .int .i64 a0_2] 58 (0, 0)) (by (with_reducible repeat (first | refine blk_drewN ?_ _ | refine blk_drew ?_ | refine blk_alloc ?_ _)); exact BK101.out)) : gb101 ≠ gb103)); have n6_ := Aside0.mk ((by rw [hg]; exact Nat.ne_of_gt (blk_lt (g := gb101) (o := .cells #[.slice (some ad102) l0_0.length c0_0, .slice A0_1 l0_1.length c0_1, .int .i64 a0_2] 58 (0, 0)) (by (with_reducible repeat (first | refine blk_drewN ?_ _ | refine blk_drew ?_ | refine blk_alloc ?_ _)); exact BK101.out)) : gb103 ≠ gb101)); clear BK101; clear HB; have BK101 := n0_; have HB := n1_; have BK103 := n2_; have GW103 := n3_; have GE103 := n4_; have NB101_103 := n5_; have NB103_101 := n6_; clear n0_ n1_ n2_ n3_ n4_ n5_ n6_; clear hb hbox hg; have hnb14 := NB103_101.out; have hnc14 := NB101_103.out; have hcz15_0 : w13.cell? ⟨gb103, 0, none⟩ = some (.int .i64 0) := (blk_cell BK103.out 0).trans rfl; have hcz15_1 : w13.cell? ⟨gb103, 1, none⟩ = some (.int .i64 0) := (blk_cell BK103.out 1).trans rfl; have hcz15_2 : w13.cell? ⟨gb103, 2, none⟩ = some (.int .u64 0) := (blk_cell BK103.out 2).trans rfl; have hcz15_3 : w13.cell? ⟨gb103, 3, none⟩ = some (.int .u64 0) := (blk_cell BK103.out 3).trans rfl; have hcz15_4 : w13.cell? ⟨gb103, 4, none⟩ = some (.int .u8 0) := (blk_cell BK103.out 4).trans rfl; have hcz15_5 : w13.cell? ⟨gb103, 5, none⟩ = some (.int .i64 0) := (blk_cell BK103.out 5).trans rfl; have hfz15_0 := blk_frozen BK103.out 0; have hfz15_1 := blk_frozen BK103.out 1; have hfz15_2 := blk_frozen BK103.out 2; have hfz15_3 := blk_frozen BK103.out 3; have hfz15_4 := blk_frozen BK103.out 4; have hfz15_5 := blk_frozen BK103.out 5))
                repeat (go_quiet (first | ((with_reducible refine gate_dst (N := 10) rfl ?_); refine box_event ?hg (N := 10) ?hd (cs := #[.int .i64 0, .int .i64 0, .int .u64 0, .int .u64 0, .int .u8 0, .int .i64 0]) (t := 65) ?hr ?_; (case hd => rfl); (case hg => rfl); (case hr => first | (go_simp; done) | (go_simp; rfl)); intro gb103 hg w13 hbox hb; have n0_ := Aside0.mk (blk_below (g := gb101) (o := .cells #[.slice (some ad102) l0_0.length c0_0, .slice A0_1 l0_1.length c0_1, .int .i64 a0_2] 58 (0, 0)) (by (with_reducible repeat (first | refine blk_drewN ?_ _ | refine blk_drew ?_ | refine blk_alloc ?_ _)); exact BK101.out) hb); have n1_ := Aside0.mk (below_step (by repeat (first | (with_reducible first | exact HB.out | apply below_alloc | apply pw_below_drewN | apply below_drew1 | refine below_set ?_ GE101.out) | exact HB.out)) hb); have n2_ := Aside0.mk (hbox); have n3_ := Aside0.mk ((by rw [hg]; exact (below_size (by repeat (first | (with_reducible first | exact HB.out | apply below_alloc | apply pw_below_drewN | apply below_drew1 | refine below_set ?_ GE101.out) | exact HB.out))) : w.heap.size ≤ gb103)); have n4_ := Aside0.mk ((by rw [hg]; exact (below_size (by repeat (first | (with_reducible first | exact HB.out | apply below_alloc | apply pw_below_drewN | apply below_drew1 | refine below_set ?_ GE101.out) | exact HB.out))) : w.heap.size ≤ gb103)); have n5_ := Aside0.mk ((by rw [hg]; exact Nat.ne_of_lt (blk_lt (g := gb101) (o := .cells #[.slice (some ad102) l0_0.length c0_0, .slice A0_1 l0_1.length c0_1, .int .i64 a0_2] 58 (0, 0)) (by (with_reducible repeat (first | refine blk_drewN ?_ _ | refine blk_drew ?_ | refine blk_alloc ?_ _)); exact BK101.out)) : gb101 ≠ gb103)); have n6_ := Aside0.mk ((by rw [hg]; exact Nat.ne_of_gt (blk_lt (g := gb101) (o := .cells #[.slice (some ad102) l0_0.length c0_0, .slice A0_1 l0_1.length c0_1, .int .i64 a0_2] 58 (0, 0)) (by (with_reducible repeat (first | refine blk_drewN ?_ _ | refine blk_drew ?_ | refine blk_alloc ?_ _)); exact BK101.out)) : gb103 ≠ gb101)); clear BK101; clear HB; have BK101 := n0_; have HB := n1_; have BK103 := n2_; have GW103 := n3_; have GE103 := n4_; have NB101_103 := n5_; have NB103_101 := n6_; clear n0_ n1_ n2_ n3_ n4_ n5_ n6_; clear hb hbox hg; have hnb14 := NB103_101.out; have hnc14 := NB101_103.out; have hcz15_0 : w13.cell? ⟨gb103, 0, none⟩ = some (.int .i64 0) := (blk_cell BK103.out 0).trans rfl; have hcz15_1 : w13.cell? ⟨gb103, 1, none⟩ = some (.int .i64 0) := (blk_cell BK103.out 1).trans rfl; have hcz15_2 : w13.cell? ⟨gb103, 2, none⟩ = some (.int .u64 0) := (blk_cell BK103.out 2).trans rfl; have hcz15_3 : w13.cell? ⟨gb103, 3, none⟩ = some (.int .u64 0) := (blk_cell BK103.out 3).trans rfl; have hcz15_4 : w13.cell? ⟨gb103, 4, none⟩ = some (.int .u8 0) := (blk_cell BK103.out 4).trans rfl; have hcz15_5 : w13.cell? ⟨gb103, 5, none⟩ = some (.int .i64 0) := (blk_cell BK103.out 5).trans rfl; have hfz15_0 := blk_frozen BK103.out 0; have hfz15_1 := blk_frozen BK103.out 1; have hfz15_2 := blk_frozen BK103.out 2; have hfz15_3 := blk_frozen BK103.out 3; have hfz15_4 := blk_frozen BK103.out 4; have hfz15_5 := blk_frozen BK103.out 5)); try go_wp2_with (first | ((with_reducible refine gate_dst (N := 10) rfl ?_); refine box_event ?hg (N := 10) ?hd (cs := #[.int .i64 0, .int .i64 0, .int .u64 0, .int .u64 0, .int .u8 0, .int .i64 0]) (t := 65) ?hr ?_; (case hd => rfl); (case hg => rfl); (case hr => first | (go_simp; done) | (go_simp; rfl)); intro gb103 hg w13 hbox hb; have n0_ := Aside0.mk (blk_below (g := gb101) (o := .cells #[.slice (some ad102) l0_0.length c0_0, .slice A0_1 l0_1.length c0_1, .int .i64 a0_2] 58 (0, 0)) (by (with_reducible repeat (first | refine blk_drewN ?_ _ | refine blk_drew ?_ | refine blk_alloc ?_ _)); exact BK101.out) hb); have n1_ := Aside0.mk (below_step (by repeat (first | (with_reducible first | exact HB.out | apply below_alloc | apply pw_below_drewN | apply below_drew1 | refine below_set ?_ GE101.out) | exact HB.out)) hb); have n2_ := Aside0.mk (hbox); have n3_ := Aside0.mk ((by rw [hg]; exact (below_size (by repeat (first | (with_reducible first | exact HB.out | apply below_alloc | apply pw_below_drewN | apply below_drew1 | refine below_set ?_ GE101.out) | exact HB.out))) : w.heap.size ≤ gb103)); have n4_ := Aside0.mk ((by rw [hg]; exact (below_size (by repeat (first | (with_reducible first | exact HB.out | apply below_alloc | apply pw_below_drewN | apply below_drew1 | refine below_set ?_ GE101.out) | exact HB.out))) : w.heap.size ≤ gb103)); have n5_ := Aside0.mk ((by rw [hg]; exact Nat.ne_of_lt (blk_lt (g := gb101) (o := .cells #[.slice (some ad102) l0_0.length c0_0, .slice A0_1 l0_1.length c0_1, .int .i64 a0_2] 58 (0, 0)) (by (with_reducible repeat (first | refine blk_drewN ?_ _ | refine blk_drew ?_ | refine blk_alloc ?_ _)); exact BK101.out)) : gb101 ≠ gb103)); have n6_ := Aside0.mk ((by rw [hg]; exact Nat.ne_of_gt (blk_lt (g := gb101) (o := .cells #[.slice (some ad102) l0_0.length c0_0, .slice A0_1 l0_1.length c0_1, .int .i64 a0_2] 58 (0, 0)) (by (with_reducible repeat (first | refine blk_drewN ?_ _ | refine blk_drew ?_ | refine blk_alloc ?_ _)); exact BK101.out)) : gb103 ≠ gb101)); clear BK101; clear HB; have BK101 := n0_; have HB := n1_; have BK103 := n2_; have GW103 := n3_; have GE103 := n4_; have NB101_103 := n5_; have NB103_101 := n6_; clear n0_ n1_ n2_ n3_ n4_ n5_ n6_; clear hb hbox hg; have hnb14 := NB103_101.out; have hnc14 := NB101_103.out; have hcz15_0 : w13.cell? ⟨gb103, 0, none⟩ = some (.int .i64 0) := (blk_cell BK103.out 0).trans rfl; have hcz15_1 : w13.cell? ⟨gb103, 1, none⟩ = some (.int .i64 0) := (blk_cell BK103.out 1).trans rfl; have hcz15_2 : w13.cell? ⟨gb103, 2, none⟩ = some (.int .u64 0) := (blk_cell BK103.out 2).trans rfl; have hcz15_3 : w13.cell? ⟨gb103, 3, none⟩ = some (.int .u64 0) := (blk_cell BK103.out 3).trans rfl; have hcz15_4 : w13.cell? ⟨gb103, 4, none⟩ = some (.int .u8 0) := (blk_cell BK103.out 4).trans rfl; have hcz15_5 : w13.cell? ⟨gb103, 5, none⟩ = some (.int .i64 0) := (blk_cell BK103.out 5).trans rfl; have hfz15_0 := blk_frozen BK103.out 0; have hfz15_1 := blk_frozen BK103.out 1; have hfz15_2 := blk_frozen BK103.out 2; have hfz15_3 := blk_frozen BK103.out 3; have hfz15_4 := blk_frozen BK103.out 4; have hfz15_5 := blk_frozen BK103.out 5)))
                go_ret
                exact ⟨by first | rfl | (simp [errW_none, errW_some] <;> rfl) | (simp [*, errW_none, errW_some] <;> rfl), by repeat (first | (with_reducible first | exact HB.out | apply below_alloc | apply pw_below_drewN | apply below_drew1 | refine below_set ?_ GE101.out | refine below_set ?_ GE103.out) | exact HB.out)⟩
              · rw [if_neg c12] at H
                have c12b0 : decide (a1 < (wrap64 (x7_1 + ((rd_T65 l0_0 x17_1).f1)))) = false := decide_eq_false c12
                clear c12
                by_cases c16 : (IntKind.u64.wrap (x8_1 + ((rd_T65 l0_0 x17_1).f2))) > a2
                · rw [if_pos c16] at H
                  have c16b0 : decide (a2 < (IntKind.u64.wrap (x8_1 + ((rd_T65 l0_0 x17_1).f2)))) = true := decide_eq_true c16
                  clear c16
                  obtain rfl := Option.some.inj H
                  have p102 : 0 ≤ (x17_1 : Int) := of_decide_eq_true (by first | (with_reducible assumption) | assumption)
                  have q102 : x17_1 < (l0_0.length : Int) := of_decide_eq_true (by first | (with_reducible assumption) | assumption)
                  obtain ⟨ad102, e102, hx102_0, hx102_1, hx102_2, hx102_3, hx102_4, hx102_5⟩ := at_T65 HR0_0.out x17_1 p102 q102
                  cases e102
                  replace hx102_0 := (HB.out.cell (World.block_lt_of_cell? w _ hx102_0)).trans hx102_0
                  replace hx102_1 := (HB.out.cell (World.block_lt_of_cell? w _ hx102_1)).trans hx102_1
                  replace hx102_2 := (HB.out.cell (World.block_lt_of_cell? w _ hx102_2)).trans hx102_2
                  replace hx102_3 := (HB.out.cell (World.block_lt_of_cell? w _ hx102_3)).trans hx102_3
                  replace hx102_4 := (HB.out.cell (World.block_lt_of_cell? w _ hx102_4)).trans hx102_4
                  replace hx102_5 := (HB.out.cell (World.block_lt_of_cell? w _ hx102_5)).trans hx102_5
                  replace p102 := eq_true p102
                  replace q102 := eq_true q102
                  go_wp2_with (first | ((with_reducible refine gate_dst (N := 10) rfl ?_); refine box_event ?hg (N := 10) ?hd (cs := #[.int .i64 0, .int .i64 0, .int .u64 0, .int .u64 0, .int .u8 0, .int .i64 0]) (t := 65) ?hr ?_; (case hd => rfl); (case hg => rfl); (case hr => first | (go_simp; done) | (go_simp; rfl)); intro gb103 hg w17 hbox hb; have n0_ := Aside0.mk (blk_below (g := gb101) (o := .cells #[.slice (some ad102) l0_0.length c0_0, .slice A0_1 l0_1.length c0_1, .int .i64 a0_2] 58 (0, 0)) (by (with_reducible repeat (first | refine blk_drewN ?_ _ | refine blk_drew ?_ | refine blk_alloc ?_ _)); exact BK101.out) hb); have n1_ := Aside0.mk (below_step (by repeat (first | (with_reducible first | exact HB.out | apply below_alloc | apply pw_below_drewN | apply below_drew1 | refine below_set ?_ GE101.out) | exact HB.out)) hb); have n2_ := Aside0.mk (hbox); have n3_ := Aside0.mk ((by rw [hg]; exact (below_size (by repeat (first | (with_reducible first | exact HB.out | apply below_alloc | apply pw_below_drewN | apply below_drew1 | refine below_set ?_ GE101.out) | exact HB.out))) : w.heap.size ≤ gb103)); have n4_ := Aside0.mk ((by rw [hg]; exact (below_size (by repeat (first | (with_reducible first | exact HB.out | apply below_alloc | apply pw_below_drewN | apply below_drew1 | refine below_set ?_ GE101.out) | exact HB.out))) : w.heap.size ≤ gb103)); have n5_ := Aside0.mk ((by rw [hg]; exact Nat.ne_of_lt (blk_lt (g := gb101) (o := .cells #[.slice (some ad102) l0_0.length c0_0, .slice A0_1 l0_1.length c0_1, .int .i64 a0_2] 58 (0, 0)) (by (with_reducible repeat (first | refine blk_drewN ?_ _ | refine blk_drew ?_ | refine blk_alloc ?_ _)); exact BK101.out)) : gb101 ≠ gb103)); have n6_ := Aside0.mk ((by rw [hg]; exact Nat.ne_of_gt (blk_lt (g := gb101) (o := .cells #[.slice (some ad102) l0_0.length c0_0, .slice A0_1 l0_1.length c0_1, .int .i64 a0_2] 58 (0, 0)) (by (with_reducible repeat (first | refine blk_drewN ?_ _ | refine blk_drew ?_ | refine blk_alloc ?_ _)); exact BK101.out)) : gb103 ≠ gb101)); clear BK101; clear HB; have BK101 := n0_; have HB := n1_; have BK103 := n2_; have GW103 := n3_; have GE103 := n4_; have NB101_103 := n5_; have NB103_101 := n6_; clear n0_ n1_ n2_ n3_ n4_ n5_ n6_; clear hb hbox hg; have hnb18 := NB103_101.out; have hnc18 := NB101_103.out; have hcz19_0 : w17.cell? ⟨gb103, 0, none⟩ = some (.int .i64 0) := (blk_cell BK103.out 0).trans rfl; have hcz19_1 : w17.cell? ⟨gb103, 1, none⟩ = some (.int .i64 0) := (blk_cell BK103.out 1).trans rfl; have hcz19_2 : w17.cell? ⟨gb103, 2, none⟩ = some (.int .u64 0) := (blk_cell BK103.out 2).trans rfl; have hcz19_3 : w17.cell? ⟨gb103, 3, none⟩ = some (.int .u64 0) := (blk_cell BK103.out 3).trans rfl; have hcz19_4 : w17.cell? ⟨gb103, 4, none⟩ = some (.int .u8 0) := (blk_cell BK103.out 4).trans rfl; have hcz19_5 : w17.cell? ⟨gb103, 5, none⟩ = some (.int .i64 0) := (blk_cell BK103.out 5).trans rfl; have hfz19_0 := blk_frozen BK103.out 0; have hfz19_1 := blk_frozen BK103.out 1; have hfz19_2 := blk_frozen BK103.out 2; have hfz19_3 := blk_frozen BK103.out 3; have hfz19_4 := blk_frozen BK103.out 4; have hfz19_5 := blk_frozen BK103.out 5))
                  repeat (go_quiet (first | ((with_reducible refine gate_dst (N := 10) rfl ?_); refine box_event ?hg (N := 10) ?hd (cs := #[.int .i64 0, .int .i64 0, .int .u64 0, .int .u64 0, .int .u8 0, .int .i64 0]) (t := 65) ?hr ?_; (case hd => rfl); (case hg => rfl); (case hr => first | (go_simp; done) | (go_simp; rfl)); intro gb103 hg w17 hbox hb; have n0_ := Aside0.mk (blk_below (g := gb101) (o := .cells #[.slice (some ad102) l0_0.length c0_0, .slice A0_1 l0_1.length c0_1, .int .i64 a0_2] 58 (0, 0)) (by (with_reducible repeat (first | refine blk_drewN ?_ _ | refine blk_drew ?_ | refine blk_alloc ?_ _)); exact BK101.out) hb); have n1_ := Aside0.mk (below_step (by repeat (first | (with_reducible first | exact HB.out | apply below_alloc | apply pw_below_drewN | apply below_drew1 | refine below_set ?_ GE101.out) | exact HB.out)) hb); have n2_ := Aside0.mk (hbox); have n3_ := Aside0.mk ((by rw [hg]; exact (below_size (by repeat (first | (with_reducible first | exact HB.out | apply below_alloc | apply pw_below_drewN | apply below_drew1 | refine below_set ?_ GE101.out) | exact HB.out))) : w.heap.size ≤ gb103)); have n4_ := Aside0.mk ((by rw [hg]; exact (below_size (by repeat (first | (with_reducible first | exact HB.out | apply below_alloc | apply pw_below_drewN | apply below_drew1 | refine below_set ?_ GE101.out) | exact HB.out))) : w.heap.size ≤ gb103)); have n5_ := Aside0.mk ((by rw [hg]; exact Nat.ne_of_lt (blk_lt (g := gb101) (o := .cells #[.slice (some ad102) l0_0.length c0_0, .slice A0_1 l0_1.length c0_1, .int .i64 a0_2] 58 (0, 0)) (by (with_reducible repeat (first | refine blk_drewN ?_ _ | refine blk_drew ?_ | refine blk_alloc ?_ _)); exact BK101.out)) : gb101 ≠ gb103)); have n6_ := Aside0.mk ((by rw [hg]; exact Nat.ne_of_gt (blk_lt (g := gb101) (o := .cells #[.slice (some ad102) l0_0.length c0_0, .slice A0_1 l0_1.length c0_1, .int .i64 a0_2] 58 (0, 0)) (by (with_reducible repeat (first | refine blk_drewN ?_ _ | refine blk_drew ?_ | refine blk_alloc ?_ _)); exact BK101.out)) : gb103 ≠ gb101)); clear BK101; clear HB; have BK101 := n0_; have HB := n1_; have BK103 := n2_; have GW103 := n3_; have GE103 := n4_; have NB101_103 := n5_; have NB103_101 := n6_; clear n0_ n1_ n2_ n3_ n4_ n5_ n6_; clear hb hbox hg; have hnb18 := NB103_101.out; have hnc18 := NB101_103.out; have hcz19_0 : w17.cell? ⟨gb103, 0, none⟩ = some (.int .i64 0) := (blk_cell BK103.out 0).trans rfl; have hcz19_1 : w17.cell? ⟨gb103, 1, none⟩ = some (.int .i64 0) := (blk_cell BK103.out 1).trans rfl; have hcz19_2 : w17.cell? ⟨gb103, 2, none⟩ = some (.int .u64 0) := (blk_cell BK103.out 2).trans rfl; have hcz19_3 : w17.cell? ⟨gb103, 3, none⟩ = some (.int .u64 0) := (blk_cell BK103.out 3).trans rfl; have hcz19_4 : w17.cell? ⟨gb103, 4, none⟩ = some (.int .u8 0) := (blk_cell BK103.out 4).trans rfl; have hcz19_5 : w17.cell? ⟨gb103, 5, none⟩ = some (.int .i64 0) := (blk_cell BK103.out 5).trans rfl; have hfz19_0 := blk_frozen BK103.out 0; have hfz19_1 := blk_frozen BK103.out 1; have hfz19_2 := blk_frozen BK103.out 2; have hfz19_3 := blk_frozen BK103.out 3; have hfz19_4 := blk_frozen BK103.out 4; have hfz19_5 := blk_frozen BK103.out 5)); try go_wp2_with (first | ((with_reducible refine gate_dst (N := 10) rfl ?_); refine box_event ?hg (N := 10) ?hd (cs := #[.int .i64 0, .int .i64 0, .int .u64 0, .int .u64 0, .int .u8 0, .int .i64 0]) (t := 65) ?hr ?_; (case hd => rfl); (case hg => rfl); (case hr => first | (go_simp; done) | (go_simp; rfl)); intro gb103 hg w17 hbox hb; have n0_ := Aside0.mk (blk_below (g := gb101) (o := .cells #[.slice (some ad102) l0_0.length c0_0, .slice A0_1 l0_1.length c0_1, .int .i64 a0_2] 58 (0, 0)) (by (with_reducible repeat (first | refine blk_drewN ?_ _ | refine blk_drew ?_ | refine blk_alloc ?_ _)); exact BK101.out) hb); have n1_ := Aside0.mk (below_step (by repeat (first | (with_reducible first | exact HB.out | apply below_alloc | apply pw_below_drewN | apply below_drew1 | refine below_set ?_ GE101.out) | exact HB.out)) hb); have n2_ := Aside0.mk (hbox); have n3_ := Aside0.mk ((by rw [hg]; exact (below_size (by repeat (first | (with_reducible first | exact HB.out | apply below_alloc | apply pw_below_drewN | apply below_drew1 | refine below_set ?_ GE101.out) | exact HB.out))) : w.heap.size ≤ gb103)); have n4_ := Aside0.mk ((by rw [hg]; exact (below_size (by repeat (first | (with_reducible first | exact HB.out | apply below_alloc | apply pw_below_drewN | apply below_drew1 | refine below_set ?_ GE101.out) | exact HB.out))) : w.heap.size ≤ gb103)); have n5_ := Aside0.mk ((by rw [hg]; exact Nat.ne_of_lt (blk_lt (g := gb101) (o := .cells #[.slice (some ad102) l0_0.length c0_0, .slice A0_1 l0_1.length c0_1, .int .i64 a0_2] 58 (0, 0)) (by (with_reducible repeat (first | refine blk_drewN ?_ _ | refine blk_drew ?_ | refine blk_alloc ?_ _)); exact BK101.out)) : gb101 ≠ gb103)); have n6_ := Aside0.mk ((by rw [hg]; exact Nat.ne_of_gt (blk_lt (g := gb101) (o := .cells #[.slice (some ad102) l0_0.length c0_0, .slice A0_1 l0_1.length c0_1, .int .i64 a0_2] 58 (0, 0)) (by (with_reducible repeat (first | refine blk_drewN ?_ _ | refine blk_drew ?_ | refine blk_alloc ?_ _)); exact BK101.out)) : gb103 ≠ gb101)); clear BK101; clear HB; have BK101 := n0_; have HB := n1_; have BK103 := n2_; have GW103 := n3_; have GE103 := n4_; have NB101_103 := n5_; have NB103_101 := n6_; clear n0_ n1_ n2_ n3_ n4_ n5_ n6_; clear hb hbox hg; have hnb18 := NB103_101.out; have hnc18 := NB101_103.out; have hcz19_0 : w17.cell? ⟨gb103, 0, none⟩ = some (.int .i64 0) := (blk_cell BK103.out 0).trans rfl; have hcz19_1 : w17.cell? ⟨gb103, 1, none⟩ = some (.int .i64 0) := (blk_cell BK103.out 1).trans rfl; have hcz19_2 : w17.cell? ⟨gb103, 2, none⟩ = some (.int .u64 0) := (blk_cell BK103.out 2).trans rfl; have hcz19_3 : w17.cell? ⟨gb103, 3, none⟩ = some (.int .u64 0) := (blk_cell BK103.out 3).trans rfl; have hcz19_4 : w17.cell? ⟨gb103, 4, none⟩ = some (.int .u8 0) := (blk_cell BK103.out 4).trans rfl; have hcz19_5 : w17.cell? ⟨gb103, 5, none⟩ = some (.int .i64 0) := (blk_cell BK103.out 5).trans rfl; have hfz19_0 := blk_frozen BK103.out 0; have hfz19_1 := blk_frozen BK103.out 1; have hfz19_2 := blk_frozen BK103.out 2; have hfz19_3 := blk_frozen BK103.out 3; have hfz19_4 := blk_frozen BK103.out 4; have hfz19_5 := blk_frozen BK103.out 5)))
                  go_ret
                  exact ⟨by first | rfl | (simp [errW_none, errW_some] <;> rfl) | (simp [*, errW_none, errW_some] <;> rfl), by repeat (first | (with_reducible first | exact HB.out | apply below_alloc | apply pw_below_drewN | apply below_drew1 | refine below_set ?_ GE101.out | refine below_set ?_ GE103.out) | exact HB.out)⟩
                · rw [if_neg c16] at H
                  have c16b0 : decide (a2 < (IntKind.u64.wrap (x8_1 + ((rd_T65 l0_0 x17_1).f2)))) = false := decide_eq_false c16
                  clear c16
                  have H' := Aside0.mk H
                  clear H
                  have p102 : 0 ≤ (x17_1 : Int) := of_decide_eq_true (by first | (with_reducible assumption) | assumption)
                  have q102 : x17_1 < (l0_0.length : Int) := of_decide_eq_true (by first | (with_reducible assumption) | assumption)
                  obtain ⟨ad102, e102, hx102_0, hx102_1, hx102_2, hx102_3, hx102_4, hx102_5⟩ := at_T65 HR0_0.out x17_1 p102 q102
                  cases e102
                  replace hx102_0 := (HB.out.cell (World.block_lt_of_cell? w _ hx102_0)).trans hx102_0
                  replace hx102_1 := (HB.out.cell (World.block_lt_of_cell? w _ hx102_1)).trans hx102_1
                  replace hx102_2 := (HB.out.cell (World.block_lt_of_cell? w _ hx102_2)).trans hx102_2
                  replace hx102_3 := (HB.out.cell (World.block_lt_of_cell? w _ hx102_3)).trans hx102_3
                  replace hx102_4 := (HB.out.cell (World.block_lt_of_cell? w _ hx102_4)).trans hx102_4
                  replace hx102_5 := (HB.out.cell (World.block_lt_of_cell? w _ hx102_5)).trans hx102_5
                  replace p102 := eq_true p102
                  replace q102 := eq_true q102
                  go_wp2_with (first | ((with_reducible refine gate_dst (N := 10) rfl ?_); refine box_event ?hg (N := 10) ?hd (cs := #[.int .i64 0, .int .i64 0, .int .u64 0, .int .u64 0, .int .u8 0, .int .i64 0]) (t := 65) ?hr ?_; (case hd => rfl); (case hg => rfl); (case hr => first | (go_simp; done) | (go_simp; rfl)); intro gb103 hg w20 hbox hb; have n0_ := Aside0.mk (blk_below (g := gb101) (o := .cells #[.slice (some ad102) l0_0.length c0_0, .slice A0_1 l0_1.length c0_1, .int .i64 a0_2] 58 (0, 0)) (by (with_reducible repeat (first | refine blk_drewN ?_ _ | refine blk_drew ?_ | refine blk_alloc ?_ _)); exact BK101.out) hb); have n1_ := Aside0.mk (below_step (by repeat (first | (with_reducible first | exact HB.out | apply below_alloc | apply pw_below_drewN | apply below_drew1 | refine below_set ?_ GE101.out) | exact HB.out)) hb); have n2_ := Aside0.mk (hbox); have n3_ := Aside0.mk ((by rw [hg]; exact (below_size (by repeat (first | (with_reducible first | exact HB.out | apply below_alloc | apply pw_below_drewN | apply below_drew1 | refine below_set ?_ GE101.out) | exact HB.out))) : w.heap.size ≤ gb103)); have n4_ := Aside0.mk ((by rw [hg]; exact (below_size (by repeat (first | (with_reducible first | exact HB.out | apply below_alloc | apply pw_below_drewN | apply below_drew1 | refine below_set ?_ GE101.out) | exact HB.out))) : w.heap.size ≤ gb103)); have n5_ := Aside0.mk ((by rw [hg]; exact Nat.ne_of_lt (blk_lt (g := gb101) (o := .cells #[.slice (some ad102) l0_0.length c0_0, .slice A0_1 l0_1.length c0_1, .int .i64 a0_2] 58 (0, 0)) (by (with_reducible repeat (first | refine blk_drewN ?_ _ | refine blk_drew ?_ | refine blk_alloc ?_ _)); exact BK101.out)) : gb101 ≠ gb103)); have n6_ := Aside0.mk ((by rw [hg]; exact Nat.ne_of_gt (blk_lt (g := gb101) (o := .cells #[.slice (some ad102) l0_0.length c0_0, .slice A0_1 l0_1.length c0_1, .int .i64 a0_2] 58 (0, 0)) (by (with_reducible repeat (first | refine blk_drewN ?_ _ | refine blk_drew ?_ | refine blk_alloc ?_ _)); exact BK101.out)) : gb103 ≠ gb101)); clear BK101; clear HB; have BK101 := n0_; have HB := n1_; have BK103 := n2_; have GW103 := n3_; have GE103 := n4_; have NB101_103 := n5_; have NB103_101 := n6_; clear n0_ n1_ n2_ n3_ n4_ n5_ n6_; clear hb hbox hg; have hnb21 := NB103_101.out; have hnc21 := NB101_103.out; have hcz22_0 : w20.cell? ⟨gb103, 0, none⟩ = some (.int .i64 0) := (blk_cell BK103.out 0).trans rfl; have hcz22_1 : w20.cell? ⟨gb103, 1, none⟩ = some (.int .i64 0) := (blk_cell BK103.out 1).trans rfl; have hcz22_2 : w20.cell? ⟨gb103, 2, none⟩ = some (.int .u64 0) := (blk_cell BK103.out 2).trans rfl; have hcz22_3 : w20.cell? ⟨gb103, 3, none⟩ = some (.int .u64 0) := (blk_cell BK103.out 3).trans rfl; have hcz22_4 : w20.cell? ⟨gb103, 4, none⟩ = some (.int .u8 0) := (blk_cell BK103.out 4).trans rfl; have hcz22_5 : w20.cell? ⟨gb103, 5, none⟩ = some (.int .i64 0) := (blk_cell BK103.out 5).trans rfl; have hfz22_0 := blk_frozen BK103.out 0; have hfz22_1 := blk_frozen BK103.out 1; have hfz22_2 := blk_frozen BK103.out 2; have hfz22_3 := blk_frozen BK103.out 3; have hfz22_4 := blk_frozen BK103.out 4; have hfz22_5 := blk_frozen BK103.out 5))
                  repeat (go_quiet (first | ((with_reducible refine gate_dst (N := 10) rfl ?_); refine box_event ?hg (N := 10) ?hd (cs := #[.int .i64 0, .int .i64 0, .int .u64 0, .int .u64 0, .int .u8 0, .int .i64 0]) (t := 65) ?hr ?_; (case hd => rfl); (case hg => rfl); (case hr => first | (go_simp; done) | (go_simp; rfl)); intro gb103 hg w20 hbox hb; have n0_ := Aside0.mk (blk_below (g := gb101) (o := .cells #[.slice (some ad102) l0_0.length c0_0, .slice A0_1 l0_1.length c0_1, .int .i64 a0_2] 58 (0, 0)) (by (with_reducible repeat (first | refine blk_drewN ?_ _ | refine blk_drew ?_ | refine blk_alloc ?_ _)); exact BK101.out) hb); have n1_ := Aside0.mk (below_step (by repeat (first | (with_reducible first | exact HB.out | apply below_alloc | apply pw_below_drewN | apply below_drew1 | refine below_set ?_ GE101.out) | exact HB.out)) hb); have n2_ := Aside0.mk (hbox); have n3_ := Aside0.mk ((by rw [hg]; exact (below_size (by repeat (first | (with_reducible first | exact HB.out | apply below_alloc | apply pw_below_drewN | apply below_drew1 | refine below_set ?_ GE101.out) | exact HB.out))) : w.heap.size ≤ gb103)); have n4_ := Aside0.mk ((by rw [hg]; exact (below_size (by repeat (first | (with_reducible first | exact HB.out | apply below_alloc | apply pw_below_drewN | apply below_drew1 | refine below_set ?_ GE101.out) | exact HB.out))) : w.heap.size ≤ gb103)); have n5_ := Aside0.mk ((by rw [hg]; exact Nat.ne_of_lt (blk_lt (g := gb101) (o := .cells #[.slice (some ad102) l0_0.length c0_0, .slice A0_1 l0_1.length c0_1, .int .i64 a0_2] 58 (0, 0)) (by (with_reducible repeat (first | refine blk_drewN ?_ _ | refine blk_drew ?_ | refine blk_alloc ?_ _)); exact BK101.out)) : gb101 ≠ gb103)); have n6_ := Aside0.mk ((by rw [hg]; exact Nat.ne_of_gt (blk_lt (g := gb101) (o := .cells #[.slice (some ad102) l0_0.length c0_0, .slice A0_1 l0_1.length c0_1, .int .i64 a0_2] 58 (0, 0)) (by (with_reducible repeat (first | refine blk_drewN ?_ _ | refine blk_drew ?_ | refine blk_alloc ?_ _)); exact BK101.out)) : gb103 ≠ gb101)); clear BK101; clear HB; have BK101 := n0_; have HB := n1_; have BK103 := n2_; have GW103 := n3_; have GE103 := n4_; have NB101_103 := n5_; have NB103_101 := n6_; clear n0_ n1_ n2_ n3_ n4_ n5_ n6_; clear hb hbox hg; have hnb21 := NB103_101.out; have hnc21 := NB101_103.out; have hcz22_0 : w20.cell? ⟨gb103, 0, none⟩ = some (.int .i64 0) := (blk_cell BK103.out 0).trans rfl; have hcz22_1 : w20.cell? ⟨gb103, 1, none⟩ = some (.int .i64 0) := (blk_cell BK103.out 1).trans rfl; have hcz22_2 : w20.cell? ⟨gb103, 2, none⟩ = some (.int .u64 0) := (blk_cell BK103.out 2).trans rfl; have hcz22_3 : w20.cell? ⟨gb103, 3, none⟩ = some (.int .u64 0) := (blk_cell BK103.out 3).trans rfl; have hcz22_4 : w20.cell? ⟨gb103, 4, none⟩ = some (.int .u8 0) := (blk_cell BK103.out 4).trans rfl; have hcz22_5 : w20.cell? ⟨gb103, 5, none⟩ = some (.int .i64 0) := (blk_cell BK103.out 5).trans rfl; have hfz22_0 := blk_frozen BK103.out 0; have hfz22_1 := blk_frozen BK103.out 1; have hfz22_2 := blk_frozen BK103.out 2; have hfz22_3 := blk_frozen BK103.out 3; have hfz22_4 := blk_frozen BK103.out 4; have hfz22_5 := blk_frozen BK103.out 5)); try go_wp2_with (first | ((with_reducible refine gate_dst (N := 10) rfl ?_); refine box_event ?hg (N := 10) ?hd (cs := #[.int .i64 0, .int .i64 0, .int .u64 0, .int .u64 0, .int .u8 0, .int .i64 0]) (t := 65) ?hr ?_; (case hd => rfl); (case hg => rfl); (case hr => first | (go_simp; done) | (go_simp; rfl)); intro gb103 hg w20 hbox hb; have n0_ := Aside0.mk (blk_below (g := gb101) (o := .cells #[.slice (some ad102) l0_0.length c0_0, .slice A0_1 l0_1.length c0_1, .int .i64 a0_2] 58 (0, 0)) (by (with_reducible repeat (first | refine blk_drewN ?_ _ | refine blk_drew ?_ | refine blk_alloc ?_ _)); exact BK101.out) hb); have n1_ := Aside0.mk (below_step (by repeat (first | (with_reducible first | exact HB.out | apply below_alloc | apply pw_below_drewN | apply below_drew1 | refine below_set ?_ GE101.out) | exact HB.out)) hb); have n2_ := Aside0.mk (hbox); have n3_ := Aside0.mk ((by rw [hg]; exact (below_size (by repeat (first | (with_reducible first | exact HB.out | apply below_alloc | apply pw_below_drewN | apply below_drew1 | refine below_set ?_ GE101.out) | exact HB.out))) : w.heap.size ≤ gb103)); have n4_ := Aside0.mk ((by rw [hg]; exact (below_size (by repeat (first | (with_reducible first | exact HB.out | apply below_alloc | apply pw_below_drewN | apply below_drew1 | refine below_set ?_ GE101.out) | exact HB.out))) : w.heap.size ≤ gb103)); have n5_ := Aside0.mk ((by rw [hg]; exact Nat.ne_of_lt (blk_lt (g := gb101) (o := .cells #[.slice (some ad102) l0_0.length c0_0, .slice A0_1 l0_1.length c0_1, .int .i64 a0_2] 58 (0, 0)) (by (with_reducible repeat (first | refine blk_drewN ?_ _ | refine blk_drew ?_ | refine blk_alloc ?_ _)); exact BK101.out)) : gb101 ≠ gb103)); have n6_ := Aside0.mk ((by rw [hg]; exact Nat.ne_of_gt (blk_lt (g := gb101) (o := .cells #[.slice (some ad102) l0_0.length c0_0, .slice A0_1 l0_1.length c0_1, .int .i64 a0_2] 58 (0, 0)) (by (with_reducible repeat (first | refine blk_drewN ?_ _ | refine blk_drew ?_ | refine blk_alloc ?_ _)); exact BK101.out)) : gb103 ≠ gb101)); clear BK101; clear HB; have BK101 := n0_; have HB := n1_; have BK103 := n2_; have GW103 := n3_; have GE103 := n4_; have NB101_103 := n5_; have NB103_101 := n6_; clear n0_ n1_ n2_ n3_ n4_ n5_ n6_; clear hb hbox hg; have hnb21 := NB103_101.out; have hnc21 := NB101_103.out; have hcz22_0 : w20.cell? ⟨gb103, 0, none⟩ = some (.int .i64 0) := (blk_cell BK103.out 0).trans rfl; have hcz22_1 : w20.cell? ⟨gb103, 1, none⟩ = some (.int .i64 0) := (blk_cell BK103.out 1).trans rfl; have hcz22_2 : w20.cell? ⟨gb103, 2, none⟩ = some (.int .u64 0) := (blk_cell BK103.out 2).trans rfl; have hcz22_3 : w20.cell? ⟨gb103, 3, none⟩ = some (.int .u64 0) := (blk_cell BK103.out 3).trans rfl; have hcz22_4 : w20.cell? ⟨gb103, 4, none⟩ = some (.int .u8 0) := (blk_cell BK103.out 4).trans rfl; have hcz22_5 : w20.cell? ⟨gb103, 5, none⟩ = some (.int .i64 0) := (blk_cell BK103.out 5).trans rfl; have hfz22_0 := blk_frozen BK103.out 0; have hfz22_1 := blk_frozen BK103.out 1; have hfz22_2 := blk_frozen BK103.out 2; have hfz22_3 := blk_frozen BK103.out 3; have hfz22_4 := blk_frozen BK103.out 4; have hfz22_5 := blk_frozen BK103.out 5)))
                  go_roundg k1
                  case measure => have := HK1.out; omega
                  case rel => exact ⟨(wrap64 (x7_1 + ((rd_T65 l0_0 x17_1).f1))), (IntKind.u64.wrap (x8_1 + ((rd_T65 l0_0 x17_1).f2))), (wrap64 (x17_1 + 1)), (by first | rfl | (simp; done) | (simp [*]; done)), (by first | rfl | (simp; done) | (simp [*]; done)), (by first | rfl | (simp; done) | (simp [*]; done)), H', ⟨by have := HK1.out; omega⟩, ⟨by (with_reducible repeat (first | refine blk_drewN ?_ _ | refine blk_drew ?_ | refine blk_alloc ?_ _)); refine blk_far ?_ NB101_103.out _; (with_reducible repeat (first | refine blk_drewN ?_ _ | refine blk_drew ?_ | refine blk_alloc ?_ _)); refine blk_far ?_ NB101_103.out _; (with_reducible repeat (first | refine blk_drewN ?_ _ | refine blk_drew ?_ | refine blk_alloc ?_ _)); refine blk_far ?_ NB101_103.out _; (with_reducible repeat (first | refine blk_drewN ?_ _ | refine blk_drew ?_ | refine blk_alloc ?_ _)); refine blk_far ?_ NB101_103.out _; (with_reducible repeat (first | refine blk_drewN ?_ _ | refine blk_drew ?_ | refine blk_alloc ?_ _)); refine blk_far ?_ NB101_103.out _; (with_reducible repeat (first | refine blk_drewN ?_ _ | refine blk_drew ?_ | refine blk_alloc ?_ _)); refine blk_far ?_ NB101_103.out _; (with_reducible repeat (first | refine blk_drewN ?_ _ | refine blk_drew ?_ | refine blk_alloc ?_ _)); exact BK101.out⟩, ⟨by repeat (first | (with_reducible first | exact HB.out | apply below_alloc | apply pw_below_drewN | apply below_drew1 | refine below_set ?_ GE101.out | refine below_set ?_ GE103.out) | exact HB.out)⟩⟩
            · rw [if_neg c11] at H
              exact absurd H (by simp)
          · rw [if_neg c10] at H
            exact absurd H (by simp)
        · rw [if_neg c9] at H
          have c9b0 : decide (x17_1 < (l0_0.length : Int)) = false := decide_eq_false c9
          clear c9
          obtain rfl := Option.some.inj H
          have hcz23_0 : wr.cell? ⟨gb101, 0, none⟩ = some (.slice A0_0 l0_0.length c0_0) := (blk_cell BK101.out 0).trans rfl
          have hcz23_1 : wr.cell? ⟨gb101, 1, none⟩ = some (.slice A0_1 l0_1.length c0_1) := (blk_cell BK101.out 1).trans rfl
          have hcz23_2 : wr.cell? ⟨gb101, 2, none⟩ = some (.int .i64 a0_2) := (blk_cell BK101.out 2).trans rfl
          have hfz23_0 := blk_frozen BK101.out 0
          have hfz23_1 := blk_frozen BK101.out 1
          have hfz23_2 := blk_frozen BK101.out 2
          go_wp2
          repeat (go_quiet (fail); try go_wp2)
          go_ret
          exact ⟨by first | rfl | (simp [errW_none, errW_some] <;> rfl) | (simp [*, errW_none, errW_some] <;> rfl), by repeat (first | (with_reducible first | exact HB.out | apply below_alloc | apply pw_below_drewN | apply below_drew1 | refine below_set ?_ GE101.out) | exact HB.out)⟩

/-! ### api_Member_82: function 82 -/
def api_Member_82.f (l0 : List (S65)) : Option (List (S65)) := if l0.length ≤ 1000000 then some l0 else none

theorem drop_cons {α : Type} (d : α) (l : List α) (i : Nat) (h : i < l.length) : l.drop i = l.getD i d :: l.drop (i + 1) := by
  rw [List.drop_eq_getElem_cons h, List.getD_eq_getElem?_getD, List.getElem?_eq_getElem h]; rfl
theorem rd65_nat (l : List S65) (i : Nat) : rd_T65 l (i : Int) = l.getD i z65 := by simp [rd_T65]

theorem eqlIn_nil {P : Program} {t e : TypeId} (h : P.underlying t = some (.slice e)) (d : Nat) (a : Option Addr) (l c : Nat) (w : World) : (Op.equalIn (d + 1) t (.slice a l c) (.slice none 0 0)).run P w = .ok a.isNone w := by
  cases a <;> simp [Op.equalIn, run_underlying h]
theorem eql_nil {P : Program} {t e : TypeId} (h : P.underlying t = some (.slice e)) (a : Option Addr) (l c : Nat) (w : World) : (binOp .eql t (.slice a l c) (.slice none 0 0)).run P w = .ok (.bool a.isNone) w := by
  have h1 : (Op.equal t (.slice a l c) (.slice none 0 0)).run P w = .ok a.isNone w := eqlIn_nil h 9999 a l c w
  simp [binOp, h1]

set_option maxHeartbeats 4000000 in
set_option maxRecDepth 100000 in
theorem api_Member_82.calls (A0 : Option Addr) (c0 : Nat) (l0 : List (S65)) (r : List (S65)) (w : World) (hr0 : Kd.C k65 w A0 l0.length l0) (hc0 : l0.length ≤ c0) (h : api_Member_82.f l0 = some r) :
    Calls Try.prog 82 #[.slice A0 l0.length c0] w fun e w' => ∃ v0_ : Value, e = .returned (v0_) ∧ Kd.R k65 65 w' w.heap.size (fun _ => True) v0_ r ∧ Below w.heap.size w w' := by
  unfold api_Member_82.f at h
  by_cases hl : l0.length ≤ 1000000
  case neg => rw [if_neg hl] at h; cases h
  rw [if_pos hl] at h
  obtain rfl := Option.some.inj h
  have HR0 := Aside0.mk hr0
  clear h hr0
  have hnil : ∀ W : World, (binOp .eql 56 (.slice A0 l0.length c0) (.slice none 0 0)).run Try.prog W = .ok (.bool A0.isNone) W := fun W => eql_nil Try.underlying56 A0 l0.length c0 W
  cases A0 with
  | none =>
    have h0 : l0.length = 0 := by
      rcases Nat.eq_zero_or_pos l0.length with h | h
      · exact h
      · obtain ⟨ad, e, _⟩ := HR0.out.2.2 h
        cases e
    obtain rfl : l0 = [] := List.eq_nil_of_length_eq_zero h0
    clear h0 hl
    simp only [List.length_nil] at hnil ⊢
    go_enter Try.func82, Try.ntmps82
    go_wp2
    go_ret
    exact ⟨_, rfl, Kd.R_nil _ _ _ _ _, Below.refl _ _⟩
  | some ad =>
    go_enter Try.func82, Try.ntmps82
    go_wp2_with (first
      | ((with_reducible refine gate_dst (N := 5) rfl ?_); (refine Kd.R_lit k65 (w0 := w) w.heap.size 65 rfl rfl (xs := []) (inner := []) (ok := fun _ => True) (okp := fun _ => False) ?hrun ?hrep (fun _ hk => hk.elim) trivial (Below.refl _ _) (Nat.le_refl _) (by simp) ?_); (case hrun => first | (go_simp; done) | (go_simp; rfl)); (case hrep => first | exact Reps.nil | exact ⟨rfl, fun j p hj => by simp at hj⟩); intro v5 w5 ho hb hg hat; have HO := Aside0.mk ho; have HB := Aside0.mk hb; clear ho hb hg hat)
      | ((with_reducible refine gate_builtin (b := .append) (xs := #[.tmp 5, .tmp 6]) rfl ?_); at_builtin; (refine Kd.R_append_rows k65 (w0 := w) w.heap.size rfl (.tmp 5) (.tmp 6) 56 65 (.agg #[.int .i64 0, .int .i64 0, .int .u64 0, .int .u64 0, .int .u8 0, .int .i64 0]) 48 rfl Try.underlying56 info65 rfl (by decide) (by omega) _ [] l0 _ _ _ (fun _ => True) (fun _ => False) rfl rfl HO.out (Kd.C_below HR0.out HB.out) ?hKM (fun _ hk => hk.elim) (fun _ _ => trivial) HB.out (below_size HB.out) (by simp; omega) ?_); (case hKM => intro x cs hx; rw [k65_open hx]; exact k65_mkM _ _ _ x); intro v7 w7 ho hb hg hat; have n0 := Aside0.mk ho; have n1 := Aside0.mk hb; clear ho hb hg hat))
    go_ret
    exact ⟨_, rfl, n0.out, n1.out⟩

/-! ### queue_own: function 71 -/
def queue_own.f (l0_0 : List (S65)) (l0_1 : List (S65)) (a0_2 : Int) : Option ((List (S65)) × (List (S65)) × Int) := (api_Member_82.f l0_0).bind fun t106 => ((api_Member_82.f l0_1).bind fun t109 => (some (t106, t109, a0_2)))
def queue_own.T1 : Bool × List (List Nat × List Nat) := (true, [([], []), ([0], [0]), ([1], [1]), ([], []), ([3], [3]), ([4, 2], [4]), ([], []), ([6], [6]), ([2, 5, 7], [2, 5, 7]), ([8, 5, 0, 1, 2, 3, 4, 5, 6, 7, 8], [8])])
def queue_own.B1 : List Nat := [0, 1, 3, 0, 8, 31, 0, 64, 255, 511]
theorem queue_own.tab1 : rtab .any (opsOf Try.f71 1) = queue_own.T1 := by kernel_rfl
theorem queue_own.bits1 : waitsOk queue_own.T1.2 queue_own.B1 = true := by kernel_rfl
set_option maxHeartbeats 8000000 in
set_option maxRecDepth 100000 in
theorem queue_own.calls (A0_0 : Option Addr) (c0_0 : Nat) (l0_0 : List (S65)) (A0_1 : Option Addr) (c0_1 : Nat) (l0_1 : List (S65)) (a0_2 : Int) (r1 : List (S65)) (r2 : List (S65)) (r3 : Int) (w : World) (hr0_0 : Kd.C k65 w A0_0 l0_0.length l0_0) (hc0_0 : l0_0.length ≤ c0_0) (hr0_1 : Kd.C k65 w A0_1 l0_1.length l0_1) (hc0_1 : l0_1.length ≤ c0_1) (h : queue_own.f l0_0 l0_1 a0_2 = some (r1, r2, r3)) :
    Calls Try.prog 71 #[.agg #[.slice A0_0 l0_0.length c0_0, .slice A0_1 l0_1.length c0_1, .int .i64 a0_2]] w fun e w' => ∃ v0_ v1_ : Value, e = .returned (.agg #[v0_, v1_, .int .i64 r3]) ∧ Kd.R k65 65 w' w.heap.size (fun k_ => some k_ ≠ (v1_ : Value).ownBlock) v0_ r1 ∧ Kd.R k65 65 w' w.heap.size (fun k_ => some k_ ≠ (v0_ : Value).ownBlock) v1_ r2 ∧ Below w.heap.size w w' := by
  have hu58 := Try.underlying58
  have HR0_0 := Aside0.mk hr0_0
  have HC0_0 := Aside0.mk hc0_0
  clear hr0_0 hc0_0
  have HR0_1 := Aside0.mk hr0_1
  have HC0_1 := Aside0.mk hc0_1
  clear hr0_1 hc0_1
  have HB := Aside0.mk (Below.refl w.heap.size w)
  have H : ((api_Member_82.f l0_0).bind fun t106 => ((api_Member_82.f l0_1).bind fun t109 => (some (t106, t109, a0_2)))) = some (r1, r2, r3) := h
  clear h
  replace H := Option.bind_eq_some_iff.mp H
  obtain ⟨t106, A20, H⟩ := H
  replace H : ((api_Member_82.f l0_1).bind fun t109 => (some (t106, t109, a0_2))) = some (r1, r2, r3) := H
  have A2 := Aside0.mk A20
  clear A20
  replace H := Option.bind_eq_some_iff.mp H
  obtain ⟨t109, A30, H⟩ := H
  replace H : (some (t106, t109, a0_2)) = some (r1, r2, r3) := H
  have A3 := Aside0.mk A30
  clear A30
  simp only [Option.some.injEq, Prod.mk.injEq] at H
  obtain ⟨rfl, rfl, rfl⟩ := H
  go_enter Try.func71, Try.ntmps71
  try go_wp2_with (first | ((with_reducible refine gate_dst (N := 1) rfl ?_); refine box_event ?hg (N := 1) ?hd (cs := #[.slice A0_0 l0_0.length c0_0, .slice A0_1 l0_1.length c0_1, .int .i64 a0_2]) (t := 58) ?hr ?_; (case hd => rfl); (case hg => rfl); (case hr => first | (go_simp; done) | (go_simp; rfl)); intro gb104 hg w4 hbox hb; have n0_ := Aside0.mk (below_step (by repeat (first | (with_reducible first | exact HB.out | apply below_alloc | apply pw_below_drewN | apply below_drew1) | exact HB.out)) hb); have n1_ := Aside0.mk (hbox); have n2_ := Aside0.mk ((by rw [hg]; exact (below_size (by repeat (first | (with_reducible first | exact HB.out | apply below_alloc | apply pw_below_drewN | apply below_drew1) | exact HB.out))) : w.heap.size ≤ gb104)); have n3_ := Aside0.mk ((by rw [hg]; exact (below_size (by repeat (first | (with_reducible first | exact HB.out | apply below_alloc | apply pw_below_drewN | apply below_drew1) | exact HB.out))) : w.heap.size ≤ gb104)); clear HB; have HB := n0_; have BK104 := n1_; have GW104 := n2_; have GE104 := n3_; clear n0_ n1_ n2_ n3_; clear hb hbox hg) | ((with_reducible refine gate_dst (N := 2) rfl ?_); refine box_event ?hg (N := 2) ?hd (cs := #[.slice none 0 0, .slice none 0 0, .int .i64 0]) (t := 58) ?hr ?_; (case hd => rfl); (case hg => rfl); (case hr => first | (go_simp; done) | (go_simp; rfl)); intro gb105 hg w5 hbox hb; have n0_ := Aside0.mk (blk_below (g := gb104) (o := .cells #[.slice A0_0 l0_0.length c0_0, .slice A0_1 l0_1.length c0_1, .int .i64 a0_2] 58 (0, 0)) (by (with_reducible repeat (first | refine blk_drewN ?_ _ | refine blk_drew ?_ | refine blk_alloc ?_ _)); exact BK104.out) hb); have n1_ := Aside0.mk (below_step (by repeat (first | (with_reducible first | exact HB.out | apply below_alloc | apply pw_below_drewN | apply below_drew1 | refine below_set ?_ GE104.out) | exact HB.out)) hb); have n2_ := Aside0.mk (hbox); have n3_ := Aside0.mk ((by rw [hg]; exact (below_size (by repeat (first | (with_reducible first | exact HB.out | apply below_alloc | apply pw_below_drewN | apply below_drew1 | refine below_set ?_ GE104.out) | exact HB.out))) : w.heap.size ≤ gb105)); have n4_ := Aside0.mk ((by rw [hg]; exact (below_size (by repeat (first | (with_reducible first | exact HB.out | apply below_alloc | apply pw_below_drewN | apply below_drew1 | refine below_set ?_ GE104.out) | exact HB.out))) : w.heap.size ≤ gb105)); have n5_ := Aside0.mk ((by rw [hg]; exact Nat.ne_of_lt (blk_lt (g := gb104) (o := .cells #[.slice A0_0 l0_0.length c0_0, .slice A0_1 l0_1.length c0_1, .int .i64 a0_2] 58 (0, 0)) (by (with_reducible repeat (first | refine blk_drewN ?_ _ | refine blk_drew ?_ | refine blk_alloc ?_ _)); exact BK104.out)) : gb104 ≠ gb105)); have n6_ := Aside0.mk ((by rw [hg]; exact Nat.ne_of_gt (blk_lt (g := gb104) (o := .cells #[.slice A0_0 l0_0.length c0_0, .slice A0_1 l0_1.length c0_1, .int .i64 a0_2] 58 (0, 0)) (by (with_reducible repeat (first | refine blk_drewN ?_ _ | refine blk_drew ?_ | refine blk_alloc ?_ _)); exact BK104.out)) : gb105 ≠ gb104)); clear BK104; clear HB; have BK104 := n0_; have HB := n1_; have BK105 := n2_; have GW105 := n3_; have GE105 := n4_; have NB104_105 := n5_; have NB105_104 := n6_; clear n0_ n1_ n2_ n3_ n4_ n5_ n6_; clear hb hbox hg))
  have n0_ := Aside0.mk (blk_drew BK104.out)
  have n1_ := Aside0.mk (blk_drew BK105.out)
  have n2_ := Aside0.mk (below_drew1 HB.out)
  clear BK104
  clear BK105
  clear HB
  have BK104 := n0_
  have BK105 := n1_
  have HB := n2_
  clear n0_ n1_ n2_
  refine start_ (n := 10) (S := fun w' => w'.cell? ⟨gb104, 0, none⟩ = some (.slice A0_0 l0_0.length c0_0) ∧ w'.cell? ⟨gb104, 1, none⟩ = some (.slice A0_1 l0_1.length c0_1) ∧ w'.cell? ⟨gb104, 2, none⟩ = some (.int .i64 a0_2)) (ds := []) #[false, false, false, false, false, false, false, false, false, false] (by kernel_rfl) rfl rfl ⟨(blk_cell BK104.out 0).trans rfl, (blk_cell BK104.out 1).trans rfl, (blk_cell BK104.out 2).trans rfl⟩ (fun hHeld => ?_); refine with_tabW queue_own.tab1 queue_own.bits1 (fun HT_ HW_ => ?_)
  generalize w5.drew = w6 at BK104 BK105 HB hHeld ⊢
  refine pure_ (i := 0) (N := some 3) (v := ?_) (a' := ?_) #[true, false, false, false, false, false, false, false, false, false] rfl rfl (any_of HT_.out (by kernel_rfl)) (fun _ _ _ h => h) (Or.inl ⟨by rfl, ?_⟩) ?_ ?_
  rotate_left
  · intro w'
    go_simp
    with_reducible rfl
  rotate_left
  · simp only [Act.put, List.setIfInBounds_toArray, List.set_cons_zero, List.set_cons_succ, i64_w, i32_w]
    rfl
  refine pure_ (i := 3) (N := some 6) (v := ?_) (a' := ?_) #[true, false, false, true, false, false, false, false, false, false] rfl rfl (any_of HT_.out (by kernel_rfl)) (fun _ _ _ h => h) (Or.inl ⟨by rfl, ?_⟩) ?_ ?_
  rotate_left
  · intro w'
    go_simp
    with_reducible rfl
  rotate_left
  · simp only [Act.put, List.setIfInBounds_toArray, List.set_cons_zero, List.set_cons_succ, i64_w, i32_w]
    rfl
  refine pure_ (i := 6) (N := some 9) (v := ?_) (a' := ?_) #[true, false, false, true, false, false, true, false, false, false] rfl rfl (any_of HT_.out (by kernel_rfl)) (fun _ _ _ h => h) (Or.inl ⟨by rfl, ?_⟩) ?_ ?_
  rotate_left
  · intro w'
    go_simp
    with_reducible rfl
  rotate_left
  · simp only [Act.put, List.setIfInBounds_toArray, List.set_cons_zero, List.set_cons_succ, i64_w, i32_w]
    rfl
  refine take_ (i := 1) (N := some 4) (v := ?_) (a' := ?_) #[true, true, false, true, false, false, true, false, false, false] rfl rfl (take_ofW HT_.out HW_.out (by kernel_rfl)) (fun _ _ _ h => h) (Or.inl ⟨by rfl, ?_⟩) hHeld ?_ ?_
  rotate_left
  · rintro w' ⟨s0, s1, s2⟩
    go_simp
    with_reducible rfl
  rotate_left
  · simp only [Act.put, List.setIfInBounds_toArray, List.set_cons_zero, List.set_cons_succ, i64_w, i32_w]
    rfl
  refine take_ (i := 4) (N := some 7) (v := ?_) (a' := ?_) #[true, true, false, true, true, false, true, false, false, false] rfl rfl (take_ofW HT_.out HW_.out (by kernel_rfl)) (fun _ _ _ h => h) (Or.inl ⟨by rfl, ?_⟩) hHeld ?_ ?_
  rotate_left
  · rintro w' ⟨s0, s1, s2⟩
    go_simp
    with_reducible rfl
  rotate_left
  · simp only [Act.put, List.setIfInBounds_toArray, List.set_cons_zero, List.set_cons_succ, i64_w, i32_w]
    rfl
  refine take_ (i := 7) (N := some 10) (v := ?_) (a' := ?_) #[true, true, false, true, true, false, true, true, false, false] rfl rfl (take_ofW HT_.out HW_.out (by kernel_rfl)) (fun _ _ _ h => h) (Or.inl ⟨by rfl, ?_⟩) hHeld ?_ ?_
  rotate_left
  · rintro w' ⟨s0, s1, s2⟩
    go_simp
    with_reducible rfl
  rotate_left
  · simp only [Act.put, List.setIfInBounds_toArray, List.set_cons_zero, List.set_cons_succ, i64_w, i32_w]
    rfl
  refine one_ (i := 2) (N := some 5) #[true, true, true, true, true, false, true, true, false, false] rfl rfl (one_of HT_.out (by kernel_rfl)) (by decide) (fun K hK => ?_)
  refine goes_ Try.func82 (by kernel_rfl) rfl #[.slice A0_0 l0_0.length c0_0] (by rfl) rfl rfl (by (try simp only [List.map_toArray, List.map_cons, List.map_nil]); first | done | rfl | (simp only [List.length_drop, List.length_take]; rfl)) ?_
  with_reducible refine (api_Member_82.calls _ _ l0_0 t106 _ ?side1 ?side2 A2.out).mono ?_
  (case side1 => repeat (first | exact (Kd.C_below HR0_0.out HB.out) | (with_reducible refine Kd.C_alloc ?_ _) | (with_reducible refine Kd.C_drewN ?_ _) | (with_reducible refine Kd.C_drew ?_)))
  (case side2 => exact HC0_0.out)
  rintro e w7 ⟨v107, rfl, ho0, hb⟩
  refine ⟨_, rfl, ?_⟩
  have n0_ := Aside0.mk (Kd.R_lower ho0 (below_size (by repeat (first | (with_reducible first | exact HB.out | apply below_alloc | apply pw_below_drewN | apply below_drew1 | refine below_set ?_ GE104.out | refine below_set ?_ GE105.out) | exact HB.out))))
  have n1_ := Aside0.mk (blk_below (g := gb104) (o := .cells #[.slice A0_0 l0_0.length c0_0, .slice A0_1 l0_1.length c0_1, .int .i64 a0_2] 58 (0, 0)) (by (with_reducible repeat (first | refine blk_drewN ?_ _ | refine blk_drew ?_ | refine blk_alloc ?_ _)); exact BK104.out) hb)
  have n2_ := Aside0.mk (blk_below (g := gb105) (o := .cells #[.slice none 0 0, .slice none 0 0, .int .i64 0] 58 (0, 0)) (by (with_reducible repeat (first | refine blk_drewN ?_ _ | refine blk_drew ?_ | refine blk_alloc ?_ _)); exact BK105.out) hb)
  have n3_ := Aside0.mk (below_step (by repeat (first | (with_reducible first | exact HB.out | apply below_alloc | apply pw_below_drewN | apply below_drew1 | refine below_set ?_ GE104.out | refine below_set ?_ GE105.out) | exact HB.out)) hb)
  clear BK104
  clear BK105
  clear HB
  have HO108 := n0_
  have BK104 := n1_
  have BK105 := n2_
  have HB := n3_
  clear n0_ n1_ n2_ n3_
  (try clear hb)
  (try clear hb2)
  (try clear hk)
  (try clear hi)
  (try clear ho0)
  refine hK.out _ _ ⟨(blk_cell BK104.out 0).trans rfl, (blk_cell BK104.out 1).trans rfl, (blk_cell BK104.out 2).trans rfl⟩ (fun hHeld => ?_)
  clear hK K
  refine norm_ (a' := ?_) ?_ ?_
  rotate_left
  · show Act.put _ (some 5) _ = _
    simp only [Act.put, List.setIfInBounds_toArray, List.set_cons_zero, List.set_cons_succ, i64_w, i32_w]
    rfl
  refine one_ (i := 5) (N := some 8) #[true, true, true, true, true, true, true, true, false, false] rfl rfl (one_of HT_.out (by kernel_rfl)) (by decide) (fun K hK => ?_)
  refine goes_ Try.func82 (by kernel_rfl) rfl #[.slice A0_1 l0_1.length c0_1] (by rfl) rfl rfl (by (try simp only [List.map_toArray, List.map_cons, List.map_nil]); first | done | rfl | (simp only [List.length_drop, List.length_take]; rfl)) ?_
  with_reducible refine (api_Member_82.calls _ _ l0_1 t109 _ ?side1 ?side2 A3.out).mono ?_
  (case side1 => repeat (first | exact (Kd.C_below HR0_1.out HB.out) | (with_reducible refine Kd.C_alloc ?_ _) | (with_reducible refine Kd.C_drewN ?_ _) | (with_reducible refine Kd.C_drew ?_)))
  (case side2 => exact HC0_1.out)
  rintro e w8 ⟨v110, rfl, ho0, hb⟩
  refine ⟨_, rfl, ?_⟩
  have n0_ := Aside0.mk (Kd.R_elder' (by (with_reducible repeat (first | apply Kd.R_alloc | apply Kd.R_drewN | apply Kd.R_drew)); exact HO108.out) (Kd.R_base ho0) hb)
  have n1_ := Aside0.mk (Kd.R_lower (Kd.R_new' ho0 (Kd.R_lt (by (with_reducible repeat (first | apply Kd.R_alloc | apply Kd.R_drewN | apply Kd.R_drew)); exact HO108.out))) (below_size (by repeat (first | (with_reducible first | exact HB.out | apply below_alloc | apply pw_below_drewN | apply below_drew1 | refine below_set ?_ GE104.out | refine below_set ?_ GE105.out) | exact HB.out))))
  have n2_ := Aside0.mk (blk_below (g := gb104) (o := .cells #[.slice A0_0 l0_0.length c0_0, .slice A0_1 l0_1.length c0_1, .int .i64 a0_2] 58 (0, 0)) (by (with_reducible repeat (first | refine blk_drewN ?_ _ | refine blk_drew ?_ | refine blk_alloc ?_ _)); exact BK104.out) hb)
  have n3_ := Aside0.mk (blk_below (g := gb105) (o := .cells #[.slice none 0 0, .slice none 0 0, .int .i64 0] 58 (0, 0)) (by (with_reducible repeat (first | refine blk_drewN ?_ _ | refine blk_drew ?_ | refine blk_alloc ?_ _)); exact BK105.out) hb)
  have n4_ := Aside0.mk (below_step (by repeat (first | (with_reducible first | exact HB.out | apply below_alloc | apply pw_below_drewN | apply below_drew1 | refine below_set ?_ GE104.out | refine below_set ?_ GE105.out) | exact HB.out)) hb)
  clear HO108
  clear BK104
  clear BK105
  clear HB
  have HO108 := n0_
  have HO111 := n1_
  have BK104 := n2_
  have BK105 := n3_
  have HB := n4_
  clear n0_ n1_ n2_ n3_ n4_
  (try clear hb)
  (try clear hb2)
  (try clear hk)
  (try clear hi)
  (try clear ho0)
  obtain ⟨Ao9, co9, eo9⟩ := Kd.R_slice HO111.out
  (first | subst eo9 | (injection eo9 with f1_ f2_ f3_; have f4_ := f1_.symm; have f5_ := f3_.symm; clear f1_ f2_ f3_; subst f4_; subst f5_))
  obtain ⟨Ao10, co10, eo10⟩ := Kd.R_slice HO108.out
  (first | subst eo10 | (injection eo10 with f1_ f2_ f3_; have f4_ := f1_.symm; have f5_ := f3_.symm; clear f1_ f2_ f3_; subst f4_; subst f5_))
  refine hK.out _ _ ⟨(blk_cell BK104.out 0).trans rfl, (blk_cell BK104.out 1).trans rfl, (blk_cell BK104.out 2).trans rfl⟩ (fun hHeld => ?_)
  clear hK K
  refine norm_ (a' := ?_) ?_ ?_
  rotate_left
  · show Act.put _ (some 8) _ = _
    simp only [Act.put, List.setIfInBounds_toArray, List.set_cons_zero, List.set_cons_succ, i64_w, i32_w]
    rfl
  refine pure_ (i := 8) (N := some 11) (v := ?_) (a' := ?_) #[true, true, true, true, true, true, true, true, true, false] rfl rfl (any_of HT_.out (by kernel_rfl)) (fun _ _ _ h => h) (Or.inl ⟨by rfl, ?_⟩) ?_ ?_
  rotate_left
  · intro w'
    go_simp
    with_reducible rfl
  rotate_left
  · simp only [Act.put, List.setIfInBounds_toArray, List.set_cons_zero, List.set_cons_succ, i64_w, i32_w]
    rfl
  refine one_ (i := 9) (N := none) #[true, true, true, true, true, true, true, true, true, true] rfl rfl (one_of HT_.out (by kernel_rfl)) (by decide) (fun K hK => ?_)
  have hs11 : w8.cell? ⟨gb105, 0, none⟩ = some (.slice none 0 0) := (blk_cell BK105.out 0).trans rfl
  have hfs11 := blk_frozen BK105.out 0
  have hns11_0 := NB104_105.out
  have hms11_0 := NB105_104.out
  have hs12 : w8.cell? ⟨gb105, 1, none⟩ = some (.slice none 0 0) := (blk_cell BK105.out 1).trans rfl
  have hfs12 := blk_frozen BK105.out 1
  have hns12_0 := NB104_105.out
  have hms12_0 := NB105_104.out
  have hs13 : w8.cell? ⟨gb105, 2, none⟩ = some (.int .i64 0) := (blk_cell BK105.out 2).trans rfl
  have hfs13 := blk_frozen BK105.out 2
  have hns13_0 := NB104_105.out
  have hms13_0 := NB105_104.out
  refine skip_ (w1 := ?_) (by rfl) rfl ?_ ?_
  rotate_left
  · go_simp
    rfl
  refine hK.out _ _ ⟨((cell_far (p := ⟨gb105, _, none⟩) NB104_105.out _).trans (((cell_far (p := ⟨gb105, _, none⟩) NB104_105.out _).trans (((cell_far (p := ⟨gb105, _, none⟩) NB104_105.out _).trans (hHeld.1)))))), ((cell_far (p := ⟨gb105, _, none⟩) NB104_105.out _).trans (((cell_far (p := ⟨gb105, _, none⟩) NB104_105.out _).trans (((cell_far (p := ⟨gb105, _, none⟩) NB104_105.out _).trans (hHeld.2.1)))))), ((cell_far (p := ⟨gb105, _, none⟩) NB104_105.out _).trans (((cell_far (p := ⟨gb105, _, none⟩) NB104_105.out _).trans (((cell_far (p := ⟨gb105, _, none⟩) NB104_105.out _).trans (hHeld.2.2))))))⟩ (fun hHeld => ?_)
  clear hK K
  refine done_ (done_of HT_.out (by kernel_rfl)) ?_
  try go_wp2
  refine bodyPost_ret (results_cell_row rfl _ _ gb105 58 #[.slice Ao10 t106.length co10, .slice Ao9 t109.length co9, .int .i64 a0_2] (0, 0) _ rfl (by (with_reducible repeat (first | refine blk_drewN ?_ _ | refine blk_drew ?_ | refine blk_alloc ?_ _)); refine blk_put (cs := #[.slice Ao10 t106.length co10, .slice Ao9 t109.length co9, .int .i64 0]) ?_ 2 _ rfl; (with_reducible repeat (first | refine blk_drewN ?_ _ | refine blk_drew ?_ | refine blk_alloc ?_ _)); refine blk_put (cs := #[.slice Ao10 t106.length co10, .slice none 0 0, .int .i64 0]) ?_ 1 _ rfl; (with_reducible repeat (first | refine blk_drewN ?_ _ | refine blk_drew ?_ | refine blk_alloc ?_ _)); refine blk_put (cs := #[.slice none 0 0, .slice none 0 0, .int .i64 0]) ?_ 0 _ rfl; (with_reducible repeat (first | refine blk_drewN ?_ _ | refine blk_drew ?_ | refine blk_alloc ?_ _)); exact BK105.out) Try.underlying58 rfl (by kernel_rfl)) rfl ?_
  exact ⟨_, _, by first | rfl | (simp [errW_none, errW_some] <;> rfl) | (simp [*, errW_none, errW_some] <;> rfl), by (with_reducible repeat (first | apply Kd.R_alloc | apply Kd.R_drewN | apply Kd.R_drew)); exact Kd.R_mono (Kd.R_far (p := ⟨gb105, 2, none⟩) (Kd.R_far (p := ⟨gb105, 1, none⟩) (Kd.R_far (p := ⟨gb105, 0, none⟩) (Kd.R_types HO108.out BK105.out (by decide)) (fun _ hk => hk.2) (.slice Ao10 t106.length co10)) (fun _ hk => hk.2) (.slice Ao9 t109.length co9)) (fun _ hk => hk.2) (.int .i64 a0_2)) (fun _ hk => hk.1.2), by (with_reducible repeat (first | apply Kd.R_alloc | apply Kd.R_drewN | apply Kd.R_drew)); exact Kd.R_mono (Kd.R_far (p := ⟨gb105, 2, none⟩) (Kd.R_far (p := ⟨gb105, 1, none⟩) (Kd.R_far (p := ⟨gb105, 0, none⟩) (Kd.R_types HO111.out BK105.out (by decide)) (fun _ hk => hk.2) (.slice Ao10 t106.length co10)) (fun _ hk => hk.2) (.slice Ao9 t109.length co9)) (fun _ hk => hk.2) (.int .i64 a0_2)) (fun _ hk => hk.1.2), by repeat (first | (with_reducible first | exact HB.out | apply below_alloc | apply pw_below_drewN | apply below_drew1 | refine below_set ?_ GE104.out | refine below_set ?_ GE105.out) | exact HB.out)⟩

/-! ### queue_Give: function 44 -/
theorem ap0 {v0 v1 : Value} (h : v0.ownBlock = none ∨ v0.ownBlock ≠ v1.ownBlock) : ∀ k, v0.ownBlock = some k → some k ≠ v1.ownBlock := by
  intro k hk
  rcases h with h | h
  · rw [h] at hk; cases hk
  · rw [← hk]; exact h
theorem ap1 {v0 v1 : Value} (h : v0.ownBlock = none ∨ v0.ownBlock ≠ v1.ownBlock) : ∀ k, v1.ownBlock = some k → some k ≠ v0.ownBlock := by
  intro k hk e
  rcases h with h | h
  · rw [h] at e; cases e
  · exact h (e.symm.trans hk.symm)
theorem u64w (x : Int) : IntKind.u64.wrap x = x % 18446744073709551616 := by simp [IntKind.wrap, IntKind.signed, IntKind.bits]
theorem getD_set65 (xs : List S65) (i : Nat) (x : S65) (h : i < xs.length) : (xs.set i x).getD i z65 = x := by simp [List.getD_eq_getElem?_getD, h]
/-- What an element's six cells are. -/
def cells65 (x : S65) : List Value := [.int .i64 x.f0, .int .i64 x.f1, .int .u64 x.f2, .int .u64 x.f3, .int .u8 x.f4, .int .i64 x.f5]
theorem elem65 {W : World} {base g n cap : Nat} {ok : Nat → Prop} {xs : List S65} (h : Kd.R k65 65 W base ok (.slice (some ⟨g, 0, none⟩) n cap) xs) (i : Nat) (hi : i < n) :
    (∀ j u, (cells65 (xs.getD i z65))[j]? = some u → W.cell? ⟨g, i * 6 + j, none⟩ = some u) ∧ ∀ j, W.frozen? ⟨g, i * 6 + j, none⟩ = false := by
  obtain ⟨c, _, hM, hc, hf⟩ := Kd.R_elem h z65 (i : Int) (by omega) (by omega)
  obtain rfl := k65_openM hM
  simp only [Int.toNat_natCast] at hc hf
  exact ⟨hc, hf⟩
/-- One cell of an element is stored. -/
theorem put65 {W : World} {base g n cap : Nat} {ok : Nat → Prop} {xs : List S65} (h : Kd.R k65 65 W base ok (.slice (some ⟨g, 0, none⟩) n cap) xs) (i : Nat) (hi : i < n) (j : Nat) (hj : j < 6) (u : Value) (x' : S65)
    (hx : cells65 x' = (cells65 (xs.getD i z65)).take j ++ [u] ++ (cells65 (xs.getD i z65)).drop (j + 1)) :
    Kd.R k65 65 (W.setCell ⟨g, i * 6 + j, none⟩ u) base ok (.slice (some ⟨g, 0, none⟩) n cap) (xs.set i x') ∧ W.grownBy (W.setCell ⟨g, i * 6 + j, none⟩ u) (some g) := by
  obtain ⟨c, hcl, hM, hc, hf⟩ := Kd.R_elem h z65 (i : Int) (by omega) (by omega)
  have e := k65_openM hM
  have hs := Kd.R_seg h (i : Int) (by omega) (by omega) (seg := [u]) (j := j) hcl hc (by show j + 1 ≤ 6; omega) (x' := x') (okp := fun k => ok k ∧ k ≠ g) (by
    have e2 : c.take j ++ [u] ++ c.drop (j + [u].length) = cells65 x' := by
      rw [hx, e]
      simp only [Int.toNat_natCast]
      rfl
    rw [e2]
    exact k65_mkM _ _ _ x') (fun _ hk => hk)
  simp only [Int.toNat_natCast] at hs
  exact hs
theorem far_set {W : World} {base : Nat} {v : Value} {xs : List S65} {p : Addr} (h : Kd.R k65 65 W base (fun _ => True) v xs) (hne : some p.block ≠ v.ownBlock) (u : Value) : Kd.R k65 65 (W.setCell p u) base (fun _ => True) v xs :=
  Kd.R_mono (Kd.R_far (Kd.R_far1 h rfl hne) (fun _ hk => hk.2) u) (fun _ hk => hk.1)
theorem blk_row {W : World} {base g t : Nat} {cs : Array Value} {v : Value} {xs : List S65} (hb : W.heap[g]? = some (.cells cs t (0, 0))) (h : Kd.R k65 65 W base (fun _ => True) v xs) (ht : t ≠ 65) : some g ≠ v.ownBlock := fun e => by
  obtain ⟨c, hc⟩ := Kd.R_typed h g e.symm
  exact blk_ne hb hc ht rfl
namespace Kd
theorem R_apart2 {α β : Type} {d : Kd α} {d' : Kd β} {e e' base base' : Nat} {w : World} {v0 v1 : Value} {xs : List α} {ys : List β} (h0 : d.R e w base (fun k_ => some k_ ≠ v1.ownBlock) v0 xs) (_ : d'.R e' w base' (fun k_ => some k_ ≠ v0.ownBlock) v1 ys) : v0.ownBlock = none ∨ v0.ownBlock ≠ v1.ownBlock := by
  cases h : v0.ownBlock with
  | none => exact .inl rfl
  | some k => exact .inr (h0.1 k h)
end Kd
/-- What Give does with the first n: each gets its sequence. -/
def giveL : Nat → Int → List S65 → List S65 × Int
  | 0, last, l => (l, last)
  | _ + 1, last, [] => ([], last)
  | n + 1, last, m :: ms => ({ m with f3 := (last + 1) % 18446744073709551616 } :: (giveL n ((last + m.f1 % 18446744073709551616) % 18446744073709551616) ms).1, (giveL n ((last + m.f1 % 18446744073709551616) % 18446744073709551616) ms).2)
def queue_Give.f (l0_0 : List (S65)) (l0_1 : List (S65)) (a0_2 : Int) (a1 : Int) (a2 : Int) : Option ((List (S65)) × (List (S65)) × Int × Int) :=
  if l0_0.length ≤ 1000000 ∧ l0_1.length ≤ 1000000 then
    (if a0_2 > 0 ∨ a1 < 1 ∨ a1 > l0_0.length then some (l0_0, l0_1, a0_2, a2) else some ((giveL a1.toNat a2 l0_0).1, l0_1, a1, (giveL a1.toNat a2 l0_0).2))
  else none

theorem giveL_len : ∀ (n : Nat) (last : Int) (l : List S65), (giveL n last l).1.length = l.length
  | 0, _, _ => rfl
  | _ + 1, _, [] => rfl
  | n + 1, last, m :: ms => by simp [giveL, giveL_len n]
theorem giveL_succ : ∀ (l : List S65) (i : Nat) (last : Int), i < l.length →
    (giveL i last l).1.getD i z65 = l.getD i z65 ∧
    (giveL (i + 1) last l).1 = (giveL i last l).1.set i { l.getD i z65 with f3 := ((giveL i last l).2 + 1) % 18446744073709551616 } ∧
    (giveL (i + 1) last l).2 = ((giveL i last l).2 + (l.getD i z65).f1 % 18446744073709551616) % 18446744073709551616
  | [], i, last, h => by simp at h
  | m :: ms, 0, last, _ => ⟨rfl, rfl, rfl⟩
  | m :: ms, i + 1, last, h => by
    obtain ⟨h1, h2, h3⟩ := giveL_succ ms i ((last + m.f1 % 18446744073709551616) % 18446744073709551616) (by simpa using h)
    refine ⟨by simpa [giveL] using h1, ?_, ?_⟩
    · rw [giveL]
      simp only [giveL, List.set_cons_succ, List.getD_cons_succ]
      rw [h2]
    · rw [giveL]
      simp only [giveL, List.getD_cons_succ]
      rw [h3]

set_option maxHeartbeats 8000000 in
set_option maxRecDepth 100000 in
theorem queue_Give.calls (A0_0 : Option Addr) (c0_0 : Nat) (l0_0 : List (S65)) (A0_1 : Option Addr) (c0_1 : Nat) (l0_1 : List (S65)) (a0_2 : Int) (a1 : Int) (a2 : Int) (r1 : List (S65)) (r2 : List (S65)) (r3 : Int) (r4 : Int) (w : World) (hr0_0 : Kd.C k65 w A0_0 l0_0.length l0_0) (hc0_0 : l0_0.length ≤ c0_0) (hr0_1 : Kd.C k65 w A0_1 l0_1.length l0_1) (hc0_1 : l0_1.length ≤ c0_1) (h : queue_Give.f l0_0 l0_1 a0_2 a1 a2 = some (r1, r2, r3, r4)) :
    Calls Try.prog 44 #[.agg #[.slice A0_0 l0_0.length c0_0, .slice A0_1 l0_1.length c0_1, .int .i64 a0_2], .int .i64 a1, .int .u64 a2] w fun e w' => ∃ v0_ v1_ : Value, e = .returned (.tuple #[.agg #[v0_, v1_, .int .i64 r3], .int .u64 r4]) ∧ Kd.R k65 65 w' w.heap.size (fun k_ => some k_ ≠ (v1_ : Value).ownBlock) v0_ r1 ∧ Kd.R k65 65 w' w.heap.size (fun k_ => some k_ ≠ (v0_ : Value).ownBlock) v1_ r2 ∧ Below w.heap.size w w' := by
  unfold queue_Give.f at h
  by_cases hl : l0_0.length ≤ 1000000 ∧ l0_1.length ≤ 1000000
  case neg => rw [if_neg hl] at h; cases h
  rw [if_pos hl] at h
  have HOW : Aside0 (queue_own.f l0_0 l0_1 a0_2 = some (l0_0, l0_1, a0_2)) := ⟨by unfold queue_own.f api_Member_82.f; rw [if_pos hl.1, if_pos hl.2]; rfl⟩
  have HR0 := Aside0.mk hr0_0
  have HR1 := Aside0.mk hr0_1
  have HC0 := Aside0.mk hc0_0
  have HC1 := Aside0.mk hc0_1
  have HB := Aside0.mk (Below.refl w.heap.size w)
  have HH := Aside0.mk h
  have hl0 : l0_0.length ≤ 1000000 := hl.1
  clear hr0_0 hr0_1 hc0_0 hc0_1 hl h
  go_enter Try.func44, Try.ntmps44
  go_upto_region 2 with (first | ((with_reducible refine gate_dst (N := 3) rfl ?_); refine box_event ?hg (N := 3) ?hd (cs := #[.slice A0_0 l0_0.length c0_0, .slice A0_1 l0_1.length c0_1, .int .i64 a0_2]) (t := 58) ?hr ?_; (case hd => rfl); (case hg => rfl); (case hr => first | (go_simp; done) | (go_simp; rfl)); intro gb3 hg w3 hbox hb; have GE_gb3 := Aside0.mk (show w.heap.size ≤ gb3 from by rw [hg]; exact below_size (by repeat (first | (with_reducible first | exact HB.out | apply below_alloc | apply pw_below_drewN | apply below_drew1) | exact HB.out))); clear hg; have n_HB := Aside0.mk (below_step (by repeat (first | (with_reducible first | exact HB.out | apply below_alloc | apply pw_below_drewN | apply below_drew1) | exact HB.out)) hb); skip; clear HB hb; have HB := n_HB; clear n_HB; have BK3 := Aside0.mk hbox; clear hbox; have bk3_0 := (blk_cell BK3.out 0).trans (show _ = some (.slice A0_0 l0_0.length c0_0) from rfl); have bk3_1 := (blk_cell BK3.out 1).trans (show _ = some (.slice A0_1 l0_1.length c0_1) from rfl); have bk3_2 := (blk_cell BK3.out 2).trans (show _ = some (.int .i64 a0_2) from rfl); have bk3_f := fun i => blk_frozen BK3.out i) | ((with_reducible refine gate_dst (N := 6) rfl ?_); refine box_event ?hg (N := 6) ?hd (cs := #[.slice none 0 0, .slice none 0 0, .int .i64 0]) (t := 58) ?hr ?_; (case hd => rfl); (case hg => rfl); (case hr => first | (go_simp; done) | (go_simp; rfl)); intro gb6 hg w3 hbox hb; have NE_gb3_gb6 := Aside0.mk (show gb3 ≠ gb6 from by rw [hg]; exact Nat.ne_of_lt (blk_lt (o := .cells #[.slice A0_0 l0_0.length c0_0, .slice A0_1 l0_1.length c0_1, .int .i64 a0_2] 58 (0, 0)) (by (with_reducible repeat (first | refine blk_drewN ?_ _ | refine blk_drew ?_ | refine blk_alloc ?_ _)); exact BK3.out))); have GE_gb6 := Aside0.mk (show w.heap.size ≤ gb6 from by rw [hg]; exact below_size (by repeat (first | (with_reducible first | exact HB.out | apply below_alloc | apply pw_below_drewN | apply below_drew1) | exact HB.out))); clear hg; have n_BK3 := Aside0.mk (blk_below (g := gb3) (o := .cells #[.slice A0_0 l0_0.length c0_0, .slice A0_1 l0_1.length c0_1, .int .i64 a0_2] 58 (0, 0)) (by (with_reducible repeat (first | refine blk_drewN ?_ _ | refine blk_drew ?_ | refine blk_alloc ?_ _)); exact BK3.out) hb); have n_HB := Aside0.mk (below_step (by repeat (first | (with_reducible first | exact HB.out | apply below_alloc | apply pw_below_drewN | apply below_drew1) | exact HB.out)) hb); clear bk3_0 bk3_1 bk3_2 bk3_f; clear BK3 HB hb; have BK3 := n_BK3; have HB := n_HB; clear n_BK3 n_HB; have BK6 := Aside0.mk hbox; clear hbox; have bk3_0 := (blk_cell BK3.out 0).trans (show _ = some (.slice A0_0 l0_0.length c0_0) from rfl); have bk3_1 := (blk_cell BK3.out 1).trans (show _ = some (.slice A0_1 l0_1.length c0_1) from rfl); have bk3_2 := (blk_cell BK3.out 2).trans (show _ = some (.int .i64 a0_2) from rfl); have bk6_0 := (blk_cell BK6.out 0).trans (show _ = some (.slice none 0 0) from rfl); have bk6_1 := (blk_cell BK6.out 1).trans (show _ = some (.slice none 0 0) from rfl); have bk6_2 := (blk_cell BK6.out 2).trans (show _ = some (.int .i64 0) from rfl); have bk3_f := fun i => blk_frozen BK3.out i; have bk6_f := fun i => blk_frozen BK6.out i) | (go_at_call 71; (with_reducible refine (queue_own.calls _ _ l0_0 _ _ l0_1 a0_2 l0_0 l0_1 a0_2 _ (Kd.C_below HR0.out HB.out) HC0.out (Kd.C_below HR1.out HB.out) HC1.out HOW.out).mono ?_); rintro e w5 ⟨v0, v1, rfl, hr0, hr1, hb⟩; have hsz := below_size (by repeat (first | (with_reducible first | exact HB.out | apply below_alloc | apply pw_below_drewN | apply below_drew1) | exact HB.out)); have n_BK3 := Aside0.mk (blk_below (g := gb3) (o := .cells #[.slice A0_0 l0_0.length c0_0, .slice A0_1 l0_1.length c0_1, .int .i64 a0_2] 58 (0, 0)) (by (with_reducible repeat (first | refine blk_drewN ?_ _ | refine blk_drew ?_ | refine blk_alloc ?_ _)); exact BK3.out) hb); have n_BK6 := Aside0.mk (blk_below (g := gb6) (o := .cells #[.slice none 0 0, .slice none 0 0, .int .i64 0] 58 (0, 0)) (by (with_reducible repeat (first | refine blk_drewN ?_ _ | refine blk_drew ?_ | refine blk_alloc ?_ _)); exact BK6.out) hb); have n_HB := Aside0.mk (below_step (by repeat (first | (with_reducible first | exact HB.out | apply below_alloc | apply pw_below_drewN | apply below_drew1) | exact HB.out)) hb); clear bk3_0 bk3_1 bk3_2 bk3_f bk6_0 bk6_1 bk6_2 bk6_f; clear BK3 BK6 HB hb; have BK3 := n_BK3; have BK6 := n_BK6; have HB := n_HB; clear n_BK3 n_BK6 n_HB; have HO0 := Aside0.mk (Kd.R_lower (Kd.R_mono (ok' := fun _ => True) hr0 (fun _ _ => trivial)) hsz); have HO1 := Aside0.mk (Kd.R_lower (Kd.R_mono (ok' := fun _ => True) hr1 (fun _ _ => trivial)) hsz); clear hsz; have HAP := Aside0.mk (Kd.R_apart2 hr0 hr1); clear hr0 hr1; obtain ⟨Ax, cx, ex⟩ := Kd.R_slice HO0.out; obtain ⟨Ay, cy, ey⟩ := Kd.R_slice HO1.out; subst ex; subst ey; have bk3_0 := (blk_cell BK3.out 0).trans (show _ = some (.slice A0_0 l0_0.length c0_0) from rfl); have bk3_1 := (blk_cell BK3.out 1).trans (show _ = some (.slice A0_1 l0_1.length c0_1) from rfl); have bk3_2 := (blk_cell BK3.out 2).trans (show _ = some (.int .i64 a0_2) from rfl); have bk6_0 := (blk_cell BK6.out 0).trans (show _ = some (.slice none 0 0) from rfl); have bk6_1 := (blk_cell BK6.out 1).trans (show _ = some (.slice none 0 0) from rfl); have bk6_2 := (blk_cell BK6.out 2).trans (show _ = some (.int .i64 0) from rfl); have bk3_f := fun i => blk_frozen BK3.out i; have bk6_f := fun i => blk_frozen BK6.out i) | ((with_reducible refine gate_dst (N := 8) rfl ?_); refine box_event ?hg (N := 8) ?hd (cs := #[.slice none 0 0, .slice none 0 0, .int .i64 0]) (t := 58) ?hr ?_; (case hd => rfl); (case hg => rfl); (case hr => first | (go_simp; done) | (go_simp; rfl)); intro gb8 hg w3 hbox hb; have NE_gb3_gb8 := Aside0.mk (show gb3 ≠ gb8 from by rw [hg]; exact Nat.ne_of_lt (blk_lt (o := .cells #[.slice A0_0 l0_0.length c0_0, .slice A0_1 l0_1.length c0_1, .int .i64 a0_2] 58 (0, 0)) (by (with_reducible repeat (first | refine blk_drewN ?_ _ | refine blk_drew ?_ | refine blk_alloc ?_ _)); exact BK3.out))); have NE_gb6_gb8 := Aside0.mk (show gb6 ≠ gb8 from by rw [hg]; exact Nat.ne_of_lt (blk_lt (o := .cells #[.slice none 0 0, .slice none 0 0, .int .i64 0] 58 (0, 0)) (by (with_reducible repeat (first | refine blk_drewN ?_ _ | refine blk_drew ?_ | refine blk_alloc ?_ _)); exact BK6.out))); have GE_gb8 := Aside0.mk (show w.heap.size ≤ gb8 from by rw [hg]; exact below_size (by repeat (first | (with_reducible first | exact HB.out | apply below_alloc | apply pw_below_drewN | apply below_drew1) | exact HB.out))); clear hg; have n_BK3 := Aside0.mk (blk_below (g := gb3) (o := .cells #[.slice A0_0 l0_0.length c0_0, .slice A0_1 l0_1.length c0_1, .int .i64 a0_2] 58 (0, 0)) (by (with_reducible repeat (first | refine blk_drewN ?_ _ | refine blk_drew ?_ | refine blk_alloc ?_ _)); exact BK3.out) hb); have n_BK6 := Aside0.mk (blk_below (g := gb6) (o := .cells #[.slice none 0 0, .slice none 0 0, .int .i64 0] 58 (0, 0)) (by (with_reducible repeat (first | refine blk_drewN ?_ _ | refine blk_drew ?_ | refine blk_alloc ?_ _)); exact BK6.out) hb); have n_HO0 := Aside0.mk (Kd.R_below (by (with_reducible repeat (first | apply Kd.R_alloc | apply Kd.R_drewN | apply Kd.R_drew)); exact HO0.out) hb); have n_HO1 := Aside0.mk (Kd.R_below (by (with_reducible repeat (first | apply Kd.R_alloc | apply Kd.R_drewN | apply Kd.R_drew)); exact HO1.out) hb); have n_HB := Aside0.mk (below_step (by repeat (first | (with_reducible first | exact HB.out | apply below_alloc | apply pw_below_drewN | apply below_drew1) | exact HB.out)) hb); clear bk3_0 bk3_1 bk3_2 bk3_f bk6_0 bk6_1 bk6_2 bk6_f; clear BK3 BK6 HO0 HO1 HB hb; have BK3 := n_BK3; have BK6 := n_BK6; have HO0 := n_HO0; have HO1 := n_HO1; have HB := n_HB; clear n_BK3 n_BK6 n_HO0 n_HO1 n_HB; have BK8 := Aside0.mk hbox; clear hbox; have bk3_0 := (blk_cell BK3.out 0).trans (show _ = some (.slice A0_0 l0_0.length c0_0) from rfl); have bk3_1 := (blk_cell BK3.out 1).trans (show _ = some (.slice A0_1 l0_1.length c0_1) from rfl); have bk3_2 := (blk_cell BK3.out 2).trans (show _ = some (.int .i64 a0_2) from rfl); have bk6_0 := (blk_cell BK6.out 0).trans (show _ = some (.slice none 0 0) from rfl); have bk6_1 := (blk_cell BK6.out 1).trans (show _ = some (.slice none 0 0) from rfl); have bk6_2 := (blk_cell BK6.out 2).trans (show _ = some (.int .i64 0) from rfl); have bk8_0 := (blk_cell BK8.out 0).trans (show _ = some (.slice none 0 0) from rfl); have bk8_1 := (blk_cell BK8.out 1).trans (show _ = some (.slice none 0 0) from rfl); have bk8_2 := (blk_cell BK8.out 2).trans (show _ = some (.int .i64 0) from rfl); have bk3_f := fun i => blk_frozen BK3.out i; have bk6_f := fun i => blk_frozen BK6.out i; have bk8_f := fun i => blk_frozen BK8.out i))
  clear bk3_0 bk3_1 bk3_2 bk3_f bk6_0 bk6_1 bk6_2 bk6_f bk8_0 bk8_1 bk8_2 bk8_f
  have s0_HO0 := Kd.R_set HO0.out BK8.out (by decide) 0 (.slice Ax l0_0.length cx)
  have s0_HO1 := Kd.R_set HO1.out BK8.out (by decide) 0 (.slice Ax l0_0.length cx)
  have s0_BK3 := blk_far BK3.out (p := ⟨gb8, 0, none⟩) NE_gb3_gb8.out (.slice Ax l0_0.length cx)
  have s0_BK6 := blk_far BK6.out (p := ⟨gb8, 0, none⟩) NE_gb6_gb8.out (.slice Ax l0_0.length cx)
  have s0_BK8 := blk_put (cs' := #[.slice Ax l0_0.length cx, .slice none 0 0, .int .i64 0]) BK8.out 0 (.slice Ax l0_0.length cx) rfl
  have s0_HB := below_set (j := 0) (v := .slice Ax l0_0.length cx) HB.out GE_gb8.out
  have s1_HO0 := Kd.R_set s0_HO0 s0_BK8 (by decide) 1 (.slice Ay l0_1.length cy)
  have s1_HO1 := Kd.R_set s0_HO1 s0_BK8 (by decide) 1 (.slice Ay l0_1.length cy)
  have s1_BK3 := blk_far s0_BK3 (p := ⟨gb8, 1, none⟩) NE_gb3_gb8.out (.slice Ay l0_1.length cy)
  have s1_BK6 := blk_far s0_BK6 (p := ⟨gb8, 1, none⟩) NE_gb6_gb8.out (.slice Ay l0_1.length cy)
  have s1_BK8 := blk_put (cs' := #[.slice Ax l0_0.length cx, .slice Ay l0_1.length cy, .int .i64 0]) s0_BK8 1 (.slice Ay l0_1.length cy) rfl
  have s1_HB := below_set (j := 1) (v := .slice Ay l0_1.length cy) s0_HB GE_gb8.out
  have s2_HO0 := Kd.R_set s1_HO0 s1_BK8 (by decide) 2 (.int .i64 a0_2)
  have s2_HO1 := Kd.R_set s1_HO1 s1_BK8 (by decide) 2 (.int .i64 a0_2)
  have s2_BK3 := blk_far s1_BK3 (p := ⟨gb8, 2, none⟩) NE_gb3_gb8.out (.int .i64 a0_2)
  have s2_BK6 := blk_far s1_BK6 (p := ⟨gb8, 2, none⟩) NE_gb6_gb8.out (.int .i64 a0_2)
  have s2_BK8 := blk_put (cs' := #[.slice Ax l0_0.length cx, .slice Ay l0_1.length cy, .int .i64 a0_2]) s1_BK8 2 (.int .i64 a0_2) rfl
  have s2_HB := below_set (j := 2) (v := .int .i64 a0_2) s1_HB GE_gb8.out
  have n_BK3 := Aside0.mk s2_BK3
  have n_BK6 := Aside0.mk s2_BK6
  have n_BK8 := Aside0.mk s2_BK8
  have n_HO0 := Aside0.mk s2_HO0
  have n_HO1 := Aside0.mk s2_HO1
  have n_HB := Aside0.mk s2_HB
  clear s0_BK3 s0_BK6 s0_BK8 s0_HO0 s0_HO1 s0_HB
  clear s1_BK3 s1_BK6 s1_BK8 s1_HO0 s1_HO1 s1_HB
  clear s2_BK3 s2_BK6 s2_BK8 s2_HO0 s2_HO1 s2_HB
  clear BK3 BK6 BK8 HO0 HO1 HB
  generalize (((w3.setCell ⟨gb8, 0, none⟩ (.slice Ax l0_0.length cx)).setCell ⟨gb8, 1, none⟩ (.slice Ay l0_1.length cy)).setCell ⟨gb8, 2, none⟩ (.int .i64 a0_2)) = w9 at n_BK3 n_BK6 n_BK8 n_HO0 n_HO1 n_HB ⊢
  have BK3 := n_BK3
  have BK6 := n_BK6
  have BK8 := n_BK8
  have HO0 := n_HO0
  have HO1 := n_HO1
  have HB := n_HB
  clear n_BK3 n_BK6 n_BK8 n_HO0 n_HO1 n_HB
  have bk3_0 := (blk_cell BK3.out 0).trans (show _ = some (.slice A0_0 l0_0.length c0_0) from rfl); have bk3_1 := (blk_cell BK3.out 1).trans (show _ = some (.slice A0_1 l0_1.length c0_1) from rfl); have bk3_2 := (blk_cell BK3.out 2).trans (show _ = some (.int .i64 a0_2) from rfl); have bk6_0 := (blk_cell BK6.out 0).trans (show _ = some (.slice none 0 0) from rfl); have bk6_1 := (blk_cell BK6.out 1).trans (show _ = some (.slice none 0 0) from rfl); have bk6_2 := (blk_cell BK6.out 2).trans (show _ = some (.int .i64 0) from rfl); have bk8_0 := (blk_cell BK8.out 0).trans (show _ = some (.slice Ax l0_0.length cx) from rfl); have bk8_1 := (blk_cell BK8.out 1).trans (show _ = some (.slice Ay l0_1.length cy) from rfl); have bk8_2 := (blk_cell BK8.out 2).trans (show _ = some (.int .i64 a0_2) from rfl); have bk3_f := fun i => blk_frozen BK3.out i; have bk6_f := fun i => blk_frozen BK6.out i; have bk8_f := fun i => blk_frozen BK8.out i
  by_cases hE : a0_2 > 0 ∨ a1 < 1 ∨ a1 > l0_0.length
  · have H := HH.out
    rw [if_pos hE] at H
    simp only [Option.some.injEq, Prod.mk.injEq] at H
    obtain ⟨rfl, rfl, rfl, rfl⟩ := H
    clear HH
    by_cases g1 : a0_2 > 0
    · have d1 : decide (0 < a0_2) = true := decide_eq_true g1
      clear g1 hE
      go_wp2
      clear bk3_0 bk3_1 bk3_2 bk3_f bk6_0 bk6_1 bk6_2 bk6_f bk8_0 bk8_1 bk8_2 bk8_f
      have s0_HO0 := Kd.R_set HO0.out BK6.out (by decide) 0 (.slice Ax l0_0.length cx)
      have s0_HO1 := Kd.R_set HO1.out BK6.out (by decide) 0 (.slice Ax l0_0.length cx)
      have s0_BK3 := blk_far BK3.out (p := ⟨gb6, 0, none⟩) NE_gb3_gb6.out (.slice Ax l0_0.length cx)
      have s0_BK6 := blk_put (cs' := #[.slice Ax l0_0.length cx, .slice none 0 0, .int .i64 0]) BK6.out 0 (.slice Ax l0_0.length cx) rfl
      have s0_BK8 := blk_far BK8.out (p := ⟨gb6, 0, none⟩) (Ne.symm NE_gb6_gb8.out) (.slice Ax l0_0.length cx)
      have s0_HB := below_set (j := 0) (v := .slice Ax l0_0.length cx) HB.out GE_gb6.out
      have s1_HO0 := Kd.R_set s0_HO0 s0_BK6 (by decide) 1 (.slice Ay l0_1.length cy)
      have s1_HO1 := Kd.R_set s0_HO1 s0_BK6 (by decide) 1 (.slice Ay l0_1.length cy)
      have s1_BK3 := blk_far s0_BK3 (p := ⟨gb6, 1, none⟩) NE_gb3_gb6.out (.slice Ay l0_1.length cy)
      have s1_BK6 := blk_put (cs' := #[.slice Ax l0_0.length cx, .slice Ay l0_1.length cy, .int .i64 0]) s0_BK6 1 (.slice Ay l0_1.length cy) rfl
      have s1_BK8 := blk_far s0_BK8 (p := ⟨gb6, 1, none⟩) (Ne.symm NE_gb6_gb8.out) (.slice Ay l0_1.length cy)
      have s1_HB := below_set (j := 1) (v := .slice Ay l0_1.length cy) s0_HB GE_gb6.out
      have s2_HO0 := Kd.R_set s1_HO0 s1_BK6 (by decide) 2 (.int .i64 a0_2)
      have s2_HO1 := Kd.R_set s1_HO1 s1_BK6 (by decide) 2 (.int .i64 a0_2)
      have s2_BK3 := blk_far s1_BK3 (p := ⟨gb6, 2, none⟩) NE_gb3_gb6.out (.int .i64 a0_2)
      have s2_BK6 := blk_put (cs' := #[.slice Ax l0_0.length cx, .slice Ay l0_1.length cy, .int .i64 a0_2]) s1_BK6 2 (.int .i64 a0_2) rfl
      have s2_BK8 := blk_far s1_BK8 (p := ⟨gb6, 2, none⟩) (Ne.symm NE_gb6_gb8.out) (.int .i64 a0_2)
      have s2_HB := below_set (j := 2) (v := .int .i64 a0_2) s1_HB GE_gb6.out
      have n_BK3 := Aside0.mk s2_BK3
      have n_BK6 := Aside0.mk s2_BK6
      have n_BK8 := Aside0.mk s2_BK8
      have n_HO0 := Aside0.mk s2_HO0
      have n_HO1 := Aside0.mk s2_HO1
      have n_HB := Aside0.mk s2_HB
      clear s0_BK3 s0_BK6 s0_BK8 s0_HO0 s0_HO1 s0_HB
      clear s1_BK3 s1_BK6 s1_BK8 s1_HO0 s1_HO1 s1_HB
      clear s2_BK3 s2_BK6 s2_BK8 s2_HO0 s2_HO1 s2_HB
      clear BK3 BK6 BK8 HO0 HO1 HB
      generalize (((w9.setCell ⟨gb6, 0, none⟩ (.slice Ax l0_0.length cx)).setCell ⟨gb6, 1, none⟩ (.slice Ay l0_1.length cy)).setCell ⟨gb6, 2, none⟩ (.int .i64 a0_2)) = w10 at n_BK3 n_BK6 n_BK8 n_HO0 n_HO1 n_HB ⊢
      have BK3 := n_BK3
      have BK6 := n_BK6
      have BK8 := n_BK8
      have HO0 := n_HO0
      have HO1 := n_HO1
      have HB := n_HB
      clear n_BK3 n_BK6 n_BK8 n_HO0 n_HO1 n_HB
      have bk3_0 := (blk_cell BK3.out 0).trans (show _ = some (.slice A0_0 l0_0.length c0_0) from rfl); have bk3_1 := (blk_cell BK3.out 1).trans (show _ = some (.slice A0_1 l0_1.length c0_1) from rfl); have bk3_2 := (blk_cell BK3.out 2).trans (show _ = some (.int .i64 a0_2) from rfl); have bk6_0 := (blk_cell BK6.out 0).trans (show _ = some (.slice Ax l0_0.length cx) from rfl); have bk6_1 := (blk_cell BK6.out 1).trans (show _ = some (.slice Ay l0_1.length cy) from rfl); have bk6_2 := (blk_cell BK6.out 2).trans (show _ = some (.int .i64 a0_2) from rfl); have bk8_0 := (blk_cell BK8.out 0).trans (show _ = some (.slice Ax l0_0.length cx) from rfl); have bk8_1 := (blk_cell BK8.out 1).trans (show _ = some (.slice Ay l0_1.length cy) from rfl); have bk8_2 := (blk_cell BK8.out 2).trans (show _ = some (.int .i64 a0_2) from rfl); have bk3_f := fun i => blk_frozen BK3.out i; have bk6_f := fun i => blk_frozen BK6.out i; have bk8_f := fun i => blk_frozen BK8.out i
      refine bodyPost_ret (results_ct rfl _ _ gb6 58 #[.slice Ax l0_0.length cx, .slice Ay l0_1.length cy, .int .i64 a0_2] (0, 0) _ rfl BK6.out Try.underlying58 rfl (by kernel_rfl)) rfl ?_
      exact ⟨_, _, rfl, Kd.R_reok rfl HO0.out (ap0 HAP.out), Kd.R_reok rfl HO1.out (ap1 HAP.out), HB.out⟩
    · have d1 : decide (0 < a0_2) = false := decide_eq_false g1
      by_cases g2 : a1 < 1
      · have d2 : decide (a1 < 1) = true := decide_eq_true g2
        clear g1 g2 hE
        go_wp2
        clear bk3_0 bk3_1 bk3_2 bk3_f bk6_0 bk6_1 bk6_2 bk6_f bk8_0 bk8_1 bk8_2 bk8_f
        have s0_HO0 := Kd.R_set HO0.out BK6.out (by decide) 0 (.slice Ax l0_0.length cx)
        have s0_HO1 := Kd.R_set HO1.out BK6.out (by decide) 0 (.slice Ax l0_0.length cx)
        have s0_BK3 := blk_far BK3.out (p := ⟨gb6, 0, none⟩) NE_gb3_gb6.out (.slice Ax l0_0.length cx)
        have s0_BK6 := blk_put (cs' := #[.slice Ax l0_0.length cx, .slice none 0 0, .int .i64 0]) BK6.out 0 (.slice Ax l0_0.length cx) rfl
        have s0_BK8 := blk_far BK8.out (p := ⟨gb6, 0, none⟩) (Ne.symm NE_gb6_gb8.out) (.slice Ax l0_0.length cx)
        have s0_HB := below_set (j := 0) (v := .slice Ax l0_0.length cx) HB.out GE_gb6.out
        have s1_HO0 := Kd.R_set s0_HO0 s0_BK6 (by decide) 1 (.slice Ay l0_1.length cy)
        have s1_HO1 := Kd.R_set s0_HO1 s0_BK6 (by decide) 1 (.slice Ay l0_1.length cy)
        have s1_BK3 := blk_far s0_BK3 (p := ⟨gb6, 1, none⟩) NE_gb3_gb6.out (.slice Ay l0_1.length cy)
        have s1_BK6 := blk_put (cs' := #[.slice Ax l0_0.length cx, .slice Ay l0_1.length cy, .int .i64 0]) s0_BK6 1 (.slice Ay l0_1.length cy) rfl
        have s1_BK8 := blk_far s0_BK8 (p := ⟨gb6, 1, none⟩) (Ne.symm NE_gb6_gb8.out) (.slice Ay l0_1.length cy)
        have s1_HB := below_set (j := 1) (v := .slice Ay l0_1.length cy) s0_HB GE_gb6.out
        have s2_HO0 := Kd.R_set s1_HO0 s1_BK6 (by decide) 2 (.int .i64 a0_2)
        have s2_HO1 := Kd.R_set s1_HO1 s1_BK6 (by decide) 2 (.int .i64 a0_2)
        have s2_BK3 := blk_far s1_BK3 (p := ⟨gb6, 2, none⟩) NE_gb3_gb6.out (.int .i64 a0_2)
        have s2_BK6 := blk_put (cs' := #[.slice Ax l0_0.length cx, .slice Ay l0_1.length cy, .int .i64 a0_2]) s1_BK6 2 (.int .i64 a0_2) rfl
        have s2_BK8 := blk_far s1_BK8 (p := ⟨gb6, 2, none⟩) (Ne.symm NE_gb6_gb8.out) (.int .i64 a0_2)
        have s2_HB := below_set (j := 2) (v := .int .i64 a0_2) s1_HB GE_gb6.out
        have n_BK3 := Aside0.mk s2_BK3
        have n_BK6 := Aside0.mk s2_BK6
        have n_BK8 := Aside0.mk s2_BK8
        have n_HO0 := Aside0.mk s2_HO0
        have n_HO1 := Aside0.mk s2_HO1
        have n_HB := Aside0.mk s2_HB
        clear s0_BK3 s0_BK6 s0_BK8 s0_HO0 s0_HO1 s0_HB
        clear s1_BK3 s1_BK6 s1_BK8 s1_HO0 s1_HO1 s1_HB
        clear s2_BK3 s2_BK6 s2_BK8 s2_HO0 s2_HO1 s2_HB
        clear BK3 BK6 BK8 HO0 HO1 HB
        generalize (((w9.setCell ⟨gb6, 0, none⟩ (.slice Ax l0_0.length cx)).setCell ⟨gb6, 1, none⟩ (.slice Ay l0_1.length cy)).setCell ⟨gb6, 2, none⟩ (.int .i64 a0_2)) = w10 at n_BK3 n_BK6 n_BK8 n_HO0 n_HO1 n_HB ⊢
        have BK3 := n_BK3
        have BK6 := n_BK6
        have BK8 := n_BK8
        have HO0 := n_HO0
        have HO1 := n_HO1
        have HB := n_HB
        clear n_BK3 n_BK6 n_BK8 n_HO0 n_HO1 n_HB
        have bk3_0 := (blk_cell BK3.out 0).trans (show _ = some (.slice A0_0 l0_0.length c0_0) from rfl); have bk3_1 := (blk_cell BK3.out 1).trans (show _ = some (.slice A0_1 l0_1.length c0_1) from rfl); have bk3_2 := (blk_cell BK3.out 2).trans (show _ = some (.int .i64 a0_2) from rfl); have bk6_0 := (blk_cell BK6.out 0).trans (show _ = some (.slice Ax l0_0.length cx) from rfl); have bk6_1 := (blk_cell BK6.out 1).trans (show _ = some (.slice Ay l0_1.length cy) from rfl); have bk6_2 := (blk_cell BK6.out 2).trans (show _ = some (.int .i64 a0_2) from rfl); have bk8_0 := (blk_cell BK8.out 0).trans (show _ = some (.slice Ax l0_0.length cx) from rfl); have bk8_1 := (blk_cell BK8.out 1).trans (show _ = some (.slice Ay l0_1.length cy) from rfl); have bk8_2 := (blk_cell BK8.out 2).trans (show _ = some (.int .i64 a0_2) from rfl); have bk3_f := fun i => blk_frozen BK3.out i; have bk6_f := fun i => blk_frozen BK6.out i; have bk8_f := fun i => blk_frozen BK8.out i
        refine bodyPost_ret (results_ct rfl _ _ gb6 58 #[.slice Ax l0_0.length cx, .slice Ay l0_1.length cy, .int .i64 a0_2] (0, 0) _ rfl BK6.out Try.underlying58 rfl (by kernel_rfl)) rfl ?_
        exact ⟨_, _, rfl, Kd.R_reok rfl HO0.out (ap0 HAP.out), Kd.R_reok rfl HO1.out (ap1 HAP.out), HB.out⟩
      · have d2 : decide (a1 < 1) = false := decide_eq_false g2
        have g3 : (l0_0.length : Int) < a1 := by omega
        have d3 : decide ((l0_0.length : Int) < a1) = true := decide_eq_true g3
        clear g1 g2 g3 hE
        go_wp2
        clear bk3_0 bk3_1 bk3_2 bk3_f bk6_0 bk6_1 bk6_2 bk6_f bk8_0 bk8_1 bk8_2 bk8_f
        have s0_HO0 := Kd.R_set HO0.out BK6.out (by decide) 0 (.slice Ax l0_0.length cx)
        have s0_HO1 := Kd.R_set HO1.out BK6.out (by decide) 0 (.slice Ax l0_0.length cx)
        have s0_BK3 := blk_far BK3.out (p := ⟨gb6, 0, none⟩) NE_gb3_gb6.out (.slice Ax l0_0.length cx)
        have s0_BK6 := blk_put (cs' := #[.slice Ax l0_0.length cx, .slice none 0 0, .int .i64 0]) BK6.out 0 (.slice Ax l0_0.length cx) rfl
        have s0_BK8 := blk_far BK8.out (p := ⟨gb6, 0, none⟩) (Ne.symm NE_gb6_gb8.out) (.slice Ax l0_0.length cx)
        have s0_HB := below_set (j := 0) (v := .slice Ax l0_0.length cx) HB.out GE_gb6.out
        have s1_HO0 := Kd.R_set s0_HO0 s0_BK6 (by decide) 1 (.slice Ay l0_1.length cy)
        have s1_HO1 := Kd.R_set s0_HO1 s0_BK6 (by decide) 1 (.slice Ay l0_1.length cy)
        have s1_BK3 := blk_far s0_BK3 (p := ⟨gb6, 1, none⟩) NE_gb3_gb6.out (.slice Ay l0_1.length cy)
        have s1_BK6 := blk_put (cs' := #[.slice Ax l0_0.length cx, .slice Ay l0_1.length cy, .int .i64 0]) s0_BK6 1 (.slice Ay l0_1.length cy) rfl
        have s1_BK8 := blk_far s0_BK8 (p := ⟨gb6, 1, none⟩) (Ne.symm NE_gb6_gb8.out) (.slice Ay l0_1.length cy)
        have s1_HB := below_set (j := 1) (v := .slice Ay l0_1.length cy) s0_HB GE_gb6.out
        have s2_HO0 := Kd.R_set s1_HO0 s1_BK6 (by decide) 2 (.int .i64 a0_2)
        have s2_HO1 := Kd.R_set s1_HO1 s1_BK6 (by decide) 2 (.int .i64 a0_2)
        have s2_BK3 := blk_far s1_BK3 (p := ⟨gb6, 2, none⟩) NE_gb3_gb6.out (.int .i64 a0_2)
        have s2_BK6 := blk_put (cs' := #[.slice Ax l0_0.length cx, .slice Ay l0_1.length cy, .int .i64 a0_2]) s1_BK6 2 (.int .i64 a0_2) rfl
        have s2_BK8 := blk_far s1_BK8 (p := ⟨gb6, 2, none⟩) (Ne.symm NE_gb6_gb8.out) (.int .i64 a0_2)
        have s2_HB := below_set (j := 2) (v := .int .i64 a0_2) s1_HB GE_gb6.out
        have n_BK3 := Aside0.mk s2_BK3
        have n_BK6 := Aside0.mk s2_BK6
        have n_BK8 := Aside0.mk s2_BK8
        have n_HO0 := Aside0.mk s2_HO0
        have n_HO1 := Aside0.mk s2_HO1
        have n_HB := Aside0.mk s2_HB
        clear s0_BK3 s0_BK6 s0_BK8 s0_HO0 s0_HO1 s0_HB
        clear s1_BK3 s1_BK6 s1_BK8 s1_HO0 s1_HO1 s1_HB
        clear s2_BK3 s2_BK6 s2_BK8 s2_HO0 s2_HO1 s2_HB
        clear BK3 BK6 BK8 HO0 HO1 HB
        generalize (((w9.setCell ⟨gb6, 0, none⟩ (.slice Ax l0_0.length cx)).setCell ⟨gb6, 1, none⟩ (.slice Ay l0_1.length cy)).setCell ⟨gb6, 2, none⟩ (.int .i64 a0_2)) = w10 at n_BK3 n_BK6 n_BK8 n_HO0 n_HO1 n_HB ⊢
        have BK3 := n_BK3
        have BK6 := n_BK6
        have BK8 := n_BK8
        have HO0 := n_HO0
        have HO1 := n_HO1
        have HB := n_HB
        clear n_BK3 n_BK6 n_BK8 n_HO0 n_HO1 n_HB
        have bk3_0 := (blk_cell BK3.out 0).trans (show _ = some (.slice A0_0 l0_0.length c0_0) from rfl); have bk3_1 := (blk_cell BK3.out 1).trans (show _ = some (.slice A0_1 l0_1.length c0_1) from rfl); have bk3_2 := (blk_cell BK3.out 2).trans (show _ = some (.int .i64 a0_2) from rfl); have bk6_0 := (blk_cell BK6.out 0).trans (show _ = some (.slice Ax l0_0.length cx) from rfl); have bk6_1 := (blk_cell BK6.out 1).trans (show _ = some (.slice Ay l0_1.length cy) from rfl); have bk6_2 := (blk_cell BK6.out 2).trans (show _ = some (.int .i64 a0_2) from rfl); have bk8_0 := (blk_cell BK8.out 0).trans (show _ = some (.slice Ax l0_0.length cx) from rfl); have bk8_1 := (blk_cell BK8.out 1).trans (show _ = some (.slice Ay l0_1.length cy) from rfl); have bk8_2 := (blk_cell BK8.out 2).trans (show _ = some (.int .i64 a0_2) from rfl); have bk3_f := fun i => blk_frozen BK3.out i; have bk6_f := fun i => blk_frozen BK6.out i; have bk8_f := fun i => blk_frozen BK8.out i
        refine bodyPost_ret (results_ct rfl _ _ gb6 58 #[.slice Ax l0_0.length cx, .slice Ay l0_1.length cy, .int .i64 a0_2] (0, 0) _ rfl BK6.out Try.underlying58 rfl (by kernel_rfl)) rfl ?_
        exact ⟨_, _, rfl, Kd.R_reok rfl HO0.out (ap0 HAP.out), Kd.R_reok rfl HO1.out (ap1 HAP.out), HB.out⟩
  · have H := HH.out
    rw [if_neg hE] at H
    simp only [Option.some.injEq, Prod.mk.injEq] at H
    obtain ⟨rfl, rfl, rfl, rfl⟩ := H
    obtain ⟨n, rfl⟩ : ∃ n : Nat, a1 = (n : Int) := ⟨a1.toNat, by omega⟩
    have hn1 : 1 ≤ n := by omega
    have hnl : n ≤ l0_0.length := by omega
    have d1 : decide (0 < a0_2) = false := decide_eq_false (by omega)
    have d2 : decide ((n : Int) < 1) = false := decide_eq_false (by omega)
    have d3 : decide ((l0_0.length : Int) < (n : Int)) = false := decide_eq_false (by omega)
    clear hE HH
    obtain ⟨gx, cap, ex, hgx, _, cells, hcell⟩ := Kd.R_form HO0.out (by omega)
    simp only [Value.slice.injEq, true_and] at ex
    obtain ⟨rfl, rfl⟩ := ex
    have N6 : Aside0 (gb6 ≠ gx) := ⟨blk_ne BK6.out hcell (by decide)⟩
    have N8 : Aside0 (gb8 ≠ gx) := ⟨blk_ne BK8.out hcell (by decide)⟩
    clear hcell
    obtain ⟨i65, hi65, _⟩ := Option.map_eq_some_iff.1 info65
    have hcut := cut_to (P := Try.prog) 56 65 .i64 Try.underlying56 hi65 (some ⟨gx, 0, none⟩) l0_0.length cx (n : Int) (by omega) (by omega) (Kd.R_reads' HO0.out).2.1
    rw [Int.toNat_natCast] at hcut
    clear hi65
    go_wp2
    clear hcut d1 d2 d3
    clear bk3_0 bk3_1 bk3_2 bk3_f bk6_0 bk6_1 bk6_2 bk6_f bk8_0 bk8_1 bk8_2 bk8_f
    go_loopw [2, 34] (fun v2 v34 wr => ∃ i : Nat, i ≤ n ∧ v34 = .int .i64 i ∧ v2 = .int .u64 (giveL i a2 l0_0).2 ∧ Aside0 (wr.heap[gb6]? = some (.cells #[.slice none 0 0, .slice none 0 0, .int .i64 0] 58 (0, 0))) ∧ Aside0 (wr.heap[gb8]? = some (.cells #[.slice (some ⟨gx, 0, none⟩) l0_0.length cx, .slice Ay l0_1.length cy, .int .i64 a0_2] 58 (0, 0))) ∧ Aside0 (Kd.R k65 65 wr w.heap.size (fun _ => True) (.slice (some ⟨gx, 0, none⟩) l0_0.length cx) (giveL i a2 l0_0).1) ∧ Aside0 (Kd.R k65 65 wr w.heap.size (fun _ => True) (.slice Ay l0_1.length cy) l0_1) ∧ Aside0 (Below w.heap.size w wr)) (fun v2 v34 _ => n - (intOf v34).toNat)
    case atStart => exact ⟨0, Nat.zero_le _, rfl, rfl, BK6, BK8, HO0, HO1, HB⟩
    case round =>
      clear BK3 BK6 BK8 HO0 HO1 HB
      obtain ⟨i, hi, rfl, rfl, BK6, BK8, HO0, HO1, HB⟩ := hrel
      have bk6_0 := (blk_cell BK6.out 0).trans (show _ = some (.slice none 0 0) from rfl); have bk6_1 := (blk_cell BK6.out 1).trans (show _ = some (.slice none 0 0) from rfl); have bk6_2 := (blk_cell BK6.out 2).trans (show _ = some (.int .i64 0) from rfl); have bk8_0 := (blk_cell BK8.out 0).trans (show _ = some (.slice (some ⟨gx, 0, none⟩) l0_0.length cx) from rfl); have bk8_1 := (blk_cell BK8.out 1).trans (show _ = some (.slice Ay l0_1.length cy) from rfl); have bk8_2 := (blk_cell BK8.out 2).trans (show _ = some (.int .i64 a0_2) from rfl); have bk6_f := fun i => blk_frozen BK6.out i; have bk8_f := fun i => blk_frozen BK8.out i
      by_cases hlt : i < n
      · obtain ⟨gs1, gs2, gs3⟩ := giveL_succ l0_0 i a2 (by omega)
        rw [← gs1] at gs2 gs3
        have GS2 := Aside0.mk gs2
        have GS3 := Aside0.mk gs3
        clear gs1 gs2 gs3
        have hxl := giveL_len i a2 l0_0
        generalize (giveL i a2 l0_0).1 = xs at HO0 GS2 GS3 hxl
        generalize (giveL i a2 l0_0).2 = last at GS2 GS3
        have hfz := (elem65 HO0.out i (by omega)).2 3
        have hc3 := (elem65 HO0.out i (by omega)).1 3 _ rfl
        go_upto_region 9 with (fail)
        have hp := put65 HO0.out i (by omega) 3 (by omega) (.int .u64 ((last + 1) % 18446744073709551616)) { xs.getD i z65 with f3 := (last + 1) % 18446744073709551616 } rfl
        have n_HO0 := Aside0.mk hp.1
        have n_HO1 := Aside0.mk (Kd.R_grown1 HO1.out rfl hp.2 (by intro e; rcases HAP.out with h | h <;> first | exact h e | (simp [Value.ownBlock] at h)))
        have n_BK6 := Aside0.mk (blk_grown BK6.out hp.2 (by intro e; exact N6.out (Option.some.inj e)))
        have n_BK8 := Aside0.mk (blk_grown BK8.out hp.2 (by intro e; exact N8.out (Option.some.inj e)))
        have n_HB := Aside0.mk (below_set (j := i * 6 + 3) (v := .int .u64 ((last + 1) % 18446744073709551616)) HB.out hgx)
        clear hfz hc3 hp HO0 HO1 BK6 BK8 HB
        clear bk6_0 bk6_1 bk6_2 bk6_f bk8_0 bk8_1 bk8_2 bk8_f
        rw [u64w]
        generalize (wr.setCell ⟨gx, i * 6 + 3, none⟩ (.int .u64 ((last + 1) % 18446744073709551616))) = w11 at n_HO0 n_HO1 n_BK6 n_BK8 n_HB ⊢
        have hc1 := (elem65 n_HO0.out i (by omega)).1 1 _ rfl
        rw [getD_set65 _ _ _ (by omega)] at hc1
        go_wp2
        go_roundw
        case rel => exact ⟨i + 1, by omega, by go_num, by rw [GS3.out]; simp only [u64w, List.getD_eq_getElem?_getD], n_BK6, n_BK8, by rw [GS2.out]; exact n_HO0, n_HO1, n_HB⟩
        case measure => simp [intOf]; omega
      · obtain rfl : i = n := by omega
        have ne68 := NE_gb6_gb8.out
        have ne86 := Ne.symm NE_gb6_gb8.out
        go_wp2
        clear ne68 ne86
        clear bk6_0 bk6_1 bk6_2 bk6_f bk8_0 bk8_1 bk8_2 bk8_f
        have s0_HO0 := Kd.R_set HO0.out BK8.out (by decide) 2 (.int .i64 i)
        have s0_HO1 := Kd.R_set HO1.out BK8.out (by decide) 2 (.int .i64 i)
        have s0_BK6 := blk_far BK6.out (p := ⟨gb8, 2, none⟩) NE_gb6_gb8.out (.int .i64 i)
        have s0_BK8 := blk_put (cs' := #[.slice (some ⟨gx, 0, none⟩) l0_0.length cx, .slice Ay l0_1.length cy, .int .i64 i]) BK8.out 2 (.int .i64 i) rfl
        have s0_HB := below_set (j := 2) (v := .int .i64 i) HB.out GE_gb8.out
        have s1_HO0 := Kd.R_set s0_HO0 s0_BK6 (by decide) 0 (.slice (some ⟨gx, 0, none⟩) l0_0.length cx)
        have s1_HO1 := Kd.R_set s0_HO1 s0_BK6 (by decide) 0 (.slice (some ⟨gx, 0, none⟩) l0_0.length cx)
        have s1_BK6 := blk_put (cs' := #[.slice (some ⟨gx, 0, none⟩) l0_0.length cx, .slice none 0 0, .int .i64 0]) s0_BK6 0 (.slice (some ⟨gx, 0, none⟩) l0_0.length cx) rfl
        have s1_BK8 := blk_far s0_BK8 (p := ⟨gb6, 0, none⟩) (Ne.symm NE_gb6_gb8.out) (.slice (some ⟨gx, 0, none⟩) l0_0.length cx)
        have s1_HB := below_set (j := 0) (v := .slice (some ⟨gx, 0, none⟩) l0_0.length cx) s0_HB GE_gb6.out
        have s2_HO0 := Kd.R_set s1_HO0 s1_BK6 (by decide) 1 (.slice Ay l0_1.length cy)
        have s2_HO1 := Kd.R_set s1_HO1 s1_BK6 (by decide) 1 (.slice Ay l0_1.length cy)
        have s2_BK6 := blk_put (cs' := #[.slice (some ⟨gx, 0, none⟩) l0_0.length cx, .slice Ay l0_1.length cy, .int .i64 0]) s1_BK6 1 (.slice Ay l0_1.length cy) rfl
        have s2_BK8 := blk_far s1_BK8 (p := ⟨gb6, 1, none⟩) (Ne.symm NE_gb6_gb8.out) (.slice Ay l0_1.length cy)
        have s2_HB := below_set (j := 1) (v := .slice Ay l0_1.length cy) s1_HB GE_gb6.out
        have s3_HO0 := Kd.R_set s2_HO0 s2_BK6 (by decide) 2 (.int .i64 i)
        have s3_HO1 := Kd.R_set s2_HO1 s2_BK6 (by decide) 2 (.int .i64 i)
        have s3_BK6 := blk_put (cs' := #[.slice (some ⟨gx, 0, none⟩) l0_0.length cx, .slice Ay l0_1.length cy, .int .i64 i]) s2_BK6 2 (.int .i64 i) rfl
        have s3_BK8 := blk_far s2_BK8 (p := ⟨gb6, 2, none⟩) (Ne.symm NE_gb6_gb8.out) (.int .i64 i)
        have s3_HB := below_set (j := 2) (v := .int .i64 i) s2_HB GE_gb6.out
        have n_BK6 := Aside0.mk s3_BK6
        have n_BK8 := Aside0.mk s3_BK8
        have n_HO0 := Aside0.mk s3_HO0
        have n_HO1 := Aside0.mk s3_HO1
        have n_HB := Aside0.mk s3_HB
        clear s0_BK6 s0_BK8 s0_HO0 s0_HO1 s0_HB
        clear s1_BK6 s1_BK8 s1_HO0 s1_HO1 s1_HB
        clear s2_BK6 s2_BK8 s2_HO0 s2_HO1 s2_HB
        clear s3_BK6 s3_BK8 s3_HO0 s3_HO1 s3_HB
        clear BK6 BK8 HO0 HO1 HB
        generalize ((((wr.setCell ⟨gb8, 2, none⟩ (.int .i64 i)).setCell ⟨gb6, 0, none⟩ (.slice (some ⟨gx, 0, none⟩) l0_0.length cx)).setCell ⟨gb6, 1, none⟩ (.slice Ay l0_1.length cy)).setCell ⟨gb6, 2, none⟩ (.int .i64 i)) = w12 at n_BK6 n_BK8 n_HO0 n_HO1 n_HB ⊢
        have BK6 := n_BK6
        have BK8 := n_BK8
        have HO0 := n_HO0
        have HO1 := n_HO1
        have HB := n_HB
        clear n_BK6 n_BK8 n_HO0 n_HO1 n_HB
        have bk6_0 := (blk_cell BK6.out 0).trans (show _ = some (.slice (some ⟨gx, 0, none⟩) l0_0.length cx) from rfl); have bk6_1 := (blk_cell BK6.out 1).trans (show _ = some (.slice Ay l0_1.length cy) from rfl); have bk6_2 := (blk_cell BK6.out 2).trans (show _ = some (.int .i64 i) from rfl); have bk8_0 := (blk_cell BK8.out 0).trans (show _ = some (.slice (some ⟨gx, 0, none⟩) l0_0.length cx) from rfl); have bk8_1 := (blk_cell BK8.out 1).trans (show _ = some (.slice Ay l0_1.length cy) from rfl); have bk8_2 := (blk_cell BK8.out 2).trans (show _ = some (.int .i64 i) from rfl); have bk6_f := fun i => blk_frozen BK6.out i; have bk8_f := fun i => blk_frozen BK8.out i
        refine bodyPost_ret (results_ct rfl _ _ gb6 58 #[.slice (some ⟨gx, 0, none⟩) l0_0.length cx, .slice Ay l0_1.length cy, .int .i64 i] (0, 0) _ rfl BK6.out Try.underlying58 rfl (by kernel_rfl)) rfl ?_
        exact ⟨_, _, by first | rfl | (rw [giveL_len]; rfl) | (simp; done), Kd.R_reok rfl HO0.out (ap0 HAP.out), Kd.R_reok rfl HO1.out (ap1 HAP.out), HB.out⟩

-- NOT PRINTED: function 80 (api_Member_80)

/-! ### queue_at: function 70 -/
/-- Where the task stands; -1: nowhere. -/
def atIdx (task : Int) : List S65 → Int → Int
  | [], _ => -1
  | m :: ms, i => if m.f0 = task then i else atIdx task ms (i + 1)
def queue_at.f (l0 : List (S65)) (a1 : Int) : Option Int := some (atIdx a1 l0 0)

theorem at1 (x : S65) (task : Int) (g : Nat) (w : World) (hg : w.heap[g]? = some (.cells #[.int .i64 task] 3 (0, 0))) :
    Calls Try.prog 81 #[.agg #[.int .i64 x.f0, .int .i64 x.f1, .int .u64 x.f2, .int .u64 x.f3, .int .u8 x.f4, .int .i64 x.f5], .pointer (some ⟨g, 0, none⟩)] w fun e w' => e = .returned (.bool (decide (x.f0 = task))) ∧ Below w.heap.size w w' := by
  have f0 : w.cell? ⟨g, 0, none⟩ = some (.int .i64 task) := (blk_cell hg 0).trans rfl
  have f1 : ∀ o, (w.alloc o).cell? ⟨g, 0, none⟩ = some (.int .i64 task) := fun o => ((below_alloc (Below.refl _ _) o).cell (World.block_lt_of_cell? w _ f0)).trans f0
  clear hg
  go_enter Try.func81, Try.ntmps81
  go_wp2
  all_goals (go_ret; exact ⟨by first | rfl | (simp [*]; done) | (simp [*]; rfl), below_alloc (Below.refl _ _) _⟩)

set_option maxHeartbeats 4000000 in
set_option maxRecDepth 100000 in
theorem at2 (A0 : Option Addr) (c0 : Nat) (l0 : List S65) (task : Int) (g : Nat) (w : World) (hr0 : Kd.C k65 w A0 l0.length l0) (hg : w.heap[g]? = some (.cells #[.int .i64 task] 3 (0, 0))) :
    Calls Try.prog 80 #[.slice A0 l0.length c0, .func (.func 81) #[] #[.pointer (some ⟨g, 0, none⟩)]] w fun e w' => e = .returned (.int .i64 (atIdx task l0 0)) ∧ Below w.heap.size w w' := by
  have HR0 := Aside0.mk hr0
  have HG := Aside0.mk hg
  have hl0 : l0.length ≤ 9223372036854775807 := hr0.2.1
  clear hr0 hg
  go_enter Try.func80, Try.ntmps80
  go_wp2_with fail
  go_loopw [8] (fun v8 wr => ∃ i : Nat, i ≤ l0.length ∧ v8 = .int .i64 i ∧ Aside0 (atIdx task (l0.drop i) i = atIdx task l0 0) ∧ Aside0 (Below w.heap.size w wr)) (fun v8 _ => l0.length - (intOf v8).toNat)
  case atStart => exact ⟨0, Nat.zero_le _, rfl, ⟨rfl⟩, ⟨Below.refl _ _⟩⟩
  case round =>
    obtain ⟨i, hi, rfl, HA, HB⟩ := hrel
    by_cases hlt : i < l0.length
    · have H := HA.out
      rw [drop_cons z65 l0 i hlt] at H
      obtain ⟨ad, e0, hx0, hx1, hx2, hx3, hx4, hx5⟩ := at_T65 (Kd.C_below HR0.out HB.out) (i : Int) (by omega) (by omega)
      subst e0
      simp only [rd65_nat, Int.toNat_natCast] at hx0 hx1 hx2 hx3 hx4 hx5
      simp only [atIdx] at H
      generalize l0.getD i z65 = x at hx0 hx1 hx2 hx3 hx4 hx5 H
      by_cases hc : x.f0 = task
      · rw [if_pos hc] at H
        have hcb : decide (x.f0 = task) = true := decide_eq_true hc
        clear hc HA
        have HH := Aside0.mk H
        clear H
        go_wp2_with (go_at_call 81; (with_reducible refine (at1 x _ _ _ (blk_below HG.out HB.out)).mono ?_); rintro e w5 ⟨rfl, hb⟩; have n0 := Aside0.mk (below_step HB.out hb); clear hb)
        go_ret
        exact ⟨by rw [← HH.out]; rfl, n0.out⟩
      · rw [if_neg hc] at H
        have hcb : decide (x.f0 = task) = false := decide_eq_false hc
        clear hc HA
        have HH := Aside0.mk H
        clear H
        go_wp2_with (go_at_call 81; (with_reducible refine (at1 x _ _ _ (blk_below HG.out HB.out)).mono ?_); rintro e w5 ⟨rfl, hb⟩; have n0 := Aside0.mk (below_step HB.out hb); clear hb)
        go_roundw
        case rel => exact ⟨i + 1, by omega, by go_num, ⟨HH.out⟩, n0⟩
        case measure => simp [intOf]; omega
    · obtain rfl : i = l0.length := by omega
      have H := HA.out
      rw [List.drop_of_length_le (Nat.le_refl _)] at H
      have HH := Aside0.mk H
      clear H HA
      go_wp2
      go_ret
      exact ⟨by rw [← HH.out]; rfl, HB.out⟩

set_option maxHeartbeats 4000000 in
set_option maxRecDepth 100000 in
theorem queue_at.calls (A0 : Option Addr) (c0 : Nat) (l0 : List (S65)) (a1 : Int) (r : Int) (w : World) (hr0 : Kd.C k65 w A0 l0.length l0) (hc0 : l0.length ≤ c0) (h : queue_at.f l0 a1 = some r) :
    Calls Try.prog 70 #[.slice A0 l0.length c0, .int .i64 a1] w fun e w' => e = .returned (.int .i64 r) ∧ Below w.heap.size w w' := by
  obtain rfl := Option.some.inj h
  have HR0 := Aside0.mk hr0
  clear hr0 h
  go_enter Try.func70, Try.ntmps70
  go_wp2_with (go_at_call 80; (with_reducible refine (at2 _ _ _ a1 _ _ (Kd.C_alloc HR0.out _) (blk_new _ _)).mono ?_); rintro e w5 ⟨rfl, hb⟩; have n0 := Aside0.mk (below_step (below_alloc (Below.refl _ _) _) hb); clear hb)
  go_ret
  exact ⟨rfl, n0.out⟩

end Go.Proofs.Ythlahhkjoocigaa.XQueue
