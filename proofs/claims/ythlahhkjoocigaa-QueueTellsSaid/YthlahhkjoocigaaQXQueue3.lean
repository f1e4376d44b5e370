-- Written by a program of this session (wip/xprint.py): functions of the given Go program as plain Lean functions, and that the machine's calls come to them.
import Derived.Test.YthlahhkjoocigaaQXQueue0
import Derived.Test.YthlahhkjoocigaaQXQueue2
namespace Go.Proofs.Ythlahhkjoocigaa.XQueue
open Go.RowKit Go.Proofs.YthlahhkjoocigaaW.PrintWords Go.Proofs.YthlahhkjoocigaaW.PrintLast Go.Proofs.YthlahhkjoocigaaW.PrintMore
attribute [local go_sem] max2_int min2_int max_two min_two max_three min_three max_four min_four   -- for this text's walks alone
set_option linter.unusedVariables false
set_option linter.unusedSimpArgs false

/-! ### queue_Of: function 42 -/
def queue_Of.l0 : Nat → Int → List (List (S65)) → Int → Int → Option (Int × Int × Int × Int × Int × Int × Bool)
  | 0, _, _, _, _ => none
  | k + 1, x1, x13, x14, x15 => if x15 < x14 then (if 0 ≤ x15 then (if x15 < (x13.length : Int) then ((queue_at.f (rd_L4 x13 x15) x1).bind fun t118 => (if t118 ≥ 0 then (if 0 ≤ t118 then (if t118 < ((rd_L4 x13 x15).length : Int) then (some ((rd_T65 (rd_L4 x13 x15) t118).f0, (rd_T65 (rd_L4 x13 x15) t118).f1, (rd_T65 (rd_L4 x13 x15) t118).f2, (rd_T65 (rd_L4 x13 x15) t118).f3, (rd_T65 (rd_L4 x13 x15) t118).f4, (rd_T65 (rd_L4 x13 x15) t118).f5, true)) else (none)) else (none)) else (queue_Of.l0 k x1 x13 x14 (wrap64 (x15 + 1))))) else (none)) else (none)) else (some (0, 0, 0, 0, 0, 0, false))
def queue_Of.f (k : Nat) (l0_0 : List (S65)) (l0_1 : List (S65)) (a0_2 : Int) (a1 : Int) : Option (Int × Int × Int × Int × Int × Int × Bool) := (some (([l0_0, l0_1] : List (List (S65))) : List (List (S65)))).bind fun y114 => (queue_Of.l0 k a1 y114 (y114.length : Int) 0)
theorem queue_Of.mono_l : ∀ k, (∀ y0 y1 y2 y3, LeO (queue_Of.l0 k y0 y1 y2 y3) (queue_Of.l0 (k + 1) y0 y1 y2 y3))
  | 0 => fun _ _ _ _ r h => by simp [queue_Of.l0] at h
  | k + 1 => by
    have ih0 := queue_Of.mono_l k
    · intro y0 y1 y2 y3
      unfold queue_Of.l0
      repeat' first
      | (with_reducible exact ih0 _ _ _ _)
      | (with_reducible exact LeO.refl _)
      | (with_reducible exact LeO.none _)
      | (with_reducible refine LeO.ite ?_ ?_)
      | (with_reducible refine LeO.bind ?_ (fun _ => ?_))
      | exact ih0 _ _ _ _
      | exact LeO.none _
      | refine LeO.ite ?_ ?_
      | refine LeO.bind ?_ (fun _ => ?_)
theorem queue_Of.mono : ∀ a0 a1 a2 a3 k, LeO (queue_Of.f k a0 a1 a2 a3) (queue_Of.f (k + 1) a0 a1 a2 a3) := by
  intro a0 a1 a2 a3 k
  have ih0 := queue_Of.mono_l k
  unfold queue_Of.f
  repeat' first
      | (with_reducible exact ih0 _ _ _ _)
      | (with_reducible exact LeO.refl _)
      | (with_reducible exact LeO.none _)
      | (with_reducible refine LeO.ite ?_ ?_)
      | (with_reducible refine LeO.bind ?_ (fun _ => ?_))
      | exact ih0 _ _ _ _
      | exact LeO.none _
      | refine LeO.ite ?_ ?_
      | refine LeO.bind ?_ (fun _ => ?_)
set_option maxHeartbeats 8000000 in
set_option maxRecDepth 100000 in
theorem queue_Of.calls (k : Nat) (P0_0_ : Nat → Prop) (A0_0 : Option Addr) (c0_0 : Nat) (l0_0 : List (S65)) (P0_1_ : Nat → Prop) (A0_1 : Option Addr) (c0_1 : Nat) (l0_1 : List (S65)) (a0_2 : Int) (a1 : Int) (r1 : Int) (r2 : Int) (r3 : Int) (r4 : Int) (r5 : Int) (r6 : Int) (r7 : Bool) (w : World) (hs0_0 : Kd.V k65 65 w w.heap.size (fun k_ => P0_0_ k_) (.slice A0_0 l0_0.length c0_0) l0_0) (hs0_1 : Kd.V k65 65 w w.heap.size (fun k_ => P0_1_ k_) (.slice A0_1 l0_1.length c0_1) l0_1) (h : queue_Of.f k l0_0 l0_1 a0_2 a1 = some (r1, r2, r3, r4, r5, r6, r7)) :
    Calls Try.prog 42 #[.agg #[.slice A0_0 l0_0.length c0_0, .slice A0_1 l0_1.length c0_1, .int .i64 a0_2], .int .i64 a1] w fun e w' => e = .returned (.tuple #[.agg #[.int .i64 r1, .int .i64 r2, .int .u64 r3, .int .u64 r4, .int .u8 r5, .int .i64 r6], .bool r7]) ∧ Below w.heap.size w w' := by
  have hu58 := Try.underlying58
  have hu65 := Try.underlying65
  have HO0_0 := Aside0.mk (show Kd.V k65 65 w w.heap.size (fun k_ => ((P0_0_ k_ ∨ P0_1_ k_) ∨ w.heap.size ≤ k_)) (.slice A0_0 l0_0.length c0_0) l0_0 from Kd.V_mono hs0_0 (fun k_ hk => .inl (.inl hk)))
  have HO0_1 := Aside0.mk (show Kd.V k65 65 w w.heap.size (fun k_ => ((P0_0_ k_ ∨ P0_1_ k_) ∨ w.heap.size ≤ k_)) (.slice A0_1 l0_1.length c0_1) l0_1 from Kd.V_mono hs0_1 (fun k_ hk => .inl (.inr hk)))
  have HB := Aside0.mk (Below.refl w.heap.size w)
  have H : ((some (([l0_0, l0_1] : List (List (S65))) : List (List (S65)))).bind fun y114 => (queue_Of.l0 k a1 y114 (y114.length : Int) 0)) = some (r1, r2, r3, r4, r5, r6, r7) := h
  clear h
  obtain ⟨y114, hy114⟩ : ∃ y_ : List (List (S65)), y_ = (([l0_0, l0_1] : List (List (S65)))) := ⟨_, rfl⟩
  replace H : (queue_Of.l0 k a1 y114 (y114.length : Int) 0) = some (r1, r2, r3, r4, r5, r6, r7) := by first | (rw [hy114]; with_reducible exact H) | (have H2_ := (Option.bind_some _ _).symm.trans H; rw [hy114]; with_reducible exact H2_) | (have H2_ := (Option.bind_some _ _).symm.trans H; with_reducible exact H2_) | with_reducible exact H | (rw [hy114]; exact H) | exact H
  have Ny114 := Aside0.mk hy114
  clear hy114
  have H' := Aside0.mk H
  clear H
  go_enter Try.func42, Try.ntmps42
  go_wp2_with (first | ((with_reducible refine gate_dst (N := 2) rfl ?_); refine box_event ?hg (N := 2) ?hd (cs := #[.slice A0_0 l0_0.length c0_0, .slice A0_1 l0_1.length c0_1, .int .i64 a0_2]) (t := 58) ?hr ?_; (case hd => rfl); (case hg => rfl); (case hr => first | (go_simp; done) | (go_simp; rfl)); intro gb112 hg w3 hbox hb; have n0_ := Aside0.mk (Kd.V_below (Kd.V_elderB (by (with_reducible repeat (first | apply Kd.V_alloc | apply Kd.V_drewN | apply Kd.V_drew)); exact HO0_0.out) gb112 (Nat.le_of_eq hg.symm)) hb); have n1_ := Aside0.mk (Kd.V_below (Kd.V_elderB (by (with_reducible repeat (first | apply Kd.V_alloc | apply Kd.V_drewN | apply Kd.V_drew)); exact HO0_1.out) gb112 (Nat.le_of_eq hg.symm)) hb); have n2_ := Aside0.mk (below_step (by repeat (first | (with_reducible first | exact HB.out | apply below_alloc | apply pw_below_drewN | apply below_drew1) | exact HB.out)) hb); have n3_ := Aside0.mk (hbox); have n4_ := Aside0.mk ((by rw [hg]; exact (below_size (by repeat (first | (with_reducible first | exact HB.out | apply below_alloc | apply pw_below_drewN | apply below_drew1) | exact HB.out))) : w.heap.size ≤ gb112)); have n5_ := Aside0.mk ((by rw [hg]; exact (below_size (by repeat (first | (with_reducible first | exact HB.out | apply below_alloc | apply pw_below_drewN | apply below_drew1) | exact HB.out))) : w.heap.size ≤ gb112)); clear HO0_0; clear HO0_1; clear HB; have HO0_0 := n0_; have HO0_1 := n1_; have HB := n2_; have BK112 := n3_; have GW112 := n4_; have GE112 := n5_; clear n0_ n1_ n2_ n3_ n4_ n5_; clear hb hbox hg) | ((with_reducible refine gate_dst (N := 4) rfl ?_); refine box_event ?hg (N := 4) ?hd (cs := #[.int .i64 0, .int .i64 0, .int .u64 0, .int .u64 0, .int .u8 0, .int .i64 0]) (t := 65) ?hr ?_; (case hd => rfl); (case hg => rfl); (case hr => first | (go_simp; done) | (go_simp; rfl)); intro gb113 hg w4 hbox hb; have n0_ := Aside0.mk (Kd.V_below (Kd.V_elderB (by (with_reducible repeat (first | apply Kd.V_alloc | apply Kd.V_drewN | apply Kd.V_drew)); exact HO0_0.out) gb113 (Nat.le_of_eq hg.symm)) hb); have n1_ := Aside0.mk (Kd.V_below (Kd.V_elderB (by (with_reducible repeat (first | apply Kd.V_alloc | apply Kd.V_drewN | apply Kd.V_drew)); exact HO0_1.out) gb113 (Nat.le_of_eq hg.symm)) hb); have n2_ := Aside0.mk (blk_below (g := gb112) (o := .cells #[.slice A0_0 l0_0.length c0_0, .slice A0_1 l0_1.length c0_1, .int .i64 a0_2] 58 (0, 0)) (by (with_reducible repeat (first | refine blk_drewN ?_ _ | refine blk_drew ?_ | refine blk_alloc ?_ _)); exact BK112.out) hb); have n3_ := Aside0.mk (below_step (by repeat (first | (with_reducible first | exact HB.out | apply below_alloc | apply pw_below_drewN | apply below_drew1 | refine below_set ?_ GE112.out) | exact HB.out)) hb); have n4_ := Aside0.mk (hbox); have n5_ := Aside0.mk ((by rw [hg]; exact (below_size (by repeat (first | (with_reducible first | exact HB.out | apply below_alloc | apply pw_below_drewN | apply below_drew1 | refine below_set ?_ GE112.out) | exact HB.out))) : w.heap.size ≤ gb113)); have n6_ := Aside0.mk ((by rw [hg]; exact (below_size (by repeat (first | (with_reducible first | exact HB.out | apply below_alloc | apply pw_below_drewN | apply below_drew1 | refine below_set ?_ GE112.out) | exact HB.out))) : w.heap.size ≤ gb113)); have n7_ := Aside0.mk ((by rw [hg]; exact Nat.ne_of_lt (blk_lt (g := gb112) (o := .cells #[.slice A0_0 l0_0.length c0_0, .slice A0_1 l0_1.length c0_1, .int .i64 a0_2] 58 (0, 0)) (by (with_reducible repeat (first | refine blk_drewN ?_ _ | refine blk_drew ?_ | refine blk_alloc ?_ _)); exact BK112.out)) : gb112 ≠ gb113)); have n8_ := Aside0.mk ((by rw [hg]; exact Nat.ne_of_gt (blk_lt (g := gb112) (o := .cells #[.slice A0_0 l0_0.length c0_0, .slice A0_1 l0_1.length c0_1, .int .i64 a0_2] 58 (0, 0)) (by (with_reducible repeat (first | refine blk_drewN ?_ _ | refine blk_drew ?_ | refine blk_alloc ?_ _)); exact BK112.out)) : gb113 ≠ gb112)); clear HO0_0; clear HO0_1; clear BK112; clear HB; have HO0_0 := n0_; have HO0_1 := n1_; have BK112 := n2_; have HB := n3_; have BK113 := n4_; have GW113 := n5_; have GE113 := n6_; have NB112_113 := n7_; have NB113_112 := n8_; clear n0_ n1_ n2_ n3_ n4_ n5_ n6_ n7_ n8_; clear hb hbox hg; have hnb5 := NB112_113.out; have hnc5 := NB113_112.out; have hcz6_0 : w4.cell? ⟨gb112, 0, none⟩ = some (.slice A0_0 l0_0.length c0_0) := (blk_cell BK112.out 0).trans rfl; have hcz6_1 : w4.cell? ⟨gb112, 1, none⟩ = some (.slice A0_1 l0_1.length c0_1) := (blk_cell BK112.out 1).trans rfl; have hcz6_2 : w4.cell? ⟨gb112, 2, none⟩ = some (.int .i64 a0_2) := (blk_cell BK112.out 2).trans rfl; have hfz6_0 := blk_frozen BK112.out 0; have hfz6_1 := blk_frozen BK112.out 1; have hfz6_2 := blk_frozen BK112.out 2) | ((with_reducible refine gate_dst (N := 13) rfl ?_); refine Kd.N_lit (Kd.slice 65 k65) _ 56 ?hg (N' := 13) ?hd (xs := ([l0_0, l0_1] : List (List (S65)))) (inner := [.slice A0_0 l0_0.length c0_0, .slice A0_1 l0_1.length c0_1]) (ok := (fun k_ => ((P0_0_ k_ ∨ P0_1_ k_) ∨ w.heap.size ≤ k_) ∧ k_ ≠ gb112 ∧ k_ ≠ gb113)) (okp := (fun k_ => ((P0_0_ k_ ∨ P0_1_ k_) ∨ w.heap.size ≤ k_) ∧ k_ ≠ gb112 ∧ k_ ≠ gb113)) ?hr ?hp (fun _ hk => hk) ((show ∀ k_, w4.heap.size ≤ k_ → (fun k_ => ((P0_0_ k_ ∨ P0_1_ k_) ∨ w.heap.size ≤ k_) ∧ k_ ≠ gb112 ∧ k_ ≠ gb113) k_ from fun k_ hk => ⟨(.inr (Nat.le_trans (below_size (by repeat (first | (with_reducible first | exact HB.out | apply below_alloc | apply pw_below_drewN | apply below_drew1 | refine below_set ?_ GE112.out | refine below_set ?_ GE113.out) | exact HB.out))) hk)), Kd.freshB (g := gb112) (o := .cells #[.slice A0_0 l0_0.length c0_0, .slice A0_1 l0_1.length c0_1, .int .i64 a0_2] 58 (0, 0)) (by (with_reducible repeat (first | refine blk_drewN ?_ _ | refine blk_drew ?_ | refine blk_alloc ?_ _)); exact BK112.out) k_ hk, Kd.freshB (g := gb113) (o := .cells #[.int .i64 0, .int .i64 0, .int .u64 0, .int .u64 0, .int .u8 0, .int .i64 0] 65 (0, 0)) (by (with_reducible repeat (first | refine blk_drewN ?_ _ | refine blk_drew ?_ | refine blk_alloc ?_ _)); exact BK113.out) k_ hk⟩) _ (Nat.le_refl _)) (Below.refl _ _) (Nat.le_refl _) (by simp) ?_; (case hd => rfl); (case hg => rfl); (case hr => first | (go_simp; done) | (go_simp; rfl)); (case hp => exact (Reps.one (show Kd.FK (Kd.slice 65 k65) _ _ l0_0 [.slice A0_0 l0_0.length c0_0] from (Kd.FK_slice_mk (Kd.V_reads' (Kd.V_mono (ok' := (fun k_ => ((P0_0_ k_ ∨ P0_1_ k_) ∨ w.heap.size ≤ k_) ∧ k_ ≠ gb112 ∧ k_ ≠ gb113)) (HO0_0.out) (fun k_ hk => ⟨hk.1.1, ⟨hk.1.2, hk.2⟩⟩))).2.1 (Kd.V_F (Kd.V_mono (ok' := (fun k_ => ((P0_0_ k_ ∨ P0_1_ k_) ∨ w.heap.size ≤ k_) ∧ k_ ≠ gb112 ∧ k_ ≠ gb113)) (HO0_0.out) (fun k_ hk => ⟨hk.1.1, ⟨hk.1.2, hk.2⟩⟩))))) (Reps.one (show Kd.FK (Kd.slice 65 k65) _ _ l0_1 [.slice A0_1 l0_1.length c0_1] from (Kd.FK_slice_mk (Kd.V_reads' (Kd.V_mono (ok' := (fun k_ => ((P0_0_ k_ ∨ P0_1_ k_) ∨ w.heap.size ≤ k_) ∧ k_ ≠ gb112 ∧ k_ ≠ gb113)) (HO0_1.out) (fun k_ hk => ⟨hk.1.1, ⟨hk.1.2, hk.2⟩⟩))).2.1 (Kd.V_F (Kd.V_mono (ok' := (fun k_ => ((P0_0_ k_ ∨ P0_1_ k_) ∨ w.heap.size ≤ k_) ∧ k_ ≠ gb112 ∧ k_ ≠ gb113)) (HO0_1.out) (fun k_ hk => ⟨hk.1.1, ⟨hk.1.2, hk.2⟩⟩))))) (Reps.none _ _)))); intro v115 w7 ho8 hb hg_ hnew_; clear hg_ hnew_; (first | rw [← Ny114.out] at ho8 | (simp only [Int.reduceToNat] at ho8; rw [← Ny114.out] at ho8)); have n0_ := Aside0.mk (Kd.V_elder' (by (with_reducible repeat (first | apply Kd.V_alloc | apply Kd.V_drewN | apply Kd.V_drew)); exact HO0_0.out) (Kd.N_base ho8) hb); have n1_ := Aside0.mk (Kd.V_elder' (by (with_reducible repeat (first | apply Kd.V_alloc | apply Kd.V_drewN | apply Kd.V_drew)); exact HO0_1.out) (Kd.N_base ho8) hb); have n2_ := Aside0.mk (Kd.N_lower ho8 (below_size (by repeat (first | (with_reducible first | exact HB.out | apply below_alloc | apply pw_below_drewN | apply below_drew1 | refine below_set ?_ GE112.out | refine below_set ?_ GE113.out) | exact HB.out)))); have n3_ := Aside0.mk (blk_below (g := gb112) (o := .cells #[.slice A0_0 l0_0.length c0_0, .slice A0_1 l0_1.length c0_1, .int .i64 a0_2] 58 (0, 0)) (by (with_reducible repeat (first | refine blk_drewN ?_ _ | refine blk_drew ?_ | refine blk_alloc ?_ _)); exact BK112.out) hb); have n4_ := Aside0.mk (blk_below (g := gb113) (o := .cells #[.int .i64 0, .int .i64 0, .int .u64 0, .int .u64 0, .int .u8 0, .int .i64 0] 65 (0, 0)) (by (with_reducible repeat (first | refine blk_drewN ?_ _ | refine blk_drew ?_ | refine blk_alloc ?_ _)); exact BK113.out) hb); have n5_ := Aside0.mk (below_step (by repeat (first | (with_reducible first | exact HB.out | apply below_alloc | apply pw_below_drewN | apply below_drew1 | refine below_set ?_ GE112.out | refine below_set ?_ GE113.out) | exact HB.out)) hb); clear HO0_0; clear HO0_1; clear BK112; clear BK113; clear HB; have HO0_0 := n0_; have HO0_1 := n1_; have HO116 := n2_; have BK112 := n3_; have BK113 := n4_; have HB := n5_; clear n0_ n1_ n2_ n3_ n4_ n5_; clear hb ho8; obtain ⟨Ao9, co9, eo9⟩ := Kd.N_slice HO116.out; subst eo9))
  go_loopg [15] k (fun kq v15 w' => ∃ (x15_1 : Int) (x114000_1 : Int) (x114001_1 : Int) (x114002_1 : Int) (x114003_1 : Int) (x114004_1 : Int) (x114005_1 : Int), v15 = .int .i64 x15_1 ∧ Aside0 (queue_Of.l0 kq a1 y114 (y114.length : Int) x15_1 = some (r1, r2, r3, r4, r5, r6, r7)) ∧ Aside0 (kq ≤ k) ∧ Aside0 (Kd.N (Kd.slice 65 k65) 56 w' w.heap.size (fun k_ => ((P0_0_ k_ ∨ P0_1_ k_) ∨ w.heap.size ≤ k_) ∧ k_ ≠ gb112 ∧ k_ ≠ gb113) (.slice Ao9 y114.length co9) y114) ∧ Aside0 (Kd.V k65 65 w' w.heap.size (fun k_ => ((P0_0_ k_ ∨ P0_1_ k_) ∨ w.heap.size ≤ k_) ∧ some k_ ≠ ((.slice Ao9 y114.length co9) : Value).ownBlock ∧ k_ ≠ gb112 ∧ k_ ≠ gb113) (.slice A0_0 l0_0.length c0_0) l0_0) ∧ Aside0 (Kd.V k65 65 w' w.heap.size (fun k_ => ((P0_0_ k_ ∨ P0_1_ k_) ∨ w.heap.size ≤ k_) ∧ some k_ ≠ ((.slice Ao9 y114.length co9) : Value).ownBlock ∧ k_ ≠ gb112 ∧ k_ ≠ gb113) (.slice A0_1 l0_1.length c0_1) l0_1) ∧ Aside0 (w'.heap[gb112]? = some (.cells #[(.slice A0_0 l0_0.length c0_0), (.slice A0_1 l0_1.length c0_1), .int .i64 a0_2] 58 (0, 0))) ∧ Aside0 (w'.heap[gb113]? = some (.cells #[.int .i64 x114000_1, .int .i64 x114001_1, .int .u64 x114002_1, .int .u64 x114003_1, .int .u8 x114004_1, .int .i64 x114005_1] 65 (0, 0))) ∧ Aside0 (Below w.heap.size w w'))
  case atStart => exact ⟨(0), (0), (0), (0), (0), (0), (0), (by first | rfl | (simp; done) | (simp [*]; done)), H', ⟨Nat.le_refl _⟩, ⟨by (with_reducible repeat (first | apply Kd.N_alloc | apply Kd.N_drewN | apply Kd.N_drew)); exact HO116.out⟩, ⟨by (with_reducible repeat (first | apply Kd.V_alloc | apply Kd.V_drewN | apply Kd.V_drew)); exact Kd.V_mono HO0_0.out (fun _ hk => ⟨hk.1.1.1, ⟨hk.2, ⟨hk.1.1.2, hk.1.2⟩⟩⟩)⟩, ⟨by (with_reducible repeat (first | apply Kd.V_alloc | apply Kd.V_drewN | apply Kd.V_drew)); exact Kd.V_mono HO0_1.out (fun _ hk => ⟨hk.1.1.1, ⟨hk.2, ⟨hk.1.1.2, hk.1.2⟩⟩⟩)⟩, ⟨by (with_reducible repeat (first | refine blk_drewN ?_ _ | refine blk_drew ?_ | refine blk_alloc ?_ _)); exact BK112.out⟩, ⟨by (with_reducible repeat (first | refine blk_drewN ?_ _ | refine blk_drew ?_ | refine blk_alloc ?_ _)); exact BK113.out⟩, ⟨by repeat (first | (with_reducible first | exact HB.out | apply below_alloc | apply pw_below_drewN | apply below_drew1 | refine below_set ?_ GE112.out | refine below_set ?_ GE113.out) | exact HB.out)⟩⟩
  case round =>
    clear H'
    try clear p2
    try clear c4
    try clear c5
    try clear hcz6_0
    try clear hcz6_1
    try clear hcz6_2
    try clear hfz6_0
    try clear hfz6_1
    try clear hfz6_2
    obtain ⟨x15_1, x114000_1, x114001_1, x114002_1, x114003_1, x114004_1, x114005_1, rfl, HA, HK1, HO_13, HO_113000, HO_113001, BK112, BK113, HB⟩ := hrel
    cases gk with
    | zero => exact absurd HA.out (by simp [queue_Of.l0])
    | succ k1 =>
      have H := HA.out
      clear HA
      simp only [queue_Of.l0] at H
      by_cases c10 : x15_1 < (y114.length : Int)
      · rw [if_pos c10] at H
        have c10b0 : decide (x15_1 < (y114.length : Int)) = true := decide_eq_true c10
        clear c10
        by_cases c11 : 0 ≤ x15_1
        · rw [if_pos c11] at H
          have c11b0 : decide (0 ≤ x15_1) = true := decide_eq_true c11
          clear c11
          by_cases c12 : x15_1 < (y114.length : Int)
          · rw [if_pos c12] at H
            have c12b0 : decide (x15_1 < (y114.length : Int)) = true := decide_eq_true c12
            clear c12
            replace H := Option.bind_eq_some_iff.mp H
            obtain ⟨t118, A130, H⟩ := H
            replace H : (if t118 ≥ 0 then (if 0 ≤ t118 then (if t118 < ((rd_L4 y114 x15_1).length : Int) then (some ((rd_T65 (rd_L4 y114 x15_1) t118).f0, (rd_T65 (rd_L4 y114 x15_1) t118).f1, (rd_T65 (rd_L4 y114 x15_1) t118).f2, (rd_T65 (rd_L4 y114 x15_1) t118).f3, (rd_T65 (rd_L4 y114 x15_1) t118).f4, (rd_T65 (rd_L4 y114 x15_1) t118).f5, true)) else (none)) else (none)) else (queue_Of.l0 k1 a1 y114 (y114.length : Int) (wrap64 (x15_1 + 1)))) = some (r1, r2, r3, r4, r5, r6, r7) := H
            have A13 := Aside0.mk A130
            clear A130
            by_cases c14 : t118 ≥ 0
            · rw [if_pos c14] at H
              have c14b0 : decide (0 ≤ t118) = true := decide_eq_true c14
              clear c14
              by_cases c15 : 0 ≤ t118
              · rw [if_pos c15] at H
                have c15b0 : decide (0 ≤ t118) = true := decide_eq_true c15
                clear c15
                by_cases c16 : t118 < ((rd_L4 y114 x15_1).length : Int)
                · rw [if_pos c16] at H
                  have c16b0 : decide (t118 < ((rd_L4 y114 x15_1).length : Int)) = true := decide_eq_true c16
                  clear c16
                  simp only [Option.some.injEq, Prod.mk.injEq] at H
                  obtain ⟨rfl, rfl, rfl, rfl, rfl, rfl, rfl⟩ := H
                  have p117 : 0 ≤ (x15_1 : Int) := of_decide_eq_true (by first | (with_reducible assumption) | assumption)
                  have q117 : x15_1 < (y114.length : Int) := of_decide_eq_true (by first | (with_reducible assumption) | assumption)
                  obtain ⟨ad117, A117_0, c117_0, e117, hx117_0, hl117_0, hi117_0⟩ := at_L4 (Kd.N_reads' HO_13.out).2.2 x15_1 p117 q117
                  cases e117
                  obtain ⟨ce117, hce117, hMe117, hcc117⟩ := Kd.N_get HO_13.out [] x15_1 p117 (by first | exact q117 | exact of_decide_eq_true (by first | (with_reducible assumption) | assumption) | (have e_ := (Kd.N_reads' HO_13.out).1; omega))
                  obtain ⟨ua117_0, uc117_0, rfl, ul117_0, ge117_0⟩ := Kd.FK_slice_open hMe117
                  have hv117_0 := hcc117 0 _ rfl
                  rw [Nat.add_zero, show ((Kd.slice 65 k65)).sz = 1 from rfl, Nat.mul_one] at hv117_0
                  replace hv117_0 := Option.some.inj (hv117_0.symm.trans hx117_0)
                  injection hv117_0 with hva_ hvn_ hvc_
                  rw [hva_] at ge117_0
                  rw [hvc_] at ul117_0
                  have HL117_0 := Aside0.mk (show Kd.V k65 65 _ w.heap.size _ _ (rd_L4 y114 x15_1) from Kd.V_mk ul117_0 ge117_0)
                  clear hva_ hvn_ hvc_ ge117_0 ul117_0
                  clear hcc117 hce117
                  have HR117_0 := Aside0.mk hi117_0
                  have HC117_0 := Aside0.mk hl117_0
                  clear hi117_0 hl117_0
                  replace p117 := eq_true p117
                  replace q117 := eq_true q117
                  go_wp2_with (first | ((with_reducible refine gate_callee (f := 70) rfl ?_); refine goesL_ (some 21) rfl rfl Try.func70 (by kernel_rfl) rfl #[.slice A117_0 (rd_L4 y114 x15_1).length c117_0, .int .i64 a1] rfl (by (try simp only [List.map_toArray, List.map_cons, List.map_nil]); first | done | rfl | (simp only [List.length_drop, List.length_take]; rfl)) ?_; (with_reducible refine (queue_at.calls _ _ (rd_L4 y114 x15_1) a1 t118 _ ?side1 ?side2 A13.out).mono ?_); (case side1 => repeat (first | exact (by repeat (first | (with_reducible exact HR117_0.out) | (with_reducible refine Kd.C_alloc ?_ _) | (with_reducible refine Kd.C_drewN ?_ _) | (with_reducible refine Kd.C_drew ?_) | exact HR117_0.out)) | (with_reducible refine Kd.C_alloc ?_ _) | (with_reducible refine Kd.C_drewN ?_ _) | (with_reducible refine Kd.C_drew ?_))); (case side2 => exact HC117_0.out); rintro e w17 ⟨rfl, hb⟩; refine ⟨_, rfl, ?_⟩; have n0_ := Aside0.mk (Kd.N_below (by (with_reducible repeat (first | apply Kd.N_alloc | apply Kd.N_drewN | apply Kd.N_drew)); exact HO_13.out) hb); have n1_ := Aside0.mk (Kd.V_below (by (with_reducible repeat (first | apply Kd.V_alloc | apply Kd.V_drewN | apply Kd.V_drew)); exact HO_113000.out) hb); have n2_ := Aside0.mk (Kd.V_below (by (with_reducible repeat (first | apply Kd.V_alloc | apply Kd.V_drewN | apply Kd.V_drew)); exact HO_113001.out) hb); have n3_ := Aside0.mk (Kd.V_below (by (with_reducible repeat (first | apply Kd.V_alloc | apply Kd.V_drewN | apply Kd.V_drew)); exact HL117_0.out) hb); have n4_ := Aside0.mk (blk_below (g := gb112) (o := .cells #[.slice A0_0 l0_0.length c0_0, .slice A0_1 l0_1.length c0_1, .int .i64 a0_2] 58 (0, 0)) (by (with_reducible repeat (first | refine blk_drewN ?_ _ | refine blk_drew ?_ | refine blk_alloc ?_ _)); exact BK112.out) hb); have n5_ := Aside0.mk (blk_below (g := gb113) (o := .cells #[.int .i64 x114000_1, .int .i64 x114001_1, .int .u64 x114002_1, .int .u64 x114003_1, .int .u8 x114004_1, .int .i64 x114005_1] 65 (0, 0)) (by (with_reducible repeat (first | refine blk_drewN ?_ _ | refine blk_drew ?_ | refine blk_alloc ?_ _)); exact BK113.out) hb); have n6_ := Aside0.mk (Kd.C_below (by repeat (first | (with_reducible exact HR117_0.out) | (with_reducible refine Kd.C_alloc ?_ _) | (with_reducible refine Kd.C_drewN ?_ _) | (with_reducible refine Kd.C_drew ?_) | exact HR117_0.out)) hb); have n7_ := Aside0.mk (below_step (by repeat (first | (with_reducible first | exact HB.out | apply below_alloc | apply pw_below_drewN | apply below_drew1 | refine below_set ?_ GE112.out | refine below_set ?_ GE113.out) | exact HB.out)) hb); clear HO_13; clear HO_113000; clear HO_113001; clear HL117_0; clear BK112; clear BK113; clear HR117_0; clear HB; have HO_13 := n0_; have HO_113000 := n1_; have HO_113001 := n2_; have HL117_0 := n3_; have BK112 := n4_; have BK113 := n5_; have HR117_0 := n6_; have HB := n7_; clear n0_ n1_ n2_ n3_ n4_ n5_ n6_ n7_; (try clear hb); (try clear hb2); (try clear hk); (try clear hi); have p119 : 0 ≤ (t118 : Int) := of_decide_eq_true (by first | (with_reducible assumption) | assumption); have q119 : t118 < ((rd_L4 y114 x15_1).length : Int) := of_decide_eq_true (by first | (with_reducible assumption) | assumption); obtain ⟨ad119, e119, hx119_0, hx119_1, hx119_2, hx119_3, hx119_4, hx119_5⟩ := at_T65 (by repeat (first | (with_reducible exact HR117_0.out) | (with_reducible refine Kd.C_alloc ?_ _) | (with_reducible refine Kd.C_drewN ?_ _) | (with_reducible refine Kd.C_drew ?_) | exact HR117_0.out)) t118 p119 q119; cases e119; replace p119 := eq_true p119; replace q119 := eq_true q119; have hnb18 := NB113_112.out; have hnc18 := NB112_113.out; have hcz19_0 : w17.cell? ⟨gb113, 0, none⟩ = some (.int .i64 x114000_1) := (blk_cell BK113.out 0).trans rfl; have hcz19_1 : w17.cell? ⟨gb113, 1, none⟩ = some (.int .i64 x114001_1) := (blk_cell BK113.out 1).trans rfl; have hcz19_2 : w17.cell? ⟨gb113, 2, none⟩ = some (.int .u64 x114002_1) := (blk_cell BK113.out 2).trans rfl; have hcz19_3 : w17.cell? ⟨gb113, 3, none⟩ = some (.int .u64 x114003_1) := (blk_cell BK113.out 3).trans rfl; have hcz19_4 : w17.cell? ⟨gb113, 4, none⟩ = some (.int .u8 x114004_1) := (blk_cell BK113.out 4).trans rfl; have hcz19_5 : w17.cell? ⟨gb113, 5, none⟩ = some (.int .i64 x114005_1) := (blk_cell BK113.out 5).trans rfl; have hfz19_0 := blk_frozen BK113.out 0; have hfz19_1 := blk_frozen BK113.out 1; have hfz19_2 := blk_frozen BK113.out 2; have hfz19_3 := blk_frozen BK113.out 3; have hfz19_4 := blk_frozen BK113.out 4; have hfz19_5 := blk_frozen BK113.out 5))
                  refine bodyPost_ret (results_ct rfl _ _ gb113 65 #[.int .i64 ((rd_T65 (rd_L4 y114 x15_1) t118).f0), .int .i64 ((rd_T65 (rd_L4 y114 x15_1) t118).f1), .int .u64 ((rd_T65 (rd_L4 y114 x15_1) t118).f2), .int .u64 ((rd_T65 (rd_L4 y114 x15_1) t118).f3), .int .u8 ((rd_T65 (rd_L4 y114 x15_1) t118).f4), .int .i64 ((rd_T65 (rd_L4 y114 x15_1) t118).f5)] (0, 0) _ rfl (by (with_reducible repeat (first | refine blk_drewN ?_ _ | refine blk_drew ?_ | refine blk_alloc ?_ _)); refine blk_put (cs := #[.int .i64 ((rd_T65 (rd_L4 y114 x15_1) t118).f0), .int .i64 ((rd_T65 (rd_L4 y114 x15_1) t118).f1), .int .u64 ((rd_T65 (rd_L4 y114 x15_1) t118).f2), .int .u64 ((rd_T65 (rd_L4 y114 x15_1) t118).f3), .int .u8 ((rd_T65 (rd_L4 y114 x15_1) t118).f4), .int .i64 x114005_1]) ?_ 5 _ rfl; (with_reducible repeat (first | refine blk_drewN ?_ _ | refine blk_drew ?_ | refine blk_alloc ?_ _)); refine blk_put (cs := #[.int .i64 ((rd_T65 (rd_L4 y114 x15_1) t118).f0), .int .i64 ((rd_T65 (rd_L4 y114 x15_1) t118).f1), .int .u64 ((rd_T65 (rd_L4 y114 x15_1) t118).f2), .int .u64 ((rd_T65 (rd_L4 y114 x15_1) t118).f3), .int .u8 x114004_1, .int .i64 x114005_1]) ?_ 4 _ rfl; (with_reducible repeat (first | refine blk_drewN ?_ _ | refine blk_drew ?_ | refine blk_alloc ?_ _)); refine blk_put (cs := #[.int .i64 ((rd_T65 (rd_L4 y114 x15_1) t118).f0), .int .i64 ((rd_T65 (rd_L4 y114 x15_1) t118).f1), .int .u64 ((rd_T65 (rd_L4 y114 x15_1) t118).f2), .int .u64 x114003_1, .int .u8 x114004_1, .int .i64 x114005_1]) ?_ 3 _ rfl; (with_reducible repeat (first | refine blk_drewN ?_ _ | refine blk_drew ?_ | refine blk_alloc ?_ _)); refine blk_put (cs := #[.int .i64 ((rd_T65 (rd_L4 y114 x15_1) t118).f0), .int .i64 ((rd_T65 (rd_L4 y114 x15_1) t118).f1), .int .u64 x114002_1, .int .u64 x114003_1, .int .u8 x114004_1, .int .i64 x114005_1]) ?_ 2 _ rfl; (with_reducible repeat (first | refine blk_drewN ?_ _ | refine blk_drew ?_ | refine blk_alloc ?_ _)); refine blk_put (cs := #[.int .i64 ((rd_T65 (rd_L4 y114 x15_1) t118).f0), .int .i64 x114001_1, .int .u64 x114002_1, .int .u64 x114003_1, .int .u8 x114004_1, .int .i64 x114005_1]) ?_ 1 _ rfl; (with_reducible repeat (first | refine blk_drewN ?_ _ | refine blk_drew ?_ | refine blk_alloc ?_ _)); refine blk_put (cs := #[.int .i64 x114000_1, .int .i64 x114001_1, .int .u64 x114002_1, .int .u64 x114003_1, .int .u8 x114004_1, .int .i64 x114005_1]) ?_ 0 _ rfl; (with_reducible repeat (first | refine blk_drewN ?_ _ | refine blk_drew ?_ | refine blk_alloc ?_ _)); exact BK113.out) Try.underlying65 rfl (by kernel_rfl)) rfl ?_
                  exact ⟨by first | rfl | (simp [errW_none, errW_some] <;> rfl) | (simp [*, errW_none, errW_some] <;> rfl), by repeat (first | (with_reducible first | exact HB.out | apply below_alloc | apply pw_below_drewN | apply below_drew1 | refine below_set ?_ GE112.out | refine below_set ?_ GE113.out) | exact HB.out)⟩
                · rw [if_neg c16] at H
                  exact absurd H (by simp)
              · rw [if_neg c15] at H
                exact absurd H (by simp)
            · rw [if_neg c14] at H
              have c14b0 : decide (0 ≤ t118) = false := decide_eq_false c14
              clear c14
              have H' := Aside0.mk H
              clear H
              have p117 : 0 ≤ (x15_1 : Int) := of_decide_eq_true (by first | (with_reducible assumption) | assumption)
              have q117 : x15_1 < (y114.length : Int) := of_decide_eq_true (by first | (with_reducible assumption) | assumption)
              obtain ⟨ad117, A117_0, c117_0, e117, hx117_0, hl117_0, hi117_0⟩ := at_L4 (Kd.N_reads' HO_13.out).2.2 x15_1 p117 q117
              cases e117
              obtain ⟨ce117, hce117, hMe117, hcc117⟩ := Kd.N_get HO_13.out [] x15_1 p117 (by first | exact q117 | exact of_decide_eq_true (by first | (with_reducible assumption) | assumption) | (have e_ := (Kd.N_reads' HO_13.out).1; omega))
              obtain ⟨ua117_0, uc117_0, rfl, ul117_0, ge117_0⟩ := Kd.FK_slice_open hMe117
              have hv117_0 := hcc117 0 _ rfl
              rw [Nat.add_zero, show ((Kd.slice 65 k65)).sz = 1 from rfl, Nat.mul_one] at hv117_0
              replace hv117_0 := Option.some.inj (hv117_0.symm.trans hx117_0)
              injection hv117_0 with hva_ hvn_ hvc_
              rw [hva_] at ge117_0
              rw [hvc_] at ul117_0
              have HL117_0 := Aside0.mk (show Kd.V k65 65 _ w.heap.size _ _ (rd_L4 y114 x15_1) from Kd.V_mk ul117_0 ge117_0)
              clear hva_ hvn_ hvc_ ge117_0 ul117_0
              clear hcc117 hce117
              have HR117_0 := Aside0.mk hi117_0
              have HC117_0 := Aside0.mk hl117_0
              clear hi117_0 hl117_0
              replace p117 := eq_true p117
              replace q117 := eq_true q117
              go_wp2_with (first | ((with_reducible refine gate_callee (f := 70) rfl ?_); refine goesL_ (some 21) rfl rfl Try.func70 (by kernel_rfl) rfl #[.slice A117_0 (rd_L4 y114 x15_1).length c117_0, .int .i64 a1] rfl (by (try simp only [List.map_toArray, List.map_cons, List.map_nil]); first | done | rfl | (simp only [List.length_drop, List.length_take]; rfl)) ?_; (with_reducible refine (queue_at.calls _ _ (rd_L4 y114 x15_1) a1 t118 _ ?side1 ?side2 A13.out).mono ?_); (case side1 => repeat (first | exact (by repeat (first | (with_reducible exact HR117_0.out) | (with_reducible refine Kd.C_alloc ?_ _) | (with_reducible refine Kd.C_drewN ?_ _) | (with_reducible refine Kd.C_drew ?_) | exact HR117_0.out)) | (with_reducible refine Kd.C_alloc ?_ _) | (with_reducible refine Kd.C_drewN ?_ _) | (with_reducible refine Kd.C_drew ?_))); (case side2 => exact HC117_0.out); rintro e w20 ⟨rfl, hb⟩; refine ⟨_, rfl, ?_⟩; have n0_ := Aside0.mk (Kd.N_below (by (with_reducible repeat (first | apply Kd.N_alloc | apply Kd.N_drewN | apply Kd.N_drew)); exact HO_13.out) hb); have n1_ := Aside0.mk (Kd.V_below (by (with_reducible repeat (first | apply Kd.V_alloc | apply Kd.V_drewN | apply Kd.V_drew)); exact HO_113000.out) hb); have n2_ := Aside0.mk (Kd.V_below (by (with_reducible repeat (first | apply Kd.V_alloc | apply Kd.V_drewN | apply Kd.V_drew)); exact HO_113001.out) hb); have n3_ := Aside0.mk (Kd.V_below (by (with_reducible repeat (first | apply Kd.V_alloc | apply Kd.V_drewN | apply Kd.V_drew)); exact HL117_0.out) hb); have n4_ := Aside0.mk (blk_below (g := gb112) (o := .cells #[.slice A0_0 l0_0.length c0_0, .slice A0_1 l0_1.length c0_1, .int .i64 a0_2] 58 (0, 0)) (by (with_reducible repeat (first | refine blk_drewN ?_ _ | refine blk_drew ?_ | refine blk_alloc ?_ _)); exact BK112.out) hb); have n5_ := Aside0.mk (blk_below (g := gb113) (o := .cells #[.int .i64 x114000_1, .int .i64 x114001_1, .int .u64 x114002_1, .int .u64 x114003_1, .int .u8 x114004_1, .int .i64 x114005_1] 65 (0, 0)) (by (with_reducible repeat (first | refine blk_drewN ?_ _ | refine blk_drew ?_ | refine blk_alloc ?_ _)); exact BK113.out) hb); have n6_ := Aside0.mk (Kd.C_below (by repeat (first | (with_reducible exact HR117_0.out) | (with_reducible refine Kd.C_alloc ?_ _) | (with_reducible refine Kd.C_drewN ?_ _) | (with_reducible refine Kd.C_drew ?_) | exact HR117_0.out)) hb); have n7_ := Aside0.mk (below_step (by repeat (first | (with_reducible first | exact HB.out | apply below_alloc | apply pw_below_drewN | apply below_drew1 | refine below_set ?_ GE112.out | refine below_set ?_ GE113.out) | exact HB.out)) hb); clear HO_13; clear HO_113000; clear HO_113001; clear HL117_0; clear BK112; clear BK113; clear HR117_0; clear HB; have HO_13 := n0_; have HO_113000 := n1_; have HO_113001 := n2_; have HL117_0 := n3_; have BK112 := n4_; have BK113 := n5_; have HR117_0 := n6_; have HB := n7_; clear n0_ n1_ n2_ n3_ n4_ n5_ n6_ n7_; (try clear hb); (try clear hb2); (try clear hk); (try clear hi)))
              go_roundg k1
              case measure => have := HK1.out; omega
              case rel => exact ⟨(wrap64 (x15_1 + 1)), (x114000_1), (x114001_1), (x114002_1), (x114003_1), (x114004_1), (x114005_1), (by first | rfl | (simp; done) | (simp [*]; done)), H', ⟨by have := HK1.out; omega⟩, ⟨by (with_reducible repeat (first | apply Kd.N_alloc | apply Kd.N_drewN | apply Kd.N_drew)); exact HO_13.out⟩, ⟨by (with_reducible repeat (first | apply Kd.V_alloc | apply Kd.V_drewN | apply Kd.V_drew)); exact HO_113000.out⟩, ⟨by (with_reducible repeat (first | apply Kd.V_alloc | apply Kd.V_drewN | apply Kd.V_drew)); exact HO_113001.out⟩, ⟨by (with_reducible repeat (first | refine blk_drewN ?_ _ | refine blk_drew ?_ | refine blk_alloc ?_ _)); exact BK112.out⟩, ⟨by (with_reducible repeat (first | refine blk_drewN ?_ _ | refine blk_drew ?_ | refine blk_alloc ?_ _)); exact BK113.out⟩, ⟨by repeat (first | (with_reducible first | exact HB.out | apply below_alloc | apply pw_below_drewN | apply below_drew1 | refine below_set ?_ GE112.out | refine below_set ?_ GE113.out) | exact HB.out)⟩⟩
          · rw [if_neg c12] at H
            exact absurd H (by simp)
        · rw [if_neg c11] at H
          exact absurd H (by simp)
      · rw [if_neg c10] at H
        have c10b0 : decide (x15_1 < (y114.length : Int)) = false := decide_eq_false c10
        clear c10
        simp only [Option.some.injEq, Prod.mk.injEq] at H
        obtain ⟨rfl, rfl, rfl, rfl, rfl, rfl, rfl⟩ := H
        have hnb21 := NB113_112.out
        have hnc21 := NB112_113.out
        have hcz22_0 : wr.cell? ⟨gb113, 0, none⟩ = some (.int .i64 x114000_1) := (blk_cell BK113.out 0).trans rfl
        have hcz22_1 : wr.cell? ⟨gb113, 1, none⟩ = some (.int .i64 x114001_1) := (blk_cell BK113.out 1).trans rfl
        have hcz22_2 : wr.cell? ⟨gb113, 2, none⟩ = some (.int .u64 x114002_1) := (blk_cell BK113.out 2).trans rfl
        have hcz22_3 : wr.cell? ⟨gb113, 3, none⟩ = some (.int .u64 x114003_1) := (blk_cell BK113.out 3).trans rfl
        have hcz22_4 : wr.cell? ⟨gb113, 4, none⟩ = some (.int .u8 x114004_1) := (blk_cell BK113.out 4).trans rfl
        have hcz22_5 : wr.cell? ⟨gb113, 5, none⟩ = some (.int .i64 x114005_1) := (blk_cell BK113.out 5).trans rfl
        have hfz22_0 := blk_frozen BK113.out 0
        have hfz22_1 := blk_frozen BK113.out 1
        have hfz22_2 := blk_frozen BK113.out 2
        have hfz22_3 := blk_frozen BK113.out 3
        have hfz22_4 := blk_frozen BK113.out 4
        have hfz22_5 := blk_frozen BK113.out 5
        go_wp2
        refine bodyPost_ret (results_ct rfl _ _ gb113 65 #[.int .i64 0, .int .i64 0, .int .u64 0, .int .u64 0, .int .u8 0, .int .i64 0] (0, 0) _ rfl (by (with_reducible repeat (first | refine blk_drewN ?_ _ | refine blk_drew ?_ | refine blk_alloc ?_ _)); refine blk_put (cs := #[.int .i64 0, .int .i64 0, .int .u64 0, .int .u64 0, .int .u8 0, .int .i64 x114005_1]) ?_ 5 _ rfl; (with_reducible repeat (first | refine blk_drewN ?_ _ | refine blk_drew ?_ | refine blk_alloc ?_ _)); refine blk_put (cs := #[.int .i64 0, .int .i64 0, .int .u64 0, .int .u64 0, .int .u8 x114004_1, .int .i64 x114005_1]) ?_ 4 _ rfl; (with_reducible repeat (first | refine blk_drewN ?_ _ | refine blk_drew ?_ | refine blk_alloc ?_ _)); refine blk_put (cs := #[.int .i64 0, .int .i64 0, .int .u64 0, .int .u64 x114003_1, .int .u8 x114004_1, .int .i64 x114005_1]) ?_ 3 _ rfl; (with_reducible repeat (first | refine blk_drewN ?_ _ | refine blk_drew ?_ | refine blk_alloc ?_ _)); refine blk_put (cs := #[.int .i64 0, .int .i64 0, .int .u64 x114002_1, .int .u64 x114003_1, .int .u8 x114004_1, .int .i64 x114005_1]) ?_ 2 _ rfl; (with_reducible repeat (first | refine blk_drewN ?_ _ | refine blk_drew ?_ | refine blk_alloc ?_ _)); refine blk_put (cs := #[.int .i64 0, .int .i64 x114001_1, .int .u64 x114002_1, .int .u64 x114003_1, .int .u8 x114004_1, .int .i64 x114005_1]) ?_ 1 _ rfl; (with_reducible repeat (first | refine blk_drewN ?_ _ | refine blk_drew ?_ | refine blk_alloc ?_ _)); refine blk_put (cs := #[.int .i64 x114000_1, .int .i64 x114001_1, .int .u64 x114002_1, .int .u64 x114003_1, .int .u8 x114004_1, .int .i64 x114005_1]) ?_ 0 _ rfl; (with_reducible repeat (first | refine blk_drewN ?_ _ | refine blk_drew ?_ | refine blk_alloc ?_ _)); exact BK113.out) Try.underlying65 rfl (by kernel_rfl)) rfl ?_
        exact ⟨by first | rfl | (simp [errW_none, errW_some] <;> rfl) | (simp [*, errW_none, errW_some] <;> rfl), by repeat (first | (with_reducible first | exact HB.out | apply below_alloc | apply pw_below_drewN | apply below_drew1 | refine below_set ?_ GE112.out | refine below_set ?_ GE113.out) | exact HB.out)⟩

/-! ### queue_Join: function 45 -/
/-- Whose member it is, of those that wait, else of those that are done. -/
def ofP (l0 l1 : List S65) (task : Int) : S65 × Bool :=
  if atIdx task l0 0 ≥ 0 then (rd_T65 l0 (atIdx task l0 0), true) else if atIdx task l1 0 ≥ 0 then (rd_T65 l1 (atIdx task l1 0), true) else (⟨0, 0, 0, 0, 0, 0⟩, false)
theorem at_from (task : Int) : ∀ (l : List S65) (i : Nat), atIdx task l (i : Int) = -1 ∨ ∃ j : Nat, atIdx task l (i : Int) = ((i + j : Nat) : Int) ∧ j < l.length ∧ (l.getD j z65).f0 = task
  | [], i => .inl rfl
  | x :: xs, i => by
    simp only [atIdx]
    by_cases h : x.f0 = task
    · rw [if_pos h]
      exact .inr ⟨0, by simp, by simp, by simpa using h⟩
    · rw [if_neg h]
      have e : (i : Int) + 1 = ((i + 1 : Nat) : Int) := by omega
      rw [e]
      rcases at_from task xs (i + 1) with h1 | ⟨j, h1, h2, h3⟩
      · exact .inl h1
      · exact .inr ⟨j + 1, by rw [h1]; omega, by simp; omega, by simpa using h3⟩
theorem at_lt (task : Int) (l : List S65) : atIdx task l 0 < l.length := by
  rcases at_from task l 0 with h | ⟨j, h1, h2, _⟩
  · have h' : atIdx task l 0 = -1 := h
    omega
  · have h' : atIdx task l 0 = ((0 + j : Nat) : Int) := h1
    omega
theorem of_ev (l0 l1 : List S65) (g task : Int) : queue_Of.f 3 l0 l1 g task = some ((ofP l0 l1 task).1.f0, (ofP l0 l1 task).1.f1, (ofP l0 l1 task).1.f2, (ofP l0 l1 task).1.f3, (ofP l0 l1 task).1.f4, (ofP l0 l1 task).1.f5, (ofP l0 l1 task).2) := by
  have h0 := at_lt task l0
  have h1 := at_lt task l1
  have e2 : (([l0, l1] : List (List S65)).length : Int) = 2 := rfl
  have r0 : rd_L4 [l0, l1] 0 = l0 := rfl
  have r1 : rd_L4 [l0, l1] 1 = l1 := rfl
  have w1 : wrap64 (0 + 1) = 1 := by unfold wrap64; omega
  have w2 : wrap64 (1 + 1) = 2 := by unfold wrap64; omega
  unfold queue_Of.f ofP
  simp only [Option.bind_some, queue_Of.l0, queue_at.f, e2, r0, r1, w1, w2]
  by_cases c0 : atIdx task l0 0 ≥ 0
  · simp only [c0, h0, if_true]
    rfl
  · by_cases c1 : atIdx task l1 0 ≥ 0
    · simp only [c0, c1, h1, if_true, if_false]
      rfl
    · simp only [c0, c1, if_false]
      rfl
theorem heap65 : Kd.Heap k65 := Kd.heap_iso _ (Kd.heap_pair (Kd.heap_int .i64) (Kd.heap_pair (Kd.heap_int .i64) (Kd.heap_pair (Kd.heap_int .u64) (Kd.heap_pair (Kd.heap_int .u64) (Kd.heap_pair (Kd.heap_int .u8) (Kd.heap_int .i64))))))
theorem V_of {w : World} {A : Option Addr} {c : Nat} {l : List S65} (h : Kd.C k65 w A l.length l) (hc : l.length ≤ c) : Kd.V k65 65 w w.heap.size (fun k_ => k_ < w.heap.size) (.slice A l.length c) l := Kd.V_mk hc (Kd.C_F heap65 h)
theorem ap_hat {W : World} {v v1 v2 : Value} {base : Nat} {ok : Nat → Prop} {xs : List S65} (h : v.ownBlock = none ∨ v.ownBlock ≠ v2.ownBlock) (hat : v1.ownBlock = v.ownBlock ∨ ∃ b, v1.ownBlock = some b ∧ W.heap.size ≤ b) (h2 : Kd.R k65 65 W base ok v2 xs) : v1.ownBlock = none ∨ v1.ownBlock ≠ v2.ownBlock := by
  rcases hat with e | ⟨b, e, hb⟩
  · rw [e]; exact h
  · refine .inr (fun e2 => ?_)
    have := Kd.R_lt h2 b (e2.symm.trans e)
    omega
def badJ (a1 a2 a3 : Int) : Bool := decide (a1 < 0) || decide (64 ≤ a1) || decide (a2 < 1) || decide (32 < a2) || decide (a3 < 1) || decide (1073741824 < a3)
def queue_Join.f (l0_0 : List (S65)) (l0_1 : List (S65)) (a0_2 : Int) (a1 : Int) (a2 : Int) (a3 : Int) : Option ((List (S65)) × (List (S65)) × Int × Bool × Int) :=
  if l0_0.length ≤ 1000000 ∧ l0_1.length ≤ 1000000 then
    (if badJ a1 a2 a3 = true then some (l0_0, l0_1, a0_2, false, 2)
     else if (ofP l0_0 l0_1 a1).2 = true then some (l0_0, l0_1, a0_2, false, 210)
     else some (l0_0 ++ [(⟨a1, a2, a3, 0, if l0_0.length = 0 then 1 else 0, 0⟩ : S65)], l0_1, a0_2, decide (l0_0.length = 0), 0))
  else none

set_option maxHeartbeats 8000000 in
set_option maxRecDepth 100000 in
theorem queue_Join.calls (A0_0 : Option Addr) (c0_0 : Nat) (l0_0 : List (S65)) (A0_1 : Option Addr) (c0_1 : Nat) (l0_1 : List (S65)) (a0_2 : Int) (a1 : Int) (a2 : Int) (a3 : Int) (r1 : List (S65)) (r2 : List (S65)) (r3 : Int) (r4 : Bool) (r5 : Int) (w : World) (hr0_0 : Kd.C k65 w A0_0 l0_0.length l0_0) (hc0_0 : l0_0.length ≤ c0_0) (hr0_1 : Kd.C k65 w A0_1 l0_1.length l0_1) (hc0_1 : l0_1.length ≤ c0_1) (h : queue_Join.f l0_0 l0_1 a0_2 a1 a2 a3 = some (r1, r2, r3, r4, r5)) :
    Calls Try.prog 45 #[.agg #[.slice A0_0 l0_0.length c0_0, .slice A0_1 l0_1.length c0_1, .int .i64 a0_2], .int .i64 a1, .int .i64 a2, .int .u64 a3] w fun e w' => ∃ v0_ v1_ : Value, e = .returned (.tuple #[.agg #[v0_, v1_, .int .i64 r3], .bool r4, .int .i64 r5]) ∧ Kd.R k65 65 w' w.heap.size (fun k_ => some k_ ≠ (v1_ : Value).ownBlock) v0_ r1 ∧ Kd.R k65 65 w' w.heap.size (fun k_ => some k_ ≠ (v0_ : Value).ownBlock) v1_ r2 ∧ Below w.heap.size w w' := by
  unfold queue_Join.f at h
  by_cases hl : l0_0.length ≤ 1000000 ∧ l0_1.length ≤ 1000000
  case neg => rw [if_neg hl] at h; cases h
  rw [if_pos hl] at h
  have HOW : Aside0 (queue_own.f l0_0 l0_1 a0_2 = some (l0_0, l0_1, a0_2)) := ⟨by unfold queue_own.f api_Member_82.f; rw [if_pos hl.1, if_pos hl.2]; rfl⟩
  have hof := of_ev l0_0 l0_1 a0_2 a1
  obtain ⟨q, inl, hq⟩ : ∃ (q : S65) (inl : Bool), ofP l0_0 l0_1 a1 = (q, inl) := ⟨_, _, rfl⟩
  rw [hq] at hof h
  obtain ⟨sj, hsj⟩ : ∃ sj : Int, (if l0_0.length = 0 then (1 : Int) else 0) = sj := ⟨_, rfl⟩
  obtain ⟨dz, hdz⟩ : ∃ dz : Bool, decide (l0_0.length = 0) = dz := ⟨_, rfl⟩
  rw [hsj, hdz] at h
  have HSJ := Aside0.mk hsj
  have HDZ := Aside0.mk hdz
  have HOF := Aside0.mk hof
  have HR0 := Aside0.mk hr0_0
  have HR1 := Aside0.mk hr0_1
  have HC0 := Aside0.mk hc0_0
  have HC1 := Aside0.mk hc0_1
  have HB := Aside0.mk (Below.refl w.heap.size w)
  have HL0 := Aside0.mk hl.1
  have hl0 : l0_0.length ≤ 1000000 := hl.1
  have HH := Aside0.mk h
  clear hr0_0 hr0_1 hc0_0 hc0_1 hl h hof hq hsj hdz
  go_enter Try.func45, Try.ntmps45
  go_upto_region 2 with (first | ((with_reducible refine gate_dst (N := 4) rfl ?_); refine box_event ?hg (N := 4) ?hd (cs := #[.slice A0_0 l0_0.length c0_0, .slice A0_1 l0_1.length c0_1, .int .i64 a0_2]) (t := 58) ?hr ?_; (case hd => rfl); (case hg => rfl); (case hr => first | (go_simp; done) | (go_simp; rfl)); intro gb4 hg w3 hbox hb; have GE_gb4 := Aside0.mk (show w.heap.size ≤ gb4 from by rw [hg]; exact below_size (by repeat (first | (with_reducible first | exact HB.out | apply below_alloc | apply pw_below_drewN | apply below_drew1) | exact HB.out))); clear hg; have n_HB := Aside0.mk (below_step (by repeat (first | (with_reducible first | exact HB.out | apply below_alloc | apply pw_below_drewN | apply below_drew1) | exact HB.out)) hb); skip; clear HB hb; have HB := n_HB; clear n_HB; have BK4 := Aside0.mk hbox; clear hbox; have bk4_0 := (blk_cell BK4.out 0).trans (show _ = some (.slice A0_0 l0_0.length c0_0) from rfl); have bk4_1 := (blk_cell BK4.out 1).trans (show _ = some (.slice A0_1 l0_1.length c0_1) from rfl); have bk4_2 := (blk_cell BK4.out 2).trans (show _ = some (.int .i64 a0_2) from rfl); have bk4_f := fun i => blk_frozen BK4.out i) | ((with_reducible refine gate_dst (N := 8) rfl ?_); refine box_event ?hg (N := 8) ?hd (cs := #[.slice none 0 0, .slice none 0 0, .int .i64 0]) (t := 58) ?hr ?_; (case hd => rfl); (case hg => rfl); (case hr => first | (go_simp; done) | (go_simp; rfl)); intro gb8 hg w3 hbox hb; have NE_gb4_gb8 := Aside0.mk (show gb4 ≠ gb8 from by rw [hg]; exact Nat.ne_of_lt (blk_lt (o := .cells #[.slice A0_0 l0_0.length c0_0, .slice A0_1 l0_1.length c0_1, .int .i64 a0_2] 58 (0, 0)) (by (with_reducible repeat (first | refine blk_drewN ?_ _ | refine blk_drew ?_ | refine blk_alloc ?_ _)); exact BK4.out))); have GE_gb8 := Aside0.mk (show w.heap.size ≤ gb8 from by rw [hg]; exact below_size (by repeat (first | (with_reducible first | exact HB.out | apply below_alloc | apply pw_below_drewN | apply below_drew1) | exact HB.out))); clear hg; have n_BK4 := Aside0.mk (blk_below (g := gb4) (o := .cells #[.slice A0_0 l0_0.length c0_0, .slice A0_1 l0_1.length c0_1, .int .i64 a0_2] 58 (0, 0)) (by (with_reducible repeat (first | refine blk_drewN ?_ _ | refine blk_drew ?_ | refine blk_alloc ?_ _)); exact BK4.out) hb); have n_HB := Aside0.mk (below_step (by repeat (first | (with_reducible first | exact HB.out | apply below_alloc | apply pw_below_drewN | apply below_drew1) | exact HB.out)) hb); clear bk4_0 bk4_1 bk4_2 bk4_f; clear BK4 HB hb; have BK4 := n_BK4; have HB := n_HB; clear n_BK4 n_HB; have BK8 := Aside0.mk hbox; clear hbox; have bk4_0 := (blk_cell BK4.out 0).trans (show _ = some (.slice A0_0 l0_0.length c0_0) from rfl); have bk4_1 := (blk_cell BK4.out 1).trans (show _ = some (.slice A0_1 l0_1.length c0_1) from rfl); have bk4_2 := (blk_cell BK4.out 2).trans (show _ = some (.int .i64 a0_2) from rfl); have bk8_0 := (blk_cell BK8.out 0).trans (show _ = some (.slice none 0 0) from rfl); have bk8_1 := (blk_cell BK8.out 1).trans (show _ = some (.slice none 0 0) from rfl); have bk8_2 := (blk_cell BK8.out 2).trans (show _ = some (.int .i64 0) from rfl); have bk4_f := fun i => blk_frozen BK4.out i; have bk8_f := fun i => blk_frozen BK8.out i) | (go_at_call 42; (with_reducible refine (queue_Of.calls 3 _ _ _ l0_0 _ _ _ l0_1 a0_2 a1 q.f0 q.f1 q.f2 q.f3 q.f4 q.f5 inl _ (V_of (Kd.C_below HR0.out HB.out) HC0.out) (V_of (Kd.C_below HR1.out HB.out) HC1.out) HOF.out).mono ?_); rintro e w5 ⟨rfl, hb⟩; have hsz := below_size (by repeat (first | (with_reducible first | exact HB.out | apply below_alloc | apply pw_below_drewN | apply below_drew1) | exact HB.out)); have n_BK4 := Aside0.mk (blk_below (g := gb4) (o := .cells #[.slice A0_0 l0_0.length c0_0, .slice A0_1 l0_1.length c0_1, .int .i64 a0_2] 58 (0, 0)) (by (with_reducible repeat (first | refine blk_drewN ?_ _ | refine blk_drew ?_ | refine blk_alloc ?_ _)); exact BK4.out) hb); have n_BK8 := Aside0.mk (blk_below (g := gb8) (o := .cells #[.slice none 0 0, .slice none 0 0, .int .i64 0] 58 (0, 0)) (by (with_reducible repeat (first | refine blk_drewN ?_ _ | refine blk_drew ?_ | refine blk_alloc ?_ _)); exact BK8.out) hb); have n_HB := Aside0.mk (below_step (by repeat (first | (with_reducible first | exact HB.out | apply below_alloc | apply pw_below_drewN | apply below_drew1) | exact HB.out)) hb); clear bk4_0 bk4_1 bk4_2 bk4_f bk8_0 bk8_1 bk8_2 bk8_f; clear BK4 BK8 HB hb; have BK4 := n_BK4; have BK8 := n_BK8; have HB := n_HB; clear n_BK4 n_BK8 n_HB; clear hsz; have bk4_0 := (blk_cell BK4.out 0).trans (show _ = some (.slice A0_0 l0_0.length c0_0) from rfl); have bk4_1 := (blk_cell BK4.out 1).trans (show _ = some (.slice A0_1 l0_1.length c0_1) from rfl); have bk4_2 := (blk_cell BK4.out 2).trans (show _ = some (.int .i64 a0_2) from rfl); have bk8_0 := (blk_cell BK8.out 0).trans (show _ = some (.slice none 0 0) from rfl); have bk8_1 := (blk_cell BK8.out 1).trans (show _ = some (.slice none 0 0) from rfl); have bk8_2 := (blk_cell BK8.out 2).trans (show _ = some (.int .i64 0) from rfl); have bk4_f := fun i => blk_frozen BK4.out i; have bk8_f := fun i => blk_frozen BK8.out i) | ((with_reducible refine gate_dst (N := 11) rfl ?_); refine box_event ?hg (N := 11) ?hd (cs := #[.int .i64 0, .int .i64 0, .int .u64 0, .int .u64 0, .int .u8 0, .int .i64 0]) (t := 65) ?hr ?_; (case hd => rfl); (case hg => rfl); (case hr => first | (go_simp; done) | (go_simp; rfl)); intro gb11 hg w3 hbox hb; have NE_gb4_gb11 := Aside0.mk (show gb4 ≠ gb11 from by rw [hg]; exact Nat.ne_of_lt (blk_lt (o := .cells #[.slice A0_0 l0_0.length c0_0, .slice A0_1 l0_1.length c0_1, .int .i64 a0_2] 58 (0, 0)) (by (with_reducible repeat (first | refine blk_drewN ?_ _ | refine blk_drew ?_ | refine blk_alloc ?_ _)); exact BK4.out))); have NE_gb8_gb11 := Aside0.mk (show gb8 ≠ gb11 from by rw [hg]; exact Nat.ne_of_lt (blk_lt (o := .cells #[.slice none 0 0, .slice none 0 0, .int .i64 0] 58 (0, 0)) (by (with_reducible repeat (first | refine blk_drewN ?_ _ | refine blk_drew ?_ | refine blk_alloc ?_ _)); exact BK8.out))); have GE_gb11 := Aside0.mk (show w.heap.size ≤ gb11 from by rw [hg]; exact below_size (by repeat (first | (with_reducible first | exact HB.out | apply below_alloc | apply pw_below_drewN | apply below_drew1) | exact HB.out))); clear hg; have n_BK4 := Aside0.mk (blk_below (g := gb4) (o := .cells #[.slice A0_0 l0_0.length c0_0, .slice A0_1 l0_1.length c0_1, .int .i64 a0_2] 58 (0, 0)) (by (with_reducible repeat (first | refine blk_drewN ?_ _ | refine blk_drew ?_ | refine blk_alloc ?_ _)); exact BK4.out) hb); have n_BK8 := Aside0.mk (blk_below (g := gb8) (o := .cells #[.slice none 0 0, .slice none 0 0, .int .i64 0] 58 (0, 0)) (by (with_reducible repeat (first | refine blk_drewN ?_ _ | refine blk_drew ?_ | refine blk_alloc ?_ _)); exact BK8.out) hb); have n_HB := Aside0.mk (below_step (by repeat (first | (with_reducible first | exact HB.out | apply below_alloc | apply pw_below_drewN | apply below_drew1) | exact HB.out)) hb); clear bk4_0 bk4_1 bk4_2 bk4_f bk8_0 bk8_1 bk8_2 bk8_f; clear BK4 BK8 HB hb; have BK4 := n_BK4; have BK8 := n_BK8; have HB := n_HB; clear n_BK4 n_BK8 n_HB; have BK11 := Aside0.mk hbox; clear hbox; have bk4_0 := (blk_cell BK4.out 0).trans (show _ = some (.slice A0_0 l0_0.length c0_0) from rfl); have bk4_1 := (blk_cell BK4.out 1).trans (show _ = some (.slice A0_1 l0_1.length c0_1) from rfl); have bk4_2 := (blk_cell BK4.out 2).trans (show _ = some (.int .i64 a0_2) from rfl); have bk8_0 := (blk_cell BK8.out 0).trans (show _ = some (.slice none 0 0) from rfl); have bk8_1 := (blk_cell BK8.out 1).trans (show _ = some (.slice none 0 0) from rfl); have bk8_2 := (blk_cell BK8.out 2).trans (show _ = some (.int .i64 0) from rfl); have bk11_0 := (blk_cell BK11.out 0).trans (show _ = some (.int .i64 0) from rfl); have bk11_1 := (blk_cell BK11.out 1).trans (show _ = some (.int .i64 0) from rfl); have bk11_2 := (blk_cell BK11.out 2).trans (show _ = some (.int .u64 0) from rfl); have bk11_3 := (blk_cell BK11.out 3).trans (show _ = some (.int .u64 0) from rfl); have bk11_4 := (blk_cell BK11.out 4).trans (show _ = some (.int .u8 0) from rfl); have bk11_5 := (blk_cell BK11.out 5).trans (show _ = some (.int .i64 0) from rfl); have bk4_f := fun i => blk_frozen BK4.out i; have bk8_f := fun i => blk_frozen BK8.out i; have bk11_f := fun i => blk_frozen BK11.out i))
  clear bk4_0 bk4_1 bk4_2 bk4_f bk8_0 bk8_1 bk8_2 bk8_f bk11_0 bk11_1 bk11_2 bk11_3 bk11_4 bk11_5 bk11_f
  have s0_BK4 := blk_far BK4.out (p := ⟨gb11, 0, none⟩) NE_gb4_gb11.out (.int .i64 q.f0)
  have s0_BK8 := blk_far BK8.out (p := ⟨gb11, 0, none⟩) NE_gb8_gb11.out (.int .i64 q.f0)
  have s0_BK11 := blk_put (cs' := #[.int .i64 q.f0, .int .i64 0, .int .u64 0, .int .u64 0, .int .u8 0, .int .i64 0]) BK11.out 0 (.int .i64 q.f0) rfl
  have s0_HB := below_set (j := 0) (v := .int .i64 q.f0) HB.out GE_gb11.out
  have s1_BK4 := blk_far s0_BK4 (p := ⟨gb11, 1, none⟩) NE_gb4_gb11.out (.int .i64 q.f1)
  have s1_BK8 := blk_far s0_BK8 (p := ⟨gb11, 1, none⟩) NE_gb8_gb11.out (.int .i64 q.f1)
  have s1_BK11 := blk_put (cs' := #[.int .i64 q.f0, .int .i64 q.f1, .int .u64 0, .int .u64 0, .int .u8 0, .int .i64 0]) s0_BK11 1 (.int .i64 q.f1) rfl
  have s1_HB := below_set (j := 1) (v := .int .i64 q.f1) s0_HB GE_gb11.out
  have s2_BK4 := blk_far s1_BK4 (p := ⟨gb11, 2, none⟩) NE_gb4_gb11.out (.int .u64 q.f2)
  have s2_BK8 := blk_far s1_BK8 (p := ⟨gb11, 2, none⟩) NE_gb8_gb11.out (.int .u64 q.f2)
  have s2_BK11 := blk_put (cs' := #[.int .i64 q.f0, .int .i64 q.f1, .int .u64 q.f2, .int .u64 0, .int .u8 0, .int .i64 0]) s1_BK11 2 (.int .u64 q.f2) rfl
  have s2_HB := below_set (j := 2) (v := .int .u64 q.f2) s1_HB GE_gb11.out
  have s3_BK4 := blk_far s2_BK4 (p := ⟨gb11, 3, none⟩) NE_gb4_gb11.out (.int .u64 q.f3)
  have s3_BK8 := blk_far s2_BK8 (p := ⟨gb11, 3, none⟩) NE_gb8_gb11.out (.int .u64 q.f3)
  have s3_BK11 := blk_put (cs' := #[.int .i64 q.f0, .int .i64 q.f1, .int .u64 q.f2, .int .u64 q.f3, .int .u8 0, .int .i64 0]) s2_BK11 3 (.int .u64 q.f3) rfl
  have s3_HB := below_set (j := 3) (v := .int .u64 q.f3) s2_HB GE_gb11.out
  have s4_BK4 := blk_far s3_BK4 (p := ⟨gb11, 4, none⟩) NE_gb4_gb11.out (.int .u8 q.f4)
  have s4_BK8 := blk_far s3_BK8 (p := ⟨gb11, 4, none⟩) NE_gb8_gb11.out (.int .u8 q.f4)
  have s4_BK11 := blk_put (cs' := #[.int .i64 q.f0, .int .i64 q.f1, .int .u64 q.f2, .int .u64 q.f3, .int .u8 q.f4, .int .i64 0]) s3_BK11 4 (.int .u8 q.f4) rfl
  have s4_HB := below_set (j := 4) (v := .int .u8 q.f4) s3_HB GE_gb11.out
  have s5_BK4 := blk_far s4_BK4 (p := ⟨gb11, 5, none⟩) NE_gb4_gb11.out (.int .i64 q.f5)
  have s5_BK8 := blk_far s4_BK8 (p := ⟨gb11, 5, none⟩) NE_gb8_gb11.out (.int .i64 q.f5)
  have s5_BK11 := blk_put (cs' := #[.int .i64 q.f0, .int .i64 q.f1, .int .u64 q.f2, .int .u64 q.f3, .int .u8 q.f4, .int .i64 q.f5]) s4_BK11 5 (.int .i64 q.f5) rfl
  have s5_HB := below_set (j := 5) (v := .int .i64 q.f5) s4_HB GE_gb11.out
  have n_BK4 := Aside0.mk s5_BK4
  have n_BK8 := Aside0.mk s5_BK8
  have n_BK11 := Aside0.mk s5_BK11
  have n_HB := Aside0.mk s5_HB
  clear s0_BK4 s0_BK8 s0_BK11 s0_HB
  clear s1_BK4 s1_BK8 s1_BK11 s1_HB
  clear s2_BK4 s2_BK8 s2_BK11 s2_HB
  clear s3_BK4 s3_BK8 s3_BK11 s3_HB
  clear s4_BK4 s4_BK8 s4_BK11 s4_HB
  clear s5_BK4 s5_BK8 s5_BK11 s5_HB
  clear BK4 BK8 BK11 HB
  generalize ((((((w3.setCell ⟨gb11, 0, none⟩ (.int .i64 q.f0)).setCell ⟨gb11, 1, none⟩ (.int .i64 q.f1)).setCell ⟨gb11, 2, none⟩ (.int .u64 q.f2)).setCell ⟨gb11, 3, none⟩ (.int .u64 q.f3)).setCell ⟨gb11, 4, none⟩ (.int .u8 q.f4)).setCell ⟨gb11, 5, none⟩ (.int .i64 q.f5)) = w4 at n_BK4 n_BK8 n_BK11 n_HB ⊢
  have BK4 := n_BK4
  have BK8 := n_BK8
  have BK11 := n_BK11
  have HB := n_HB
  clear n_BK4 n_BK8 n_BK11 n_HB
  have bk4_0 := (blk_cell BK4.out 0).trans (show _ = some (.slice A0_0 l0_0.length c0_0) from rfl); have bk4_1 := (blk_cell BK4.out 1).trans (show _ = some (.slice A0_1 l0_1.length c0_1) from rfl); have bk4_2 := (blk_cell BK4.out 2).trans (show _ = some (.int .i64 a0_2) from rfl); have bk8_0 := (blk_cell BK8.out 0).trans (show _ = some (.slice none 0 0) from rfl); have bk8_1 := (blk_cell BK8.out 1).trans (show _ = some (.slice none 0 0) from rfl); have bk8_2 := (blk_cell BK8.out 2).trans (show _ = some (.int .i64 0) from rfl); have bk11_0 := (blk_cell BK11.out 0).trans (show _ = some (.int .i64 q.f0) from rfl); have bk11_1 := (blk_cell BK11.out 1).trans (show _ = some (.int .i64 q.f1) from rfl); have bk11_2 := (blk_cell BK11.out 2).trans (show _ = some (.int .u64 q.f2) from rfl); have bk11_3 := (blk_cell BK11.out 3).trans (show _ = some (.int .u64 q.f3) from rfl); have bk11_4 := (blk_cell BK11.out 4).trans (show _ = some (.int .u8 q.f4) from rfl); have bk11_5 := (blk_cell BK11.out 5).trans (show _ = some (.int .i64 q.f5) from rfl); have bk4_f := fun i => blk_frozen BK4.out i; have bk8_f := fun i => blk_frozen BK8.out i; have bk11_f := fun i => blk_frozen BK11.out i
  go_upto_region 3 with (first | (go_at_call 71; (with_reducible refine (queue_own.calls _ _ l0_0 _ _ l0_1 a0_2 l0_0 l0_1 a0_2 _ (Kd.C_below HR0.out HB.out) HC0.out (Kd.C_below HR1.out HB.out) HC1.out HOW.out).mono ?_); rintro e w5 ⟨v0, v1, rfl, hr0, hr1, hb⟩; have hsz := below_size (by repeat (first | (with_reducible first | exact HB.out | apply below_alloc | apply pw_below_drewN | apply below_drew1) | exact HB.out)); have n_BK4 := Aside0.mk (blk_below (g := gb4) (o := .cells #[.slice A0_0 l0_0.length c0_0, .slice A0_1 l0_1.length c0_1, .int .i64 a0_2] 58 (0, 0)) (by (with_reducible repeat (first | refine blk_drewN ?_ _ | refine blk_drew ?_ | refine blk_alloc ?_ _)); exact BK4.out) hb); have n_BK8 := Aside0.mk (blk_below (g := gb8) (o := .cells #[.slice none 0 0, .slice none 0 0, .int .i64 0] 58 (0, 0)) (by (with_reducible repeat (first | refine blk_drewN ?_ _ | refine blk_drew ?_ | refine blk_alloc ?_ _)); exact BK8.out) hb); have n_BK11 := Aside0.mk (blk_below (g := gb11) (o := .cells #[.int .i64 q.f0, .int .i64 q.f1, .int .u64 q.f2, .int .u64 q.f3, .int .u8 q.f4, .int .i64 q.f5] 65 (0, 0)) (by (with_reducible repeat (first | refine blk_drewN ?_ _ | refine blk_drew ?_ | refine blk_alloc ?_ _)); exact BK11.out) hb); have n_HB := Aside0.mk (below_step (by repeat (first | (with_reducible first | exact HB.out | apply below_alloc | apply pw_below_drewN | apply below_drew1) | exact HB.out)) hb); clear bk4_0 bk4_1 bk4_2 bk4_f bk8_0 bk8_1 bk8_2 bk8_f bk11_0 bk11_1 bk11_2 bk11_3 bk11_4 bk11_5 bk11_f; clear BK4 BK8 BK11 HB hb; have BK4 := n_BK4; have BK8 := n_BK8; have BK11 := n_BK11; have HB := n_HB; clear n_BK4 n_BK8 n_BK11 n_HB; have HO0 := Aside0.mk (Kd.R_lower (Kd.R_mono (ok' := fun _ => True) hr0 (fun _ _ => trivial)) hsz); have HO1 := Aside0.mk (Kd.R_lower (Kd.R_mono (ok' := fun _ => True) hr1 (fun _ _ => trivial)) hsz); clear hsz; have HAP := Aside0.mk (Kd.R_apart2 hr0 hr1); clear hr0 hr1; obtain ⟨Ax, cx, ex⟩ := Kd.R_slice HO0.out; obtain ⟨Ay, cy, ey⟩ := Kd.R_slice HO1.out; subst ex; subst ey; have bk4_0 := (blk_cell BK4.out 0).trans (show _ = some (.slice A0_0 l0_0.length c0_0) from rfl); have bk4_1 := (blk_cell BK4.out 1).trans (show _ = some (.slice A0_1 l0_1.length c0_1) from rfl); have bk4_2 := (blk_cell BK4.out 2).trans (show _ = some (.int .i64 a0_2) from rfl); have bk8_0 := (blk_cell BK8.out 0).trans (show _ = some (.slice none 0 0) from rfl); have bk8_1 := (blk_cell BK8.out 1).trans (show _ = some (.slice none 0 0) from rfl); have bk8_2 := (blk_cell BK8.out 2).trans (show _ = some (.int .i64 0) from rfl); have bk11_0 := (blk_cell BK11.out 0).trans (show _ = some (.int .i64 q.f0) from rfl); have bk11_1 := (blk_cell BK11.out 1).trans (show _ = some (.int .i64 q.f1) from rfl); have bk11_2 := (blk_cell BK11.out 2).trans (show _ = some (.int .u64 q.f2) from rfl); have bk11_3 := (blk_cell BK11.out 3).trans (show _ = some (.int .u64 q.f3) from rfl); have bk11_4 := (blk_cell BK11.out 4).trans (show _ = some (.int .u8 q.f4) from rfl); have bk11_5 := (blk_cell BK11.out 5).trans (show _ = some (.int .i64 q.f5) from rfl); have bk4_f := fun i => blk_frozen BK4.out i; have bk8_f := fun i => blk_frozen BK8.out i; have bk11_f := fun i => blk_frozen BK11.out i) | ((with_reducible refine gate_dst (N := 13) rfl ?_); refine box_event ?hg (N := 13) ?hd (cs := #[.slice none 0 0, .slice none 0 0, .int .i64 0]) (t := 58) ?hr ?_; (case hd => rfl); (case hg => rfl); (case hr => first | (go_simp; done) | (go_simp; rfl)); intro gb13 hg w3 hbox hb; have NE_gb4_gb13 := Aside0.mk (show gb4 ≠ gb13 from by rw [hg]; exact Nat.ne_of_lt (blk_lt (o := .cells #[.slice A0_0 l0_0.length c0_0, .slice A0_1 l0_1.length c0_1, .int .i64 a0_2] 58 (0, 0)) (by (with_reducible repeat (first | refine blk_drewN ?_ _ | refine blk_drew ?_ | refine blk_alloc ?_ _)); exact BK4.out))); have NE_gb8_gb13 := Aside0.mk (show gb8 ≠ gb13 from by rw [hg]; exact Nat.ne_of_lt (blk_lt (o := .cells #[.slice none 0 0, .slice none 0 0, .int .i64 0] 58 (0, 0)) (by (with_reducible repeat (first | refine blk_drewN ?_ _ | refine blk_drew ?_ | refine blk_alloc ?_ _)); exact BK8.out))); have NE_gb11_gb13 := Aside0.mk (show gb11 ≠ gb13 from by rw [hg]; exact Nat.ne_of_lt (blk_lt (o := .cells #[.int .i64 q.f0, .int .i64 q.f1, .int .u64 q.f2, .int .u64 q.f3, .int .u8 q.f4, .int .i64 q.f5] 65 (0, 0)) (by (with_reducible repeat (first | refine blk_drewN ?_ _ | refine blk_drew ?_ | refine blk_alloc ?_ _)); exact BK11.out))); have GE_gb13 := Aside0.mk (show w.heap.size ≤ gb13 from by rw [hg]; exact below_size (by repeat (first | (with_reducible first | exact HB.out | apply below_alloc | apply pw_below_drewN | apply below_drew1) | exact HB.out))); clear hg; have n_BK4 := Aside0.mk (blk_below (g := gb4) (o := .cells #[.slice A0_0 l0_0.length c0_0, .slice A0_1 l0_1.length c0_1, .int .i64 a0_2] 58 (0, 0)) (by (with_reducible repeat (first | refine blk_drewN ?_ _ | refine blk_drew ?_ | refine blk_alloc ?_ _)); exact BK4.out) hb); have n_BK8 := Aside0.mk (blk_below (g := gb8) (o := .cells #[.slice none 0 0, .slice none 0 0, .int .i64 0] 58 (0, 0)) (by (with_reducible repeat (first | refine blk_drewN ?_ _ | refine blk_drew ?_ | refine blk_alloc ?_ _)); exact BK8.out) hb); have n_BK11 := Aside0.mk (blk_below (g := gb11) (o := .cells #[.int .i64 q.f0, .int .i64 q.f1, .int .u64 q.f2, .int .u64 q.f3, .int .u8 q.f4, .int .i64 q.f5] 65 (0, 0)) (by (with_reducible repeat (first | refine blk_drewN ?_ _ | refine blk_drew ?_ | refine blk_alloc ?_ _)); exact BK11.out) hb); have n_HO0 := Aside0.mk (Kd.R_below (by (with_reducible repeat (first | apply Kd.R_alloc | apply Kd.R_drewN | apply Kd.R_drew)); exact HO0.out) hb); have n_HO1 := Aside0.mk (Kd.R_below (by (with_reducible repeat (first | apply Kd.R_alloc | apply Kd.R_drewN | apply Kd.R_drew)); exact HO1.out) hb); have n_HB := Aside0.mk (below_step (by repeat (first | (with_reducible first | exact HB.out | apply below_alloc | apply pw_below_drewN | apply below_drew1) | exact HB.out)) hb); clear bk4_0 bk4_1 bk4_2 bk4_f bk8_0 bk8_1 bk8_2 bk8_f bk11_0 bk11_1 bk11_2 bk11_3 bk11_4 bk11_5 bk11_f; clear BK4 BK8 BK11 HO0 HO1 HB hb; have BK4 := n_BK4; have BK8 := n_BK8; have BK11 := n_BK11; have HO0 := n_HO0; have HO1 := n_HO1; have HB := n_HB; clear n_BK4 n_BK8 n_BK11 n_HO0 n_HO1 n_HB; have BK13 := Aside0.mk hbox; clear hbox; have bk4_0 := (blk_cell BK4.out 0).trans (show _ = some (.slice A0_0 l0_0.length c0_0) from rfl); have bk4_1 := (blk_cell BK4.out 1).trans (show _ = some (.slice A0_1 l0_1.length c0_1) from rfl); have bk4_2 := (blk_cell BK4.out 2).trans (show _ = some (.int .i64 a0_2) from rfl); have bk8_0 := (blk_cell BK8.out 0).trans (show _ = some (.slice none 0 0) from rfl); have bk8_1 := (blk_cell BK8.out 1).trans (show _ = some (.slice none 0 0) from rfl); have bk8_2 := (blk_cell BK8.out 2).trans (show _ = some (.int .i64 0) from rfl); have bk11_0 := (blk_cell BK11.out 0).trans (show _ = some (.int .i64 q.f0) from rfl); have bk11_1 := (blk_cell BK11.out 1).trans (show _ = some (.int .i64 q.f1) from rfl); have bk11_2 := (blk_cell BK11.out 2).trans (show _ = some (.int .u64 q.f2) from rfl); have bk11_3 := (blk_cell BK11.out 3).trans (show _ = some (.int .u64 q.f3) from rfl); have bk11_4 := (blk_cell BK11.out 4).trans (show _ = some (.int .u8 q.f4) from rfl); have bk11_5 := (blk_cell BK11.out 5).trans (show _ = some (.int .i64 q.f5) from rfl); have bk13_0 := (blk_cell BK13.out 0).trans (show _ = some (.slice none 0 0) from rfl); have bk13_1 := (blk_cell BK13.out 1).trans (show _ = some (.slice none 0 0) from rfl); have bk13_2 := (blk_cell BK13.out 2).trans (show _ = some (.int .i64 0) from rfl); have bk4_f := fun i => blk_frozen BK4.out i; have bk8_f := fun i => blk_frozen BK8.out i; have bk11_f := fun i => blk_frozen BK11.out i; have bk13_f := fun i => blk_frozen BK13.out i))
  clear bk4_0 bk4_1 bk4_2 bk4_f bk8_0 bk8_1 bk8_2 bk8_f bk11_0 bk11_1 bk11_2 bk11_3 bk11_4 bk11_5 bk11_f bk13_0 bk13_1 bk13_2 bk13_f
  have s0_HO0 := Kd.R_set HO0.out BK13.out (by decide) 0 (.slice Ax l0_0.length cx)
  have s0_HO1 := Kd.R_set HO1.out BK13.out (by decide) 0 (.slice Ax l0_0.length cx)
  have s0_BK4 := blk_far BK4.out (p := ⟨gb13, 0, none⟩) NE_gb4_gb13.out (.slice Ax l0_0.length cx)
  have s0_BK8 := blk_far BK8.out (p := ⟨gb13, 0, none⟩) NE_gb8_gb13.out (.slice Ax l0_0.length cx)
  have s0_BK11 := blk_far BK11.out (p := ⟨gb13, 0, none⟩) NE_gb11_gb13.out (.slice Ax l0_0.length cx)
  have s0_BK13 := blk_put (cs' := #[.slice Ax l0_0.length cx, .slice none 0 0, .int .i64 0]) BK13.out 0 (.slice Ax l0_0.length cx) rfl
  have s0_HB := below_set (j := 0) (v := .slice Ax l0_0.length cx) HB.out GE_gb13.out
  have s1_HO0 := Kd.R_set s0_HO0 s0_BK13 (by decide) 1 (.slice Ay l0_1.length cy)
  have s1_HO1 := Kd.R_set s0_HO1 s0_BK13 (by decide) 1 (.slice Ay l0_1.length cy)
  have s1_BK4 := blk_far s0_BK4 (p := ⟨gb13, 1, none⟩) NE_gb4_gb13.out (.slice Ay l0_1.length cy)
  have s1_BK8 := blk_far s0_BK8 (p := ⟨gb13, 1, none⟩) NE_gb8_gb13.out (.slice Ay l0_1.length cy)
  have s1_BK11 := blk_far s0_BK11 (p := ⟨gb13, 1, none⟩) NE_gb11_gb13.out (.slice Ay l0_1.length cy)
  have s1_BK13 := blk_put (cs' := #[.slice Ax l0_0.length cx, .slice Ay l0_1.length cy, .int .i64 0]) s0_BK13 1 (.slice Ay l0_1.length cy) rfl
  have s1_HB := below_set (j := 1) (v := .slice Ay l0_1.length cy) s0_HB GE_gb13.out
  have s2_HO0 := Kd.R_set s1_HO0 s1_BK13 (by decide) 2 (.int .i64 a0_2)
  have s2_HO1 := Kd.R_set s1_HO1 s1_BK13 (by decide) 2 (.int .i64 a0_2)
  have s2_BK4 := blk_far s1_BK4 (p := ⟨gb13, 2, none⟩) NE_gb4_gb13.out (.int .i64 a0_2)
  have s2_BK8 := blk_far s1_BK8 (p := ⟨gb13, 2, none⟩) NE_gb8_gb13.out (.int .i64 a0_2)
  have s2_BK11 := blk_far s1_BK11 (p := ⟨gb13, 2, none⟩) NE_gb11_gb13.out (.int .i64 a0_2)
  have s2_BK13 := blk_put (cs' := #[.slice Ax l0_0.length cx, .slice Ay l0_1.length cy, .int .i64 a0_2]) s1_BK13 2 (.int .i64 a0_2) rfl
  have s2_HB := below_set (j := 2) (v := .int .i64 a0_2) s1_HB GE_gb13.out
  have n_BK4 := Aside0.mk s2_BK4
  have n_BK8 := Aside0.mk s2_BK8
  have n_BK11 := Aside0.mk s2_BK11
  have n_BK13 := Aside0.mk s2_BK13
  have n_HO0 := Aside0.mk s2_HO0
  have n_HO1 := Aside0.mk s2_HO1
  have n_HB := Aside0.mk s2_HB
  clear s0_BK4 s0_BK8 s0_BK11 s0_BK13 s0_HO0 s0_HO1 s0_HB
  clear s1_BK4 s1_BK8 s1_BK11 s1_BK13 s1_HO0 s1_HO1 s1_HB
  clear s2_BK4 s2_BK8 s2_BK11 s2_BK13 s2_HO0 s2_HO1 s2_HB
  clear BK4 BK8 BK11 BK13 HO0 HO1 HB
  generalize (((w3.setCell ⟨gb13, 0, none⟩ (.slice Ax l0_0.length cx)).setCell ⟨gb13, 1, none⟩ (.slice Ay l0_1.length cy)).setCell ⟨gb13, 2, none⟩ (.int .i64 a0_2)) = w9 at n_BK4 n_BK8 n_BK11 n_BK13 n_HO0 n_HO1 n_HB ⊢
  have BK4 := n_BK4
  have BK8 := n_BK8
  have BK11 := n_BK11
  have BK13 := n_BK13
  have HO0 := n_HO0
  have HO1 := n_HO1
  have HB := n_HB
  clear n_BK4 n_BK8 n_BK11 n_BK13 n_HO0 n_HO1 n_HB
  have bk4_0 := (blk_cell BK4.out 0).trans (show _ = some (.slice A0_0 l0_0.length c0_0) from rfl); have bk4_1 := (blk_cell BK4.out 1).trans (show _ = some (.slice A0_1 l0_1.length c0_1) from rfl); have bk4_2 := (blk_cell BK4.out 2).trans (show _ = some (.int .i64 a0_2) from rfl); have bk8_0 := (blk_cell BK8.out 0).trans (show _ = some (.slice none 0 0) from rfl); have bk8_1 := (blk_cell BK8.out 1).trans (show _ = some (.slice none 0 0) from rfl); have bk8_2 := (blk_cell BK8.out 2).trans (show _ = some (.int .i64 0) from rfl); have bk11_0 := (blk_cell BK11.out 0).trans (show _ = some (.int .i64 q.f0) from rfl); have bk11_1 := (blk_cell BK11.out 1).trans (show _ = some (.int .i64 q.f1) from rfl); have bk11_2 := (blk_cell BK11.out 2).trans (show _ = some (.int .u64 q.f2) from rfl); have bk11_3 := (blk_cell BK11.out 3).trans (show _ = some (.int .u64 q.f3) from rfl); have bk11_4 := (blk_cell BK11.out 4).trans (show _ = some (.int .u8 q.f4) from rfl); have bk11_5 := (blk_cell BK11.out 5).trans (show _ = some (.int .i64 q.f5) from rfl); have bk13_0 := (blk_cell BK13.out 0).trans (show _ = some (.slice Ax l0_0.length cx) from rfl); have bk13_1 := (blk_cell BK13.out 1).trans (show _ = some (.slice Ay l0_1.length cy) from rfl); have bk13_2 := (blk_cell BK13.out 2).trans (show _ = some (.int .i64 a0_2) from rfl); have bk4_f := fun i => blk_frozen BK4.out i; have bk8_f := fun i => blk_frozen BK8.out i; have bk11_f := fun i => blk_frozen BK11.out i; have bk13_f := fun i => blk_frozen BK13.out i
  clear BK11 bk11_0 bk11_1 bk11_2 bk11_3 bk11_4 bk11_5 bk11_f
  go_cut [24] (fun v24 wx => v24 = .bool (badJ a1 a2 a3) ∧ w9 = wx)
  case first =>
    by_cases b1 : a1 < 0
    · have d1 : decide (a1 < 0) = true := decide_eq_true b1
      go_wp2
      go_meet
      case rel => exact ⟨by unfold badJ; rw [d1]; rfl, rfl⟩
    have d1 : decide (a1 < 0) = false := decide_eq_false b1
    by_cases b2 : 64 ≤ a1
    · have d2 : decide (64 ≤ a1) = true := decide_eq_true b2
      go_wp2
      go_meet
      case rel => exact ⟨by unfold badJ; rw [d1, d2]; rfl, rfl⟩
    have d2 : decide (64 ≤ a1) = false := decide_eq_false b2
    by_cases b3 : a2 < 1
    · have d3 : decide (a2 < 1) = true := decide_eq_true b3
      go_wp2
      go_meet
      case rel => exact ⟨by unfold badJ; rw [d1, d2, d3]; rfl, rfl⟩
    have d3 : decide (a2 < 1) = false := decide_eq_false b3
    by_cases b4 : 32 < a2
    · have d4 : decide (32 < a2) = true := decide_eq_true b4
      go_wp2
      go_meet
      case rel => exact ⟨by unfold badJ; rw [d1, d2, d3, d4]; rfl, rfl⟩
    have d4 : decide (32 < a2) = false := decide_eq_false b4
    by_cases b5 : a3 < 1
    · have d5 : decide (a3 < 1) = true := decide_eq_true b5
      go_wp2
      go_meet
      case rel => exact ⟨by unfold badJ; rw [d1, d2, d3, d4, d5]; rfl, rfl⟩
    have d5 : decide (a3 < 1) = false := decide_eq_false b5
    go_wp2
    go_meet
    case rel => exact ⟨by unfold badJ; rw [d1, d2, d3, d4, d5]; rfl, rfl⟩
  case rest =>
    obtain ⟨rfl, rfl⟩ := hcut
    have H := HH.out
    cases hbad : badJ a1 a2 a3
    case true =>
      rw [if_pos hbad] at H
      simp only [Option.some.injEq, Prod.mk.injEq] at H
      obtain ⟨rfl, rfl, rfl, rfl, rfl⟩ := H
      clear HH hbad
      go_wp2
      clear bk4_0 bk4_1 bk4_2 bk4_f bk8_0 bk8_1 bk8_2 bk8_f bk13_0 bk13_1 bk13_2 bk13_f
      have s0_HO0 := Kd.R_set HO0.out BK8.out (by decide) 0 (.slice Ax l0_0.length cx)
      have s0_HO1 := Kd.R_set HO1.out BK8.out (by decide) 0 (.slice Ax l0_0.length cx)
      have s0_BK4 := blk_far BK4.out (p := ⟨gb8, 0, none⟩) NE_gb4_gb8.out (.slice Ax l0_0.length cx)
      have s0_BK8 := blk_put (cs' := #[.slice Ax l0_0.length cx, .slice none 0 0, .int .i64 0]) BK8.out 0 (.slice Ax l0_0.length cx) rfl
      have s0_BK13 := blk_far BK13.out (p := ⟨gb8, 0, none⟩) (Ne.symm NE_gb8_gb13.out) (.slice Ax l0_0.length cx)
      have s0_HB := below_set (j := 0) (v := .slice Ax l0_0.length cx) HB.out GE_gb8.out
      have s1_HO0 := Kd.R_set s0_HO0 s0_BK8 (by decide) 1 (.slice Ay l0_1.length cy)
      have s1_HO1 := Kd.R_set s0_HO1 s0_BK8 (by decide) 1 (.slice Ay l0_1.length cy)
      have s1_BK4 := blk_far s0_BK4 (p := ⟨gb8, 1, none⟩) NE_gb4_gb8.out (.slice Ay l0_1.length cy)
      have s1_BK8 := blk_put (cs' := #[.slice Ax l0_0.length cx, .slice Ay l0_1.length cy, .int .i64 0]) s0_BK8 1 (.slice Ay l0_1.length cy) rfl
      have s1_BK13 := blk_far s0_BK13 (p := ⟨gb8, 1, none⟩) (Ne.symm NE_gb8_gb13.out) (.slice Ay l0_1.length cy)
      have s1_HB := below_set (j := 1) (v := .slice Ay l0_1.length cy) s0_HB GE_gb8.out
      have s2_HO0 := Kd.R_set s1_HO0 s1_BK8 (by decide) 2 (.int .i64 a0_2)
      have s2_HO1 := Kd.R_set s1_HO1 s1_BK8 (by decide) 2 (.int .i64 a0_2)
      have s2_BK4 := blk_far s1_BK4 (p := ⟨gb8, 2, none⟩) NE_gb4_gb8.out (.int .i64 a0_2)
      have s2_BK8 := blk_put (cs' := #[.slice Ax l0_0.length cx, .slice Ay l0_1.length cy, .int .i64 a0_2]) s1_BK8 2 (.int .i64 a0_2) rfl
      have s2_BK13 := blk_far s1_BK13 (p := ⟨gb8, 2, none⟩) (Ne.symm NE_gb8_gb13.out) (.int .i64 a0_2)
      have s2_HB := below_set (j := 2) (v := .int .i64 a0_2) s1_HB GE_gb8.out
      have n_BK4 := Aside0.mk s2_BK4
      have n_BK8 := Aside0.mk s2_BK8
      have n_BK13 := Aside0.mk s2_BK13
      have n_HO0 := Aside0.mk s2_HO0
      have n_HO1 := Aside0.mk s2_HO1
      have n_HB := Aside0.mk s2_HB
      clear s0_BK4 s0_BK8 s0_BK13 s0_HO0 s0_HO1 s0_HB
      clear s1_BK4 s1_BK8 s1_BK13 s1_HO0 s1_HO1 s1_HB
      clear s2_BK4 s2_BK8 s2_BK13 s2_HO0 s2_HO1 s2_HB
      clear BK4 BK8 BK13 HO0 HO1 HB
      generalize (((w9.setCell ⟨gb8, 0, none⟩ (.slice Ax l0_0.length cx)).setCell ⟨gb8, 1, none⟩ (.slice Ay l0_1.length cy)).setCell ⟨gb8, 2, none⟩ (.int .i64 a0_2)) = w12 at n_BK4 n_BK8 n_BK13 n_HO0 n_HO1 n_HB ⊢
      have BK4 := n_BK4
      have BK8 := n_BK8
      have BK13 := n_BK13
      have HO0 := n_HO0
      have HO1 := n_HO1
      have HB := n_HB
      clear n_BK4 n_BK8 n_BK13 n_HO0 n_HO1 n_HB
      have bk4_0 := (blk_cell BK4.out 0).trans (show _ = some (.slice A0_0 l0_0.length c0_0) from rfl); have bk4_1 := (blk_cell BK4.out 1).trans (show _ = some (.slice A0_1 l0_1.length c0_1) from rfl); have bk4_2 := (blk_cell BK4.out 2).trans (show _ = some (.int .i64 a0_2) from rfl); have bk8_0 := (blk_cell BK8.out 0).trans (show _ = some (.slice Ax l0_0.length cx) from rfl); have bk8_1 := (blk_cell BK8.out 1).trans (show _ = some (.slice Ay l0_1.length cy) from rfl); have bk8_2 := (blk_cell BK8.out 2).trans (show _ = some (.int .i64 a0_2) from rfl); have bk13_0 := (blk_cell BK13.out 0).trans (show _ = some (.slice Ax l0_0.length cx) from rfl); have bk13_1 := (blk_cell BK13.out 1).trans (show _ = some (.slice Ay l0_1.length cy) from rfl); have bk13_2 := (blk_cell BK13.out 2).trans (show _ = some (.int .i64 a0_2) from rfl); have bk4_f := fun i => blk_frozen BK4.out i; have bk8_f := fun i => blk_frozen BK8.out i; have bk13_f := fun i => blk_frozen BK13.out i
      refine bodyPost_ret (results_ctt rfl _ _ gb8 58 #[.slice Ax l0_0.length cx, .slice Ay l0_1.length cy, .int .i64 a0_2] (0, 0) _ rfl BK8.out Try.underlying58 rfl (by kernel_rfl)) rfl ?_
      exact ⟨_, _, rfl, Kd.R_reok rfl HO0.out (ap0 HAP.out), Kd.R_reok rfl HO1.out (ap1 HAP.out), HB.out⟩
    case false =>
      rw [if_neg (by rw [hbad]; decide)] at H
      cases hin : inl
      case true =>
        rw [if_pos hin] at H
        simp only [Option.some.injEq, Prod.mk.injEq] at H
        obtain ⟨rfl, rfl, rfl, rfl, rfl⟩ := H
        clear HH hbad
        go_wp2
        clear bk4_0 bk4_1 bk4_2 bk4_f bk8_0 bk8_1 bk8_2 bk8_f bk13_0 bk13_1 bk13_2 bk13_f
        have s0_HO0 := Kd.R_set HO0.out BK8.out (by decide) 0 (.slice Ax l0_0.length cx)
        have s0_HO1 := Kd.R_set HO1.out BK8.out (by decide) 0 (.slice Ax l0_0.length cx)
        have s0_BK4 := blk_far BK4.out (p := ⟨gb8, 0, none⟩) NE_gb4_gb8.out (.slice Ax l0_0.length cx)
        have s0_BK8 := blk_put (cs' := #[.slice Ax l0_0.length cx, .slice none 0 0, .int .i64 0]) BK8.out 0 (.slice Ax l0_0.length cx) rfl
        have s0_BK13 := blk_far BK13.out (p := ⟨gb8, 0, none⟩) (Ne.symm NE_gb8_gb13.out) (.slice Ax l0_0.length cx)
        have s0_HB := below_set (j := 0) (v := .slice Ax l0_0.length cx) HB.out GE_gb8.out
        have s1_HO0 := Kd.R_set s0_HO0 s0_BK8 (by decide) 1 (.slice Ay l0_1.length cy)
        have s1_HO1 := Kd.R_set s0_HO1 s0_BK8 (by decide) 1 (.slice Ay l0_1.length cy)
        have s1_BK4 := blk_far s0_BK4 (p := ⟨gb8, 1, none⟩) NE_gb4_gb8.out (.slice Ay l0_1.length cy)
        have s1_BK8 := blk_put (cs' := #[.slice Ax l0_0.length cx, .slice Ay l0_1.length cy, .int .i64 0]) s0_BK8 1 (.slice Ay l0_1.length cy) rfl
        have s1_BK13 := blk_far s0_BK13 (p := ⟨gb8, 1, none⟩) (Ne.symm NE_gb8_gb13.out) (.slice Ay l0_1.length cy)
        have s1_HB := below_set (j := 1) (v := .slice Ay l0_1.length cy) s0_HB GE_gb8.out
        have s2_HO0 := Kd.R_set s1_HO0 s1_BK8 (by decide) 2 (.int .i64 a0_2)
        have s2_HO1 := Kd.R_set s1_HO1 s1_BK8 (by decide) 2 (.int .i64 a0_2)
        have s2_BK4 := blk_far s1_BK4 (p := ⟨gb8, 2, none⟩) NE_gb4_gb8.out (.int .i64 a0_2)
        have s2_BK8 := blk_put (cs' := #[.slice Ax l0_0.length cx, .slice Ay l0_1.length cy, .int .i64 a0_2]) s1_BK8 2 (.int .i64 a0_2) rfl
        have s2_BK13 := blk_far s1_BK13 (p := ⟨gb8, 2, none⟩) (Ne.symm NE_gb8_gb13.out) (.int .i64 a0_2)
        have s2_HB := below_set (j := 2) (v := .int .i64 a0_2) s1_HB GE_gb8.out
        have n_BK4 := Aside0.mk s2_BK4
        have n_BK8 := Aside0.mk s2_BK8
        have n_BK13 := Aside0.mk s2_BK13
        have n_HO0 := Aside0.mk s2_HO0
        have n_HO1 := Aside0.mk s2_HO1
        have n_HB := Aside0.mk s2_HB
        clear s0_BK4 s0_BK8 s0_BK13 s0_HO0 s0_HO1 s0_HB
        clear s1_BK4 s1_BK8 s1_BK13 s1_HO0 s1_HO1 s1_HB
        clear s2_BK4 s2_BK8 s2_BK13 s2_HO0 s2_HO1 s2_HB
        clear BK4 BK8 BK13 HO0 HO1 HB
        generalize (((w9.setCell ⟨gb8, 0, none⟩ (.slice Ax l0_0.length cx)).setCell ⟨gb8, 1, none⟩ (.slice Ay l0_1.length cy)).setCell ⟨gb8, 2, none⟩ (.int .i64 a0_2)) = w12 at n_BK4 n_BK8 n_BK13 n_HO0 n_HO1 n_HB ⊢
        have BK4 := n_BK4
        have BK8 := n_BK8
        have BK13 := n_BK13
        have HO0 := n_HO0
        have HO1 := n_HO1
        have HB := n_HB
        clear n_BK4 n_BK8 n_BK13 n_HO0 n_HO1 n_HB
        have bk4_0 := (blk_cell BK4.out 0).trans (show _ = some (.slice A0_0 l0_0.length c0_0) from rfl); have bk4_1 := (blk_cell BK4.out 1).trans (show _ = some (.slice A0_1 l0_1.length c0_1) from rfl); have bk4_2 := (blk_cell BK4.out 2).trans (show _ = some (.int .i64 a0_2) from rfl); have bk8_0 := (blk_cell BK8.out 0).trans (show _ = some (.slice Ax l0_0.length cx) from rfl); have bk8_1 := (blk_cell BK8.out 1).trans (show _ = some (.slice Ay l0_1.length cy) from rfl); have bk8_2 := (blk_cell BK8.out 2).trans (show _ = some (.int .i64 a0_2) from rfl); have bk13_0 := (blk_cell BK13.out 0).trans (show _ = some (.slice Ax l0_0.length cx) from rfl); have bk13_1 := (blk_cell BK13.out 1).trans (show _ = some (.slice Ay l0_1.length cy) from rfl); have bk13_2 := (blk_cell BK13.out 2).trans (show _ = some (.int .i64 a0_2) from rfl); have bk4_f := fun i => blk_frozen BK4.out i; have bk8_f := fun i => blk_frozen BK8.out i; have bk13_f := fun i => blk_frozen BK13.out i
        refine bodyPost_ret (results_ctt rfl _ _ gb8 58 #[.slice Ax l0_0.length cx, .slice Ay l0_1.length cy, .int .i64 a0_2] (0, 0) _ rfl BK8.out Try.underlying58 rfl (by kernel_rfl)) rfl ?_
        exact ⟨_, _, rfl, Kd.R_reok rfl HO0.out (ap0 HAP.out), Kd.R_reok rfl HO1.out (ap1 HAP.out), HB.out⟩
      case false =>
        rw [if_neg (by rw [hin]; decide)] at H
        simp only [Option.some.injEq, Prod.mk.injEq] at H
        obtain ⟨rfl, rfl, rfl, rfl, rfl⟩ := H
        clear HH hbad
        go_upto_region 8 with (first | ((with_reducible refine gate_dst (N := 14) rfl ?_); refine box_event ?hg (N := 14) ?hd (cs := #[.int .i64 0, .int .i64 0, .int .u64 0, .int .u64 0, .int .u8 0, .int .i64 0]) (t := 65) ?hr ?_; (case hd => rfl); (case hg => rfl); (case hr => first | (go_simp; done) | (go_simp; rfl)); intro gb14 hg w3 hbox hb; have NE_gb4_gb14 := Aside0.mk (show gb4 ≠ gb14 from by rw [hg]; exact Nat.ne_of_lt (blk_lt (o := .cells #[.slice A0_0 l0_0.length c0_0, .slice A0_1 l0_1.length c0_1, .int .i64 a0_2] 58 (0, 0)) (by (with_reducible repeat (first | refine blk_drewN ?_ _ | refine blk_drew ?_ | refine blk_alloc ?_ _)); exact BK4.out))); have NE_gb8_gb14 := Aside0.mk (show gb8 ≠ gb14 from by rw [hg]; exact Nat.ne_of_lt (blk_lt (o := .cells #[.slice none 0 0, .slice none 0 0, .int .i64 0] 58 (0, 0)) (by (with_reducible repeat (first | refine blk_drewN ?_ _ | refine blk_drew ?_ | refine blk_alloc ?_ _)); exact BK8.out))); have NE_gb13_gb14 := Aside0.mk (show gb13 ≠ gb14 from by rw [hg]; exact Nat.ne_of_lt (blk_lt (o := .cells #[.slice Ax l0_0.length cx, .slice Ay l0_1.length cy, .int .i64 a0_2] 58 (0, 0)) (by (with_reducible repeat (first | refine blk_drewN ?_ _ | refine blk_drew ?_ | refine blk_alloc ?_ _)); exact BK13.out))); have X14 : Aside0 (some gb14 ≠ (.slice Ax l0_0.length cx : Value).ownBlock) := ⟨fun e => by have := Kd.R_lt HO0.out gb14 e.symm; rw [hg] at this; exact absurd this (Nat.lt_irrefl _)⟩; have Y14 : Aside0 (some gb14 ≠ (.slice Ay l0_1.length cy : Value).ownBlock) := ⟨fun e => by have := Kd.R_lt HO1.out gb14 e.symm; rw [hg] at this; exact absurd this (Nat.lt_irrefl _)⟩; have GE_gb14 := Aside0.mk (show w.heap.size ≤ gb14 from by rw [hg]; exact below_size (by repeat (first | (with_reducible first | exact HB.out | apply below_alloc | apply pw_below_drewN | apply below_drew1) | exact HB.out))); clear hg; have n_BK4 := Aside0.mk (blk_below (g := gb4) (o := .cells #[.slice A0_0 l0_0.length c0_0, .slice A0_1 l0_1.length c0_1, .int .i64 a0_2] 58 (0, 0)) (by (with_reducible repeat (first | refine blk_drewN ?_ _ | refine blk_drew ?_ | refine blk_alloc ?_ _)); exact BK4.out) hb); have n_BK8 := Aside0.mk (blk_below (g := gb8) (o := .cells #[.slice none 0 0, .slice none 0 0, .int .i64 0] 58 (0, 0)) (by (with_reducible repeat (first | refine blk_drewN ?_ _ | refine blk_drew ?_ | refine blk_alloc ?_ _)); exact BK8.out) hb); have n_BK13 := Aside0.mk (blk_below (g := gb13) (o := .cells #[.slice Ax l0_0.length cx, .slice Ay l0_1.length cy, .int .i64 a0_2] 58 (0, 0)) (by (with_reducible repeat (first | refine blk_drewN ?_ _ | refine blk_drew ?_ | refine blk_alloc ?_ _)); exact BK13.out) hb); have n_HO0 := Aside0.mk (Kd.R_below (by (with_reducible repeat (first | apply Kd.R_alloc | apply Kd.R_drewN | apply Kd.R_drew)); exact HO0.out) hb); have n_HO1 := Aside0.mk (Kd.R_below (by (with_reducible repeat (first | apply Kd.R_alloc | apply Kd.R_drewN | apply Kd.R_drew)); exact HO1.out) hb); have n_HB := Aside0.mk (below_step (by repeat (first | (with_reducible first | exact HB.out | apply below_alloc | apply pw_below_drewN | apply below_drew1) | exact HB.out)) hb); clear bk4_0 bk4_1 bk4_2 bk4_f bk8_0 bk8_1 bk8_2 bk8_f bk13_0 bk13_1 bk13_2 bk13_f; clear BK4 BK8 BK13 HO0 HO1 HB hb; have BK4 := n_BK4; have BK8 := n_BK8; have BK13 := n_BK13; have HO0 := n_HO0; have HO1 := n_HO1; have HB := n_HB; clear n_BK4 n_BK8 n_BK13 n_HO0 n_HO1 n_HB; have BK14 := Aside0.mk hbox; clear hbox; have bk4_0 := (blk_cell BK4.out 0).trans (show _ = some (.slice A0_0 l0_0.length c0_0) from rfl); have bk4_1 := (blk_cell BK4.out 1).trans (show _ = some (.slice A0_1 l0_1.length c0_1) from rfl); have bk4_2 := (blk_cell BK4.out 2).trans (show _ = some (.int .i64 a0_2) from rfl); have bk8_0 := (blk_cell BK8.out 0).trans (show _ = some (.slice none 0 0) from rfl); have bk8_1 := (blk_cell BK8.out 1).trans (show _ = some (.slice none 0 0) from rfl); have bk8_2 := (blk_cell BK8.out 2).trans (show _ = some (.int .i64 0) from rfl); have bk13_0 := (blk_cell BK13.out 0).trans (show _ = some (.slice Ax l0_0.length cx) from rfl); have bk13_1 := (blk_cell BK13.out 1).trans (show _ = some (.slice Ay l0_1.length cy) from rfl); have bk13_2 := (blk_cell BK13.out 2).trans (show _ = some (.int .i64 a0_2) from rfl); have bk14_0 := (blk_cell BK14.out 0).trans (show _ = some (.int .i64 0) from rfl); have bk14_1 := (blk_cell BK14.out 1).trans (show _ = some (.int .i64 0) from rfl); have bk14_2 := (blk_cell BK14.out 2).trans (show _ = some (.int .u64 0) from rfl); have bk14_3 := (blk_cell BK14.out 3).trans (show _ = some (.int .u64 0) from rfl); have bk14_4 := (blk_cell BK14.out 4).trans (show _ = some (.int .u8 0) from rfl); have bk14_5 := (blk_cell BK14.out 5).trans (show _ = some (.int .i64 0) from rfl); have bk4_f := fun i => blk_frozen BK4.out i; have bk8_f := fun i => blk_frozen BK8.out i; have bk13_f := fun i => blk_frozen BK13.out i; have bk14_f := fun i => blk_frozen BK14.out i))
        clear bk4_0 bk4_1 bk4_2 bk4_f bk8_0 bk8_1 bk8_2 bk8_f bk13_0 bk13_1 bk13_2 bk13_f bk14_0 bk14_1 bk14_2 bk14_3 bk14_4 bk14_5 bk14_f
        have s0_HO0 := far_set (p := ⟨gb14, 0, none⟩) HO0.out (X14.out) (.int .i64 a1)
        have s0_HO1 := far_set (p := ⟨gb14, 0, none⟩) HO1.out (Y14.out) (.int .i64 a1)
        have s0_BK4 := blk_far BK4.out (p := ⟨gb14, 0, none⟩) NE_gb4_gb14.out (.int .i64 a1)
        have s0_BK8 := blk_far BK8.out (p := ⟨gb14, 0, none⟩) NE_gb8_gb14.out (.int .i64 a1)
        have s0_BK13 := blk_far BK13.out (p := ⟨gb14, 0, none⟩) NE_gb13_gb14.out (.int .i64 a1)
        have s0_BK14 := blk_put (cs' := #[.int .i64 a1, .int .i64 0, .int .u64 0, .int .u64 0, .int .u8 0, .int .i64 0]) BK14.out 0 (.int .i64 a1) rfl
        have s0_HB := below_set (j := 0) (v := .int .i64 a1) HB.out GE_gb14.out
        have s1_HO0 := far_set (p := ⟨gb14, 1, none⟩) s0_HO0 (X14.out) (.int .i64 a2)
        have s1_HO1 := far_set (p := ⟨gb14, 1, none⟩) s0_HO1 (Y14.out) (.int .i64 a2)
        have s1_BK4 := blk_far s0_BK4 (p := ⟨gb14, 1, none⟩) NE_gb4_gb14.out (.int .i64 a2)
        have s1_BK8 := blk_far s0_BK8 (p := ⟨gb14, 1, none⟩) NE_gb8_gb14.out (.int .i64 a2)
        have s1_BK13 := blk_far s0_BK13 (p := ⟨gb14, 1, none⟩) NE_gb13_gb14.out (.int .i64 a2)
        have s1_BK14 := blk_put (cs' := #[.int .i64 a1, .int .i64 a2, .int .u64 0, .int .u64 0, .int .u8 0, .int .i64 0]) s0_BK14 1 (.int .i64 a2) rfl
        have s1_HB := below_set (j := 1) (v := .int .i64 a2) s0_HB GE_gb14.out
        have s2_HO0 := far_set (p := ⟨gb14, 2, none⟩) s1_HO0 (X14.out) (.int .u64 a3)
        have s2_HO1 := far_set (p := ⟨gb14, 2, none⟩) s1_HO1 (Y14.out) (.int .u64 a3)
        have s2_BK4 := blk_far s1_BK4 (p := ⟨gb14, 2, none⟩) NE_gb4_gb14.out (.int .u64 a3)
        have s2_BK8 := blk_far s1_BK8 (p := ⟨gb14, 2, none⟩) NE_gb8_gb14.out (.int .u64 a3)
        have s2_BK13 := blk_far s1_BK13 (p := ⟨gb14, 2, none⟩) NE_gb13_gb14.out (.int .u64 a3)
        have s2_BK14 := blk_put (cs' := #[.int .i64 a1, .int .i64 a2, .int .u64 a3, .int .u64 0, .int .u8 0, .int .i64 0]) s1_BK14 2 (.int .u64 a3) rfl
        have s2_HB := below_set (j := 2) (v := .int .u64 a3) s1_HB GE_gb14.out
        have s3_HO0 := far_set (p := ⟨gb14, 3, none⟩) s2_HO0 (X14.out) (.int .u64 0)
        have s3_HO1 := far_set (p := ⟨gb14, 3, none⟩) s2_HO1 (Y14.out) (.int .u64 0)
        have s3_BK4 := blk_far s2_BK4 (p := ⟨gb14, 3, none⟩) NE_gb4_gb14.out (.int .u64 0)
        have s3_BK8 := blk_far s2_BK8 (p := ⟨gb14, 3, none⟩) NE_gb8_gb14.out (.int .u64 0)
        have s3_BK13 := blk_far s2_BK13 (p := ⟨gb14, 3, none⟩) NE_gb13_gb14.out (.int .u64 0)
        have s3_BK14 := blk_put (cs' := #[.int .i64 a1, .int .i64 a2, .int .u64 a3, .int .u64 0, .int .u8 0, .int .i64 0]) s2_BK14 3 (.int .u64 0) rfl
        have s3_HB := below_set (j := 3) (v := .int .u64 0) s2_HB GE_gb14.out
        have s4_HO0 := far_set (p := ⟨gb14, 4, none⟩) s3_HO0 (X14.out) (.int .u8 0)
        have s4_HO1 := far_set (p := ⟨gb14, 4, none⟩) s3_HO1 (Y14.out) (.int .u8 0)
        have s4_BK4 := blk_far s3_BK4 (p := ⟨gb14, 4, none⟩) NE_gb4_gb14.out (.int .u8 0)
        have s4_BK8 := blk_far s3_BK8 (p := ⟨gb14, 4, none⟩) NE_gb8_gb14.out (.int .u8 0)
        have s4_BK13 := blk_far s3_BK13 (p := ⟨gb14, 4, none⟩) NE_gb13_gb14.out (.int .u8 0)
        have s4_BK14 := blk_put (cs' := #[.int .i64 a1, .int .i64 a2, .int .u64 a3, .int .u64 0, .int .u8 0, .int .i64 0]) s3_BK14 4 (.int .u8 0) rfl
        have s4_HB := below_set (j := 4) (v := .int .u8 0) s3_HB GE_gb14.out
        have s5_HO0 := far_set (p := ⟨gb14, 5, none⟩) s4_HO0 (X14.out) (.int .i64 0)
        have s5_HO1 := far_set (p := ⟨gb14, 5, none⟩) s4_HO1 (Y14.out) (.int .i64 0)
        have s5_BK4 := blk_far s4_BK4 (p := ⟨gb14, 5, none⟩) NE_gb4_gb14.out (.int .i64 0)
        have s5_BK8 := blk_far s4_BK8 (p := ⟨gb14, 5, none⟩) NE_gb8_gb14.out (.int .i64 0)
        have s5_BK13 := blk_far s4_BK13 (p := ⟨gb14, 5, none⟩) NE_gb13_gb14.out (.int .i64 0)
        have s5_BK14 := blk_put (cs' := #[.int .i64 a1, .int .i64 a2, .int .u64 a3, .int .u64 0, .int .u8 0, .int .i64 0]) s4_BK14 5 (.int .i64 0) rfl
        have s5_HB := below_set (j := 5) (v := .int .i64 0) s4_HB GE_gb14.out
        have n_BK4 := Aside0.mk s5_BK4
        have n_BK8 := Aside0.mk s5_BK8
        have n_BK13 := Aside0.mk s5_BK13
        have n_BK14 := Aside0.mk s5_BK14
        have n_HO0 := Aside0.mk s5_HO0
        have n_HO1 := Aside0.mk s5_HO1
        have n_HB := Aside0.mk s5_HB
        clear s0_BK4 s0_BK8 s0_BK13 s0_BK14 s0_HO0 s0_HO1 s0_HB
        clear s1_BK4 s1_BK8 s1_BK13 s1_BK14 s1_HO0 s1_HO1 s1_HB
        clear s2_BK4 s2_BK8 s2_BK13 s2_BK14 s2_HO0 s2_HO1 s2_HB
        clear s3_BK4 s3_BK8 s3_BK13 s3_BK14 s3_HO0 s3_HO1 s3_HB
        clear s4_BK4 s4_BK8 s4_BK13 s4_BK14 s4_HO0 s4_HO1 s4_HB
        clear s5_BK4 s5_BK8 s5_BK13 s5_BK14 s5_HO0 s5_HO1 s5_HB
        clear BK4 BK8 BK13 BK14 HO0 HO1 HB
        generalize ((((((w3.setCell ⟨gb14, 0, none⟩ (.int .i64 a1)).setCell ⟨gb14, 1, none⟩ (.int .i64 a2)).setCell ⟨gb14, 2, none⟩ (.int .u64 a3)).setCell ⟨gb14, 3, none⟩ (.int .u64 0)).setCell ⟨gb14, 4, none⟩ (.int .u8 0)).setCell ⟨gb14, 5, none⟩ (.int .i64 0)) = w15 at n_BK4 n_BK8 n_BK13 n_BK14 n_HO0 n_HO1 n_HB ⊢
        have BK4 := n_BK4
        have BK8 := n_BK8
        have BK13 := n_BK13
        have BK14 := n_BK14
        have HO0 := n_HO0
        have HO1 := n_HO1
        have HB := n_HB
        clear n_BK4 n_BK8 n_BK13 n_BK14 n_HO0 n_HO1 n_HB
        have bk4_0 := (blk_cell BK4.out 0).trans (show _ = some (.slice A0_0 l0_0.length c0_0) from rfl); have bk4_1 := (blk_cell BK4.out 1).trans (show _ = some (.slice A0_1 l0_1.length c0_1) from rfl); have bk4_2 := (blk_cell BK4.out 2).trans (show _ = some (.int .i64 a0_2) from rfl); have bk8_0 := (blk_cell BK8.out 0).trans (show _ = some (.slice none 0 0) from rfl); have bk8_1 := (blk_cell BK8.out 1).trans (show _ = some (.slice none 0 0) from rfl); have bk8_2 := (blk_cell BK8.out 2).trans (show _ = some (.int .i64 0) from rfl); have bk13_0 := (blk_cell BK13.out 0).trans (show _ = some (.slice Ax l0_0.length cx) from rfl); have bk13_1 := (blk_cell BK13.out 1).trans (show _ = some (.slice Ay l0_1.length cy) from rfl); have bk13_2 := (blk_cell BK13.out 2).trans (show _ = some (.int .i64 a0_2) from rfl); have bk14_0 := (blk_cell BK14.out 0).trans (show _ = some (.int .i64 a1) from rfl); have bk14_1 := (blk_cell BK14.out 1).trans (show _ = some (.int .i64 a2) from rfl); have bk14_2 := (blk_cell BK14.out 2).trans (show _ = some (.int .u64 a3) from rfl); have bk14_3 := (blk_cell BK14.out 3).trans (show _ = some (.int .u64 0) from rfl); have bk14_4 := (blk_cell BK14.out 4).trans (show _ = some (.int .u8 0) from rfl); have bk14_5 := (blk_cell BK14.out 5).trans (show _ = some (.int .i64 0) from rfl); have bk4_f := fun i => blk_frozen BK4.out i; have bk8_f := fun i => blk_frozen BK8.out i; have bk13_f := fun i => blk_frozen BK13.out i; have bk14_f := fun i => blk_frozen BK14.out i
        go_upto_region 9 with (fail)
        generalize hb : ((l0_0.length : Int) == 0) = bz
        have HBZ := Aside0.mk hb
        clear hb
        cases bz
        case true =>
          go_upto_region 11 with (fail)
          clear bk4_0 bk4_1 bk4_2 bk4_f bk8_0 bk8_1 bk8_2 bk8_f bk13_0 bk13_1 bk13_2 bk13_f bk14_0 bk14_1 bk14_2 bk14_3 bk14_4 bk14_5 bk14_f
          have s0_HO0 := far_set (p := ⟨gb14, 4, none⟩) HO0.out (X14.out) (.int .u8 1)
          have s0_HO1 := far_set (p := ⟨gb14, 4, none⟩) HO1.out (Y14.out) (.int .u8 1)
          have s0_BK4 := blk_far BK4.out (p := ⟨gb14, 4, none⟩) NE_gb4_gb14.out (.int .u8 1)
          have s0_BK8 := blk_far BK8.out (p := ⟨gb14, 4, none⟩) NE_gb8_gb14.out (.int .u8 1)
          have s0_BK13 := blk_far BK13.out (p := ⟨gb14, 4, none⟩) NE_gb13_gb14.out (.int .u8 1)
          have s0_BK14 := blk_put (cs' := #[.int .i64 a1, .int .i64 a2, .int .u64 a3, .int .u64 0, .int .u8 1, .int .i64 0]) BK14.out 4 (.int .u8 1) rfl
          have s0_HB := below_set (j := 4) (v := .int .u8 1) HB.out GE_gb14.out
          have n_BK4 := Aside0.mk s0_BK4
          have n_BK8 := Aside0.mk s0_BK8
          have n_BK13 := Aside0.mk s0_BK13
          have n_BK14 := Aside0.mk s0_BK14
          have n_HO0 := Aside0.mk s0_HO0
          have n_HO1 := Aside0.mk s0_HO1
          have n_HB := Aside0.mk s0_HB
          clear s0_BK4 s0_BK8 s0_BK13 s0_BK14 s0_HO0 s0_HO1 s0_HB
          clear BK4 BK8 BK13 BK14 HO0 HO1 HB
          generalize (w15.setCell ⟨gb14, 4, none⟩ (.int .u8 1)) = w16 at n_BK4 n_BK8 n_BK13 n_BK14 n_HO0 n_HO1 n_HB ⊢
          have BK4 := n_BK4
          have BK8 := n_BK8
          have BK13 := n_BK13
          have BK14 := n_BK14
          have HO0 := n_HO0
          have HO1 := n_HO1
          have HB := n_HB
          clear n_BK4 n_BK8 n_BK13 n_BK14 n_HO0 n_HO1 n_HB
          have bk4_0 := (blk_cell BK4.out 0).trans (show _ = some (.slice A0_0 l0_0.length c0_0) from rfl); have bk4_1 := (blk_cell BK4.out 1).trans (show _ = some (.slice A0_1 l0_1.length c0_1) from rfl); have bk4_2 := (blk_cell BK4.out 2).trans (show _ = some (.int .i64 a0_2) from rfl); have bk8_0 := (blk_cell BK8.out 0).trans (show _ = some (.slice none 0 0) from rfl); have bk8_1 := (blk_cell BK8.out 1).trans (show _ = some (.slice none 0 0) from rfl); have bk8_2 := (blk_cell BK8.out 2).trans (show _ = some (.int .i64 0) from rfl); have bk13_0 := (blk_cell BK13.out 0).trans (show _ = some (.slice Ax l0_0.length cx) from rfl); have bk13_1 := (blk_cell BK13.out 1).trans (show _ = some (.slice Ay l0_1.length cy) from rfl); have bk13_2 := (blk_cell BK13.out 2).trans (show _ = some (.int .i64 a0_2) from rfl); have bk14_0 := (blk_cell BK14.out 0).trans (show _ = some (.int .i64 a1) from rfl); have bk14_1 := (blk_cell BK14.out 1).trans (show _ = some (.int .i64 a2) from rfl); have bk14_2 := (blk_cell BK14.out 2).trans (show _ = some (.int .u64 a3) from rfl); have bk14_3 := (blk_cell BK14.out 3).trans (show _ = some (.int .u64 0) from rfl); have bk14_4 := (blk_cell BK14.out 4).trans (show _ = some (.int .u8 1) from rfl); have bk14_5 := (blk_cell BK14.out 5).trans (show _ = some (.int .i64 0) from rfl); have bk4_f := fun i => blk_frozen BK4.out i; have bk8_f := fun i => blk_frozen BK8.out i; have bk13_f := fun i => blk_frozen BK13.out i; have bk14_f := fun i => blk_frozen BK14.out i
          obtain ⟨l1, hl1⟩ : ∃ l1, l0_0 ++ [(⟨a1, a2, a3, 0, 1, 0⟩ : S65)] = l1 := ⟨_, rfl⟩
          have HL1' := Aside0.mk hl1
          clear hl1
          have n813 := NE_gb8_gb13.out
          have n138 := Ne.symm NE_gb8_gb13.out
          go_wp2_with (first | ((with_reducible refine gate_builtin (b := .append) (xs := #[.tmp 62, .tmp 64]) rfl ?_); at_builtin; (refine Kd.R_append k65 (w0 := w) w.heap.size rfl (.tmp 62) (.tmp 64) 56 65 (.agg #[.int .i64 0, .int .i64 0, .int .u64 0, .int .u64 0, .int .u8 0, .int .i64 0]) 48 rfl Try.underlying56 info65 rfl (by decide) (by omega) (.slice Ax l0_0.length cx) l0_0 (⟨a1, a2, a3, 0, 1, 0⟩ : S65) [.int .i64 a1, .int .i64 a2, .int .u64 a3, .int .u64 0, .int .u8 1, .int .i64 0] (fun _ => True) (fun _ => False) (by first | rfl | (go_simp; done)) (by first | rfl | (go_simp; done)) (k65_mkM _ _ _ (⟨a1, a2, a3, 0, 1, 0⟩ : S65)) (fun _ hk => hk.elim) (fun _ _ => trivial) HO0.out HB.out (below_size HB.out) (by have := HL0.out; omega) ?_); intro v6 w6 ho hb hg hat; rw [HL1'.out] at ho; obtain ⟨Av, cv, ev⟩ := Kd.R_slice ho; subst ev; have HAP2 : Aside0 ((Value.slice Av l1.length cv).ownBlock = none ∨ (Value.slice Av l1.length cv).ownBlock ≠ (.slice Ay l0_1.length cy : Value).ownBlock) := ⟨ap_hat HAP.out hat HO1.out⟩; have n_BK4 := Aside0.mk (blk_grown BK4.out hg (blk_row BK4.out HO0.out (by decide))); have n_BK8 := Aside0.mk (blk_grown BK8.out hg (blk_row BK8.out HO0.out (by decide))); have n_BK13 := Aside0.mk (blk_grown BK13.out hg (blk_row BK13.out HO0.out (by decide))); have n_BK14 := Aside0.mk (blk_grown BK14.out hg X14.out); have n_HO0 := Aside0.mk (ho); have n_HO1 := Aside0.mk (Kd.R_grown2 HO1.out rfl hg (ap0 HAP.out)); have n_HB := Aside0.mk (hb); clear bk4_0 bk4_1 bk4_2 bk4_f bk8_0 bk8_1 bk8_2 bk8_f bk13_0 bk13_1 bk13_2 bk13_f bk14_0 bk14_1 bk14_2 bk14_3 bk14_4 bk14_5 bk14_f; clear BK4 BK8 BK13 BK14 HO0 HO1 HB; have BK4 := n_BK4; have BK8 := n_BK8; have BK13 := n_BK13; have BK14 := n_BK14; have HO0 := n_HO0; have HO1 := n_HO1; have HB := n_HB; clear n_BK4 n_BK8 n_BK13 n_BK14 n_HO0 n_HO1 n_HB; have bk4_0 := (blk_cell BK4.out 0).trans (show _ = some (.slice A0_0 l0_0.length c0_0) from rfl); have bk4_1 := (blk_cell BK4.out 1).trans (show _ = some (.slice A0_1 l0_1.length c0_1) from rfl); have bk4_2 := (blk_cell BK4.out 2).trans (show _ = some (.int .i64 a0_2) from rfl); have bk8_0 := (blk_cell BK8.out 0).trans (show _ = some (.slice none 0 0) from rfl); have bk8_1 := (blk_cell BK8.out 1).trans (show _ = some (.slice none 0 0) from rfl); have bk8_2 := (blk_cell BK8.out 2).trans (show _ = some (.int .i64 0) from rfl); have bk13_0 := (blk_cell BK13.out 0).trans (show _ = some (.slice Ax l0_0.length cx) from rfl); have bk13_1 := (blk_cell BK13.out 1).trans (show _ = some (.slice Ay l0_1.length cy) from rfl); have bk13_2 := (blk_cell BK13.out 2).trans (show _ = some (.int .i64 a0_2) from rfl); have bk14_0 := (blk_cell BK14.out 0).trans (show _ = some (.int .i64 a1) from rfl); have bk14_1 := (blk_cell BK14.out 1).trans (show _ = some (.int .i64 a2) from rfl); have bk14_2 := (blk_cell BK14.out 2).trans (show _ = some (.int .u64 a3) from rfl); have bk14_3 := (blk_cell BK14.out 3).trans (show _ = some (.int .u64 0) from rfl); have bk14_4 := (blk_cell BK14.out 4).trans (show _ = some (.int .u8 1) from rfl); have bk14_5 := (blk_cell BK14.out 5).trans (show _ = some (.int .i64 0) from rfl); have bk4_f := fun i => blk_frozen BK4.out i; have bk8_f := fun i => blk_frozen BK8.out i; have bk13_f := fun i => blk_frozen BK13.out i; have bk14_f := fun i => blk_frozen BK14.out i; clear ho hb hg hat))
          clear n813 n138
          clear bk4_0 bk4_1 bk4_2 bk4_f bk8_0 bk8_1 bk8_2 bk8_f bk13_0 bk13_1 bk13_2 bk13_f bk14_0 bk14_1 bk14_2 bk14_3 bk14_4 bk14_5 bk14_f
          have s0_HO0 := Kd.R_set HO0.out BK13.out (by decide) 0 (.slice Av l1.length cv)
          have s0_HO1 := Kd.R_set HO1.out BK13.out (by decide) 0 (.slice Av l1.length cv)
          have s0_BK4 := blk_far BK4.out (p := ⟨gb13, 0, none⟩) NE_gb4_gb13.out (.slice Av l1.length cv)
          have s0_BK8 := blk_far BK8.out (p := ⟨gb13, 0, none⟩) NE_gb8_gb13.out (.slice Av l1.length cv)
          have s0_BK13 := blk_put (cs' := #[.slice Av l1.length cv, .slice Ay l0_1.length cy, .int .i64 a0_2]) BK13.out 0 (.slice Av l1.length cv) rfl
          have s0_BK14 := blk_far BK14.out (p := ⟨gb13, 0, none⟩) (Ne.symm NE_gb13_gb14.out) (.slice Av l1.length cv)
          have s0_HB := below_set (j := 0) (v := .slice Av l1.length cv) HB.out GE_gb13.out
          have s1_HO0 := Kd.R_set s0_HO0 s0_BK8 (by decide) 0 (.slice Av l1.length cv)
          have s1_HO1 := Kd.R_set s0_HO1 s0_BK8 (by decide) 0 (.slice Av l1.length cv)
          have s1_BK4 := blk_far s0_BK4 (p := ⟨gb8, 0, none⟩) NE_gb4_gb8.out (.slice Av l1.length cv)
          have s1_BK8 := blk_put (cs' := #[.slice Av l1.length cv, .slice none 0 0, .int .i64 0]) s0_BK8 0 (.slice Av l1.length cv) rfl
          have s1_BK13 := blk_far s0_BK13 (p := ⟨gb8, 0, none⟩) (Ne.symm NE_gb8_gb13.out) (.slice Av l1.length cv)
          have s1_BK14 := blk_far s0_BK14 (p := ⟨gb8, 0, none⟩) (Ne.symm NE_gb8_gb14.out) (.slice Av l1.length cv)
          have s1_HB := below_set (j := 0) (v := .slice Av l1.length cv) s0_HB GE_gb8.out
          have s2_HO0 := Kd.R_set s1_HO0 s1_BK8 (by decide) 1 (.slice Ay l0_1.length cy)
          have s2_HO1 := Kd.R_set s1_HO1 s1_BK8 (by decide) 1 (.slice Ay l0_1.length cy)
          have s2_BK4 := blk_far s1_BK4 (p := ⟨gb8, 1, none⟩) NE_gb4_gb8.out (.slice Ay l0_1.length cy)
          have s2_BK8 := blk_put (cs' := #[.slice Av l1.length cv, .slice Ay l0_1.length cy, .int .i64 0]) s1_BK8 1 (.slice Ay l0_1.length cy) rfl
          have s2_BK13 := blk_far s1_BK13 (p := ⟨gb8, 1, none⟩) (Ne.symm NE_gb8_gb13.out) (.slice Ay l0_1.length cy)
          have s2_BK14 := blk_far s1_BK14 (p := ⟨gb8, 1, none⟩) (Ne.symm NE_gb8_gb14.out) (.slice Ay l0_1.length cy)
          have s2_HB := below_set (j := 1) (v := .slice Ay l0_1.length cy) s1_HB GE_gb8.out
          have s3_HO0 := Kd.R_set s2_HO0 s2_BK8 (by decide) 2 (.int .i64 a0_2)
          have s3_HO1 := Kd.R_set s2_HO1 s2_BK8 (by decide) 2 (.int .i64 a0_2)
          have s3_BK4 := blk_far s2_BK4 (p := ⟨gb8, 2, none⟩) NE_gb4_gb8.out (.int .i64 a0_2)
          have s3_BK8 := blk_put (cs' := #[.slice Av l1.length cv, .slice Ay l0_1.length cy, .int .i64 a0_2]) s2_BK8 2 (.int .i64 a0_2) rfl
          have s3_BK13 := blk_far s2_BK13 (p := ⟨gb8, 2, none⟩) (Ne.symm NE_gb8_gb13.out) (.int .i64 a0_2)
          have s3_BK14 := blk_far s2_BK14 (p := ⟨gb8, 2, none⟩) (Ne.symm NE_gb8_gb14.out) (.int .i64 a0_2)
          have s3_HB := below_set (j := 2) (v := .int .i64 a0_2) s2_HB GE_gb8.out
          have n_BK4 := Aside0.mk s3_BK4
          have n_BK8 := Aside0.mk s3_BK8
          have n_BK13 := Aside0.mk s3_BK13
          have n_BK14 := Aside0.mk s3_BK14
          have n_HO0 := Aside0.mk s3_HO0
          have n_HO1 := Aside0.mk s3_HO1
          have n_HB := Aside0.mk s3_HB
          clear s0_BK4 s0_BK8 s0_BK13 s0_BK14 s0_HO0 s0_HO1 s0_HB
          clear s1_BK4 s1_BK8 s1_BK13 s1_BK14 s1_HO0 s1_HO1 s1_HB
          clear s2_BK4 s2_BK8 s2_BK13 s2_BK14 s2_HO0 s2_HO1 s2_HB
          clear s3_BK4 s3_BK8 s3_BK13 s3_BK14 s3_HO0 s3_HO1 s3_HB
          clear BK4 BK8 BK13 BK14 HO0 HO1 HB
          generalize ((((w6.setCell ⟨gb13, 0, none⟩ (.slice Av l1.length cv)).setCell ⟨gb8, 0, none⟩ (.slice Av l1.length cv)).setCell ⟨gb8, 1, none⟩ (.slice Ay l0_1.length cy)).setCell ⟨gb8, 2, none⟩ (.int .i64 a0_2)) = w12 at n_BK4 n_BK8 n_BK13 n_BK14 n_HO0 n_HO1 n_HB ⊢
          have BK4 := n_BK4
          have BK8 := n_BK8
          have BK13 := n_BK13
          have BK14 := n_BK14
          have HO0 := n_HO0
          have HO1 := n_HO1
          have HB := n_HB
          clear n_BK4 n_BK8 n_BK13 n_BK14 n_HO0 n_HO1 n_HB
          have bk4_0 := (blk_cell BK4.out 0).trans (show _ = some (.slice A0_0 l0_0.length c0_0) from rfl); have bk4_1 := (blk_cell BK4.out 1).trans (show _ = some (.slice A0_1 l0_1.length c0_1) from rfl); have bk4_2 := (blk_cell BK4.out 2).trans (show _ = some (.int .i64 a0_2) from rfl); have bk8_0 := (blk_cell BK8.out 0).trans (show _ = some (.slice Av l1.length cv) from rfl); have bk8_1 := (blk_cell BK8.out 1).trans (show _ = some (.slice Ay l0_1.length cy) from rfl); have bk8_2 := (blk_cell BK8.out 2).trans (show _ = some (.int .i64 a0_2) from rfl); have bk13_0 := (blk_cell BK13.out 0).trans (show _ = some (.slice Av l1.length cv) from rfl); have bk13_1 := (blk_cell BK13.out 1).trans (show _ = some (.slice Ay l0_1.length cy) from rfl); have bk13_2 := (blk_cell BK13.out 2).trans (show _ = some (.int .i64 a0_2) from rfl); have bk14_0 := (blk_cell BK14.out 0).trans (show _ = some (.int .i64 a1) from rfl); have bk14_1 := (blk_cell BK14.out 1).trans (show _ = some (.int .i64 a2) from rfl); have bk14_2 := (blk_cell BK14.out 2).trans (show _ = some (.int .u64 a3) from rfl); have bk14_3 := (blk_cell BK14.out 3).trans (show _ = some (.int .u64 0) from rfl); have bk14_4 := (blk_cell BK14.out 4).trans (show _ = some (.int .u8 1) from rfl); have bk14_5 := (blk_cell BK14.out 5).trans (show _ = some (.int .i64 0) from rfl); have bk4_f := fun i => blk_frozen BK4.out i; have bk8_f := fun i => blk_frozen BK8.out i; have bk13_f := fun i => blk_frozen BK13.out i; have bk14_f := fun i => blk_frozen BK14.out i
          refine bodyPost_ret (results_ctt rfl _ _ gb8 58 #[.slice Av l1.length cv, .slice Ay l0_1.length cy, .int .i64 a0_2] (0, 0) _ rfl BK8.out Try.underlying58 rfl (by kernel_rfl)) rfl ?_
          have hz : l0_0.length = 0 := by have := eq_of_beq HBZ.out; omega
          have ez : sj = 1 := HSJ.out.symm.trans (if_pos hz)
          have ed : dz = true := HDZ.out.symm.trans (decide_eq_true hz)
          exact ⟨_, _, by rw [ed]; rfl, by rw [ez, HL1'.out]; exact Kd.R_reok rfl HO0.out (ap0 HAP2.out), Kd.R_reok rfl HO1.out (ap1 HAP2.out), HB.out⟩
        case false =>
          obtain ⟨l1, hl1⟩ : ∃ l1, l0_0 ++ [(⟨a1, a2, a3, 0, 0, 0⟩ : S65)] = l1 := ⟨_, rfl⟩
          have HL1' := Aside0.mk hl1
          clear hl1
          have n813 := NE_gb8_gb13.out
          have n138 := Ne.symm NE_gb8_gb13.out
          go_wp2_with (first | ((with_reducible refine gate_builtin (b := .append) (xs := #[.tmp 62, .tmp 64]) rfl ?_); at_builtin; (refine Kd.R_append k65 (w0 := w) w.heap.size rfl (.tmp 62) (.tmp 64) 56 65 (.agg #[.int .i64 0, .int .i64 0, .int .u64 0, .int .u64 0, .int .u8 0, .int .i64 0]) 48 rfl Try.underlying56 info65 rfl (by decide) (by omega) (.slice Ax l0_0.length cx) l0_0 (⟨a1, a2, a3, 0, 0, 0⟩ : S65) [.int .i64 a1, .int .i64 a2, .int .u64 a3, .int .u64 0, .int .u8 0, .int .i64 0] (fun _ => True) (fun _ => False) (by first | rfl | (go_simp; done)) (by first | rfl | (go_simp; done)) (k65_mkM _ _ _ (⟨a1, a2, a3, 0, 0, 0⟩ : S65)) (fun _ hk => hk.elim) (fun _ _ => trivial) HO0.out HB.out (below_size HB.out) (by have := HL0.out; omega) ?_); intro v6 w6 ho hb hg hat; rw [HL1'.out] at ho; obtain ⟨Av, cv, ev⟩ := Kd.R_slice ho; subst ev; have HAP2 : Aside0 ((Value.slice Av l1.length cv).ownBlock = none ∨ (Value.slice Av l1.length cv).ownBlock ≠ (.slice Ay l0_1.length cy : Value).ownBlock) := ⟨ap_hat HAP.out hat HO1.out⟩; have n_BK4 := Aside0.mk (blk_grown BK4.out hg (blk_row BK4.out HO0.out (by decide))); have n_BK8 := Aside0.mk (blk_grown BK8.out hg (blk_row BK8.out HO0.out (by decide))); have n_BK13 := Aside0.mk (blk_grown BK13.out hg (blk_row BK13.out HO0.out (by decide))); have n_BK14 := Aside0.mk (blk_grown BK14.out hg X14.out); have n_HO0 := Aside0.mk (ho); have n_HO1 := Aside0.mk (Kd.R_grown2 HO1.out rfl hg (ap0 HAP.out)); have n_HB := Aside0.mk (hb); clear bk4_0 bk4_1 bk4_2 bk4_f bk8_0 bk8_1 bk8_2 bk8_f bk13_0 bk13_1 bk13_2 bk13_f bk14_0 bk14_1 bk14_2 bk14_3 bk14_4 bk14_5 bk14_f; clear BK4 BK8 BK13 BK14 HO0 HO1 HB; have BK4 := n_BK4; have BK8 := n_BK8; have BK13 := n_BK13; have BK14 := n_BK14; have HO0 := n_HO0; have HO1 := n_HO1; have HB := n_HB; clear n_BK4 n_BK8 n_BK13 n_BK14 n_HO0 n_HO1 n_HB; have bk4_0 := (blk_cell BK4.out 0).trans (show _ = some (.slice A0_0 l0_0.length c0_0) from rfl); have bk4_1 := (blk_cell BK4.out 1).trans (show _ = some (.slice A0_1 l0_1.length c0_1) from rfl); have bk4_2 := (blk_cell BK4.out 2).trans (show _ = some (.int .i64 a0_2) from rfl); have bk8_0 := (blk_cell BK8.out 0).trans (show _ = some (.slice none 0 0) from rfl); have bk8_1 := (blk_cell BK8.out 1).trans (show _ = some (.slice none 0 0) from rfl); have bk8_2 := (blk_cell BK8.out 2).trans (show _ = some (.int .i64 0) from rfl); have bk13_0 := (blk_cell BK13.out 0).trans (show _ = some (.slice Ax l0_0.length cx) from rfl); have bk13_1 := (blk_cell BK13.out 1).trans (show _ = some (.slice Ay l0_1.length cy) from rfl); have bk13_2 := (blk_cell BK13.out 2).trans (show _ = some (.int .i64 a0_2) from rfl); have bk14_0 := (blk_cell BK14.out 0).trans (show _ = some (.int .i64 a1) from rfl); have bk14_1 := (blk_cell BK14.out 1).trans (show _ = some (.int .i64 a2) from rfl); have bk14_2 := (blk_cell BK14.out 2).trans (show _ = some (.int .u64 a3) from rfl); have bk14_3 := (blk_cell BK14.out 3).trans (show _ = some (.int .u64 0) from rfl); have bk14_4 := (blk_cell BK14.out 4).trans (show _ = some (.int .u8 0) from rfl); have bk14_5 := (blk_cell BK14.out 5).trans (show _ = some (.int .i64 0) from rfl); have bk4_f := fun i => blk_frozen BK4.out i; have bk8_f := fun i => blk_frozen BK8.out i; have bk13_f := fun i => blk_frozen BK13.out i; have bk14_f := fun i => blk_frozen BK14.out i; clear ho hb hg hat))
          clear n813 n138
          clear bk4_0 bk4_1 bk4_2 bk4_f bk8_0 bk8_1 bk8_2 bk8_f bk13_0 bk13_1 bk13_2 bk13_f bk14_0 bk14_1 bk14_2 bk14_3 bk14_4 bk14_5 bk14_f
          have s0_HO0 := Kd.R_set HO0.out BK13.out (by decide) 0 (.slice Av l1.length cv)
          have s0_HO1 := Kd.R_set HO1.out BK13.out (by decide) 0 (.slice Av l1.length cv)
          have s0_BK4 := blk_far BK4.out (p := ⟨gb13, 0, none⟩) NE_gb4_gb13.out (.slice Av l1.length cv)
          have s0_BK8 := blk_far BK8.out (p := ⟨gb13, 0, none⟩) NE_gb8_gb13.out (.slice Av l1.length cv)
          have s0_BK13 := blk_put (cs' := #[.slice Av l1.length cv, .slice Ay l0_1.length cy, .int .i64 a0_2]) BK13.out 0 (.slice Av l1.length cv) rfl
          have s0_BK14 := blk_far BK14.out (p := ⟨gb13, 0, none⟩) (Ne.symm NE_gb13_gb14.out) (.slice Av l1.length cv)
          have s0_HB := below_set (j := 0) (v := .slice Av l1.length cv) HB.out GE_gb13.out
          have s1_HO0 := Kd.R_set s0_HO0 s0_BK8 (by decide) 0 (.slice Av l1.length cv)
          have s1_HO1 := Kd.R_set s0_HO1 s0_BK8 (by decide) 0 (.slice Av l1.length cv)
          have s1_BK4 := blk_far s0_BK4 (p := ⟨gb8, 0, none⟩) NE_gb4_gb8.out (.slice Av l1.length cv)
          have s1_BK8 := blk_put (cs' := #[.slice Av l1.length cv, .slice none 0 0, .int .i64 0]) s0_BK8 0 (.slice Av l1.length cv) rfl
          have s1_BK13 := blk_far s0_BK13 (p := ⟨gb8, 0, none⟩) (Ne.symm NE_gb8_gb13.out) (.slice Av l1.length cv)
          have s1_BK14 := blk_far s0_BK14 (p := ⟨gb8, 0, none⟩) (Ne.symm NE_gb8_gb14.out) (.slice Av l1.length cv)
          have s1_HB := below_set (j := 0) (v := .slice Av l1.length cv) s0_HB GE_gb8.out
          have s2_HO0 := Kd.R_set s1_HO0 s1_BK8 (by decide) 1 (.slice Ay l0_1.length cy)
          have s2_HO1 := Kd.R_set s1_HO1 s1_BK8 (by decide) 1 (.slice Ay l0_1.length cy)
          have s2_BK4 := blk_far s1_BK4 (p := ⟨gb8, 1, none⟩) NE_gb4_gb8.out (.slice Ay l0_1.length cy)
          have s2_BK8 := blk_put (cs' := #[.slice Av l1.length cv, .slice Ay l0_1.length cy, .int .i64 0]) s1_BK8 1 (.slice Ay l0_1.length cy) rfl
          have s2_BK13 := blk_far s1_BK13 (p := ⟨gb8, 1, none⟩) (Ne.symm NE_gb8_gb13.out) (.slice Ay l0_1.length cy)
          have s2_BK14 := blk_far s1_BK14 (p := ⟨gb8, 1, none⟩) (Ne.symm NE_gb8_gb14.out) (.slice Ay l0_1.length cy)
          have s2_HB := below_set (j := 1) (v := .slice Ay l0_1.length cy) s1_HB GE_gb8.out
          have s3_HO0 := Kd.R_set s2_HO0 s2_BK8 (by decide) 2 (.int .i64 a0_2)
          have s3_HO1 := Kd.R_set s2_HO1 s2_BK8 (by decide) 2 (.int .i64 a0_2)
          have s3_BK4 := blk_far s2_BK4 (p := ⟨gb8, 2, none⟩) NE_gb4_gb8.out (.int .i64 a0_2)
          have s3_BK8 := blk_put (cs' := #[.slice Av l1.length cv, .slice Ay l0_1.length cy, .int .i64 a0_2]) s2_BK8 2 (.int .i64 a0_2) rfl
          have s3_BK13 := blk_far s2_BK13 (p := ⟨gb8, 2, none⟩) (Ne.symm NE_gb8_gb13.out) (.int .i64 a0_2)
          have s3_BK14 := blk_far s2_BK14 (p := ⟨gb8, 2, none⟩) (Ne.symm NE_gb8_gb14.out) (.int .i64 a0_2)
          have s3_HB := below_set (j := 2) (v := .int .i64 a0_2) s2_HB GE_gb8.out
          have n_BK4 := Aside0.mk s3_BK4
          have n_BK8 := Aside0.mk s3_BK8
          have n_BK13 := Aside0.mk s3_BK13
          have n_BK14 := Aside0.mk s3_BK14
          have n_HO0 := Aside0.mk s3_HO0
          have n_HO1 := Aside0.mk s3_HO1
          have n_HB := Aside0.mk s3_HB
          clear s0_BK4 s0_BK8 s0_BK13 s0_BK14 s0_HO0 s0_HO1 s0_HB
          clear s1_BK4 s1_BK8 s1_BK13 s1_BK14 s1_HO0 s1_HO1 s1_HB
          clear s2_BK4 s2_BK8 s2_BK13 s2_BK14 s2_HO0 s2_HO1 s2_HB
          clear s3_BK4 s3_BK8 s3_BK13 s3_BK14 s3_HO0 s3_HO1 s3_HB
          clear BK4 BK8 BK13 BK14 HO0 HO1 HB
          generalize ((((w6.setCell ⟨gb13, 0, none⟩ (.slice Av l1.length cv)).setCell ⟨gb8, 0, none⟩ (.slice Av l1.length cv)).setCell ⟨gb8, 1, none⟩ (.slice Ay l0_1.length cy)).setCell ⟨gb8, 2, none⟩ (.int .i64 a0_2)) = w12 at n_BK4 n_BK8 n_BK13 n_BK14 n_HO0 n_HO1 n_HB ⊢
          have BK4 := n_BK4
          have BK8 := n_BK8
          have BK13 := n_BK13
          have BK14 := n_BK14
          have HO0 := n_HO0
          have HO1 := n_HO1
          have HB := n_HB
          clear n_BK4 n_BK8 n_BK13 n_BK14 n_HO0 n_HO1 n_HB
          have bk4_0 := (blk_cell BK4.out 0).trans (show _ = some (.slice A0_0 l0_0.length c0_0) from rfl); have bk4_1 := (blk_cell BK4.out 1).trans (show _ = some (.slice A0_1 l0_1.length c0_1) from rfl); have bk4_2 := (blk_cell BK4.out 2).trans (show _ = some (.int .i64 a0_2) from rfl); have bk8_0 := (blk_cell BK8.out 0).trans (show _ = some (.slice Av l1.length cv) from rfl); have bk8_1 := (blk_cell BK8.out 1).trans (show _ = some (.slice Ay l0_1.length cy) from rfl); have bk8_2 := (blk_cell BK8.out 2).trans (show _ = some (.int .i64 a0_2) from rfl); have bk13_0 := (blk_cell BK13.out 0).trans (show _ = some (.slice Av l1.length cv) from rfl); have bk13_1 := (blk_cell BK13.out 1).trans (show _ = some (.slice Ay l0_1.length cy) from rfl); have bk13_2 := (blk_cell BK13.out 2).trans (show _ = some (.int .i64 a0_2) from rfl); have bk14_0 := (blk_cell BK14.out 0).trans (show _ = some (.int .i64 a1) from rfl); have bk14_1 := (blk_cell BK14.out 1).trans (show _ = some (.int .i64 a2) from rfl); have bk14_2 := (blk_cell BK14.out 2).trans (show _ = some (.int .u64 a3) from rfl); have bk14_3 := (blk_cell BK14.out 3).trans (show _ = some (.int .u64 0) from rfl); have bk14_4 := (blk_cell BK14.out 4).trans (show _ = some (.int .u8 0) from rfl); have bk14_5 := (blk_cell BK14.out 5).trans (show _ = some (.int .i64 0) from rfl); have bk4_f := fun i => blk_frozen BK4.out i; have bk8_f := fun i => blk_frozen BK8.out i; have bk13_f := fun i => blk_frozen BK13.out i; have bk14_f := fun i => blk_frozen BK14.out i
          refine bodyPost_ret (results_ctt rfl _ _ gb8 58 #[.slice Av l1.length cv, .slice Ay l0_1.length cy, .int .i64 a0_2] (0, 0) _ rfl BK8.out Try.underlying58 rfl (by kernel_rfl)) rfl ?_
          have hz : ¬ l0_0.length = 0 := fun e => by have := HBZ.out; rw [e] at this; cases this
          have ez : sj = 0 := HSJ.out.symm.trans (if_neg hz)
          have ed : dz = false := HDZ.out.symm.trans (decide_eq_false hz)
          exact ⟨_, _, by rw [ed]; rfl, by rw [ez, HL1'.out]; exact Kd.R_reok rfl HO0.out (ap0 HAP2.out), Kd.R_reok rfl HO1.out (ap1 HAP2.out), HB.out⟩

-- NOT PRINTED: function 72 (queue_each)

end Go.Proofs.Ythlahhkjoocigaa.XQueue
