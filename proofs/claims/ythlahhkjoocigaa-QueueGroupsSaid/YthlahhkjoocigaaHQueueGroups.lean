/- QueueGroups' own function, walked by hand: whatever ops, mosts and rooms, it answers true. Conditions: the ops lie in memory as they are, each within its types' bounds. -/
import Derived.Test.YthlahhkjoocigaaHQueueAt
namespace Go.Proofs.Ythlahhkjoocigaa.XQueue
open Go Go.RowKit Go.Proofs.YthlahhkjoocigaaW.PrintWords Go.Proofs.YthlahhkjoocigaaW.PrintLast Go.Proofs.YthlahhkjoocigaaW.PrintMore
attribute [local go_sem] max2_int min2_int max_two min_two max_three min_three max_four min_four
set_option linter.unusedVariables false
set_option linter.unusedSimpArgs false
def groups10.T : Bool × List (List Nat × List Nat) := (true, [([], []), ([0], [0]), ([1], [1]), ([2], [2]), ([2], [2]), ([4, 2], [2, 4]), ([5, 2], [2, 5]), ([3, 6, 2], [2, 3, 6]), ([2, 7], [2, 7]), ([8, 2], [8]), ([9], [9]), ([9], [9]), ([9], [9]), ([9], [9]), ([12, 13, 9], [9, 12, 13]), ([14, 9], [9, 14]), ([9], [9]), ([9], [9]), ([16, 17, 9], [9, 16, 17]), ([18, 9], [9, 18]), ([11, 15, 19, 9, 9], [9, 11, 15, 19]), ([10, 20, 9], [9, 10, 20]), ([9, 21], [9, 21]), ([22, 20], [22]), ([23], [23]), ([24, 23, 23], [23, 24]), ([23], [23]), ([26, 23], [23, 26]), ([27, 23], [23, 27]), ([25, 28, 23], [23, 25, 28]), ([23, 29], [23, 29])])
def groups10.B : List Nat := [0, 1, 3, 7, 7, 23, 55, 127, 255, 511, 1023, 1023, 1023, 1023, 13311, 29695, 1023, 1023, 197631, 459775, 1047551, 2097151, 4194303, 8388607, 16777215, 33554431, 16777215, 83886079, 218103807, 536870911, 1073741823]
theorem groups10.tab : rtab .any (opsOf Try.f11 10) = groups10.T := by kernel_rfl
theorem groups10.bits : waitsOk groups10.T.2 groups10.B = true := by kernel_rfl
set_option maxHeartbeats 16000000 in
set_option maxRecDepth 100000 in
theorem groups_walk (A0 : Option Addr) (c0 : Nat) (l0 : List S61) (a1 a2 a3 a4 : Int) (w : World) (hr0 : Kd.C k61 w A0 l0.length l0) (hc0 : l0.length ≤ c0) (hl0 : l0.length ≤ 9223372036854775807) (hu : ∀ x ∈ l0, OpOk x) (h10 : 0 ≤ a1) (h11 : a1 ≤ 255) (h20 : 0 ≤ a2) (h21 : a2 ≤ 255) (h30 : 0 ≤ a3) (h31 : a3 ≤ 65535) (h40 : 0 ≤ a4) (h41 : a4 ≤ 65535) :
    Calls Try.prog 11 #[.slice A0 l0.length c0, .int .u8 a1, .int .u8 a2, .int .u16 a3, .int .u16 a4] w fun e w' => e = .returned (.bool true) ∧ Below w.heap.size w w' := by
  obtain ⟨M, hM⟩ : ∃ M : Nat, (if (30 : Int) < (l0.length : Int) then (30 : Int) else (l0.length : Int)) = (M : Int) := ⟨_, (Int.toNat_of_nonneg (by split <;> omega)).symm⟩
  have hM1 : M ≤ l0.length := by split at hM <;> omega
  have hM80 : M ≤ 30 := by split at hM <;> omega
  obtain ⟨i61, hi61, hs61⟩ := Option.map_eq_some_iff.1 inf61
  have hcut := cut_to (P := Try.prog) 55 61 .i64 Try.underlying55 hi61 A0 l0.length c0 (M : Int) (by omega) (by omega) hc0
  rw [Int.toNat_natCast] at hcut
  have hr2 := Kd.C_take hr0 hM1
  have hu2 : ∀ x ∈ l0.take M, OpOk x := fun x hx => hu x (List.mem_of_mem_take hx)
  have hl2 : (l0.take M).length = M := by rw [List.length_take]; omega
  generalize l0.take M = l2 at hr2 hu2 hl2
  rw [← hl2] at hM hM1 hM80 hcut
  clear hl2 hi61 hs61
  have HR1 := Aside0.mk hr2
  have HU := Aside0.mk hu2
  have HB := Aside0.mk (Below.refl w.heap.size w)
  clear hr0 hc0 hu hr2 hu2
  go_enter Try.func11, Try.ntmps11
  go_wp2_with (first | ((with_reducible refine gate_dst (N := 11) rfl ?_); refine box_event ?hg (N := 11) ?hd (cs := #[.slice none 0 0, .slice none 0 0, .int .i64 0]) (t := 58) ?hr ?_; (case hd => rfl); (case hg => rfl); (case hr => first | (go_simp; done) | (go_simp; rfl)); intro gb11 hg w3 hbox hb; have GE_gb11 := Aside0.mk (show w.heap.size ≤ gb11 from by rw [hg]; exact below_size (by repeat (first | (with_reducible first | exact HB.out | apply below_alloc | apply pw_below_drewN | apply below_drew1) | exact HB.out))); clear hg; have n_HB := Aside0.mk (below_step (by repeat (first | (with_reducible first | exact HB.out | apply below_alloc | apply pw_below_drewN | apply below_drew1) | exact HB.out)) hb); skip; clear HB hb; have HB := n_HB; clear n_HB; have BK11 := Aside0.mk hbox; clear hbox; have bk11_0 := (blk_cell BK11.out 0).trans (show _ = some (.slice none 0 0) from rfl); have bk11_1 := (blk_cell BK11.out 1).trans (show _ = some (.slice none 0 0) from rfl); have bk11_2 := (blk_cell BK11.out 2).trans (show _ = some (.int .i64 0) from rfl); have bk11_f := fun i => blk_frozen BK11.out i))
  clear hM hcut hM1
  clear bk11_0 bk11_1 bk11_2 bk11_f
  go_loopw [29] (fun v29 wr => ∃ (i : Nat) (L : List S65) (AL : Option Addr) (cL : Nat) (AD : Option Addr) (cD : Nat), i ≤ l2.length ∧ v29 = .int .i64 i ∧ Aside0 (Inv i L [] 0) ∧ Aside0 (wr.heap[gb11]? = some (.cells #[.slice AL L.length cL, .slice AD 0 cD, .int .i64 0] 58 (0, 0))) ∧ Aside0 (Kd.R k65 65 wr w.heap.size (fun _ => True) (.slice AL L.length cL) L) ∧ Aside0 (Kd.R k65 65 wr w.heap.size (fun _ => True) (.slice AD 0 cD) []) ∧ Aside0 (Below w.heap.size w wr)) (fun v29 _ => l2.length - (intOf v29).toNat)
  case atStart => exact ⟨0, [], none, 0, none, 0, Nat.zero_le _, rfl, ⟨inv0⟩, ⟨BK11.out⟩, ⟨Kd.R_nil _ _ _ _ _⟩, ⟨Kd.R_nil _ _ _ _ _⟩, HB⟩
  case round =>
    clear BK11 HB
    obtain ⟨i, L, AL, cL, AD, cD, hi, rfl, HI, BK11, HO0, HO1, HB⟩ := hrel
    rename World => wo
    have hwb : w.heap.size ≤ wo.heap.size := below_size HB.out
    by_cases hlt : i < l2.length
    · obtain ⟨ad, e0, hx0, hx1, hx2, hx3, hx4, hx5⟩ := at_T61 HR1.out (i : Int) (by omega) (by omega)
      subst e0
      replace hx0 := (HB.out.cell (World.block_lt_of_cell? w _ hx0)).trans hx0
      replace hx1 := (HB.out.cell (World.block_lt_of_cell? w _ hx1)).trans hx1
      replace hx2 := (HB.out.cell (World.block_lt_of_cell? w _ hx2)).trans hx2
      replace hx3 := (HB.out.cell (World.block_lt_of_cell? w _ hx3)).trans hx3
      replace hx4 := (HB.out.cell (World.block_lt_of_cell? w _ hx4)).trans hx4
      replace hx5 := (HB.out.cell (World.block_lt_of_cell? w _ hx5)).trans hx5
      have hot : rd_T61 l2 (i : Int) ∈ l2 := by rw [show rd_T61 l2 (i : Int) = l2.getD i z61 by simp [rd_T61], List.getD_eq_getElem?_getD, List.getElem?_eq_getElem hlt]; exact List.getElem_mem _
      have HK := Aside0.mk (HU.out _ hot)
      simp only [Int.toNat_natCast] at hx0 hx1 hx2 hx3 hx4 hx5
      generalize rd_T61 l2 (i : Int) = o at hx0 hx1 hx2 hx3 hx4 hx5 HK
      clear hot
      have HK0 : Aside0 (OpOk ⟨0, o.f1, o.f2, o.f3, o.f4, o.f5⟩) := ⟨⟨⟨by show (0 : Int) ≤ 0; omega, by show (0 : Int) ≤ 255; omega⟩, HK.out.2⟩⟩
      have bk11_0 := (blk_cell BK11.out 0).trans (show _ = some (.slice AL L.length cL) from rfl); have bk11_1 := (blk_cell BK11.out 1).trans (show _ = some (.slice AD 0 cD) from rfl); have bk11_2 := (blk_cell BK11.out 2).trans (show _ = some (.int .i64 0) from rfl); have bk11_f := fun i => blk_frozen BK11.out i
      go_upto_region 5 with (first | ((with_reducible refine gate_dst (N := 13) rfl ?_); refine box_event ?hg (N := 13) ?hd (cs := #[.int .u8 0, .int .i64 0, .int .i64 0, .int .i64 0, .int .u64 0, .int .i64 0]) (t := 61) ?hr ?_; (case hd => rfl); (case hg => rfl); (case hr => first | (go_simp; done) | (go_simp; rfl)); intro gb13 hg w3 hbox hb; have NE_gb11_gb13 := Aside0.mk (show gb11 ≠ gb13 from by rw [hg]; exact Nat.ne_of_lt (blk_lt (o := .cells #[.slice AL L.length cL, .slice AD 0 cD, .int .i64 0] 58 (0, 0)) (by (with_reducible repeat (first | refine blk_drewN ?_ _ | refine blk_drew ?_ | refine blk_alloc ?_ _)); exact BK11.out))); have GE_gb13 := Aside0.mk (show w.heap.size ≤ gb13 from by rw [hg]; exact below_size (by repeat (first | (with_reducible first | exact HB.out | apply below_alloc | apply pw_below_drewN | apply below_drew1) | exact HB.out))); clear hg; have n_BK11 := Aside0.mk (blk_below (g := gb11) (o := .cells #[.slice AL L.length cL, .slice AD 0 cD, .int .i64 0] 58 (0, 0)) (by (with_reducible repeat (first | refine blk_drewN ?_ _ | refine blk_drew ?_ | refine blk_alloc ?_ _)); exact BK11.out) hb); have n_HO0 := Aside0.mk (Kd.R_below (by (with_reducible repeat (first | apply Kd.R_alloc | apply Kd.R_drewN | apply Kd.R_drew)); exact HO0.out) hb); have n_HO1 := Aside0.mk (Kd.R_below (by (with_reducible repeat (first | apply Kd.R_alloc | apply Kd.R_drewN | apply Kd.R_drew)); exact HO1.out) hb); have n_HB := Aside0.mk (below_step (by repeat (first | (with_reducible first | exact HB.out | apply below_alloc | apply pw_below_drewN | apply below_drew1) | exact HB.out)) hb); clear bk11_0 bk11_1 bk11_2 bk11_f; clear BK11 HO0 HO1 HB hb; have BK11 := n_BK11; have HO0 := n_HO0; have HO1 := n_HO1; have HB := n_HB; clear n_BK11 n_HO0 n_HO1 n_HB; have BK13 := Aside0.mk hbox; clear hbox; have bk11_0 := (blk_cell BK11.out 0).trans (show _ = some (.slice AL L.length cL) from rfl); have bk11_1 := (blk_cell BK11.out 1).trans (show _ = some (.slice AD 0 cD) from rfl); have bk11_2 := (blk_cell BK11.out 2).trans (show _ = some (.int .i64 0) from rfl); have bk13_0 := (blk_cell BK13.out 0).trans (show _ = some (.int .u8 0) from rfl); have bk13_1 := (blk_cell BK13.out 1).trans (show _ = some (.int .i64 0) from rfl); have bk13_2 := (blk_cell BK13.out 2).trans (show _ = some (.int .i64 0) from rfl); have bk13_3 := (blk_cell BK13.out 3).trans (show _ = some (.int .i64 0) from rfl); have bk13_4 := (blk_cell BK13.out 4).trans (show _ = some (.int .u64 0) from rfl); have bk13_5 := (blk_cell BK13.out 5).trans (show _ = some (.int .i64 0) from rfl); have bk11_f := fun i => blk_frozen BK11.out i; have bk13_f := fun i => blk_frozen BK13.out i))
      clear hx0 hx1 hx2 hx3 hx4 hx5
      clear bk11_0 bk11_1 bk11_2 bk11_f bk13_0 bk13_1 bk13_2 bk13_3 bk13_4 bk13_5 bk13_f
      have s0_HO0 := Kd.R_set HO0.out BK13.out (by decide) 0 (.int .u8 o.f0)
      have s0_HO1 := Kd.R_set HO1.out BK13.out (by decide) 0 (.int .u8 o.f0)
      have s0_BK11 := blk_far BK11.out (p := ⟨gb13, 0, none⟩) NE_gb11_gb13.out (.int .u8 o.f0)
      have s0_BK13 := blk_put (cs' := #[.int .u8 o.f0, .int .i64 0, .int .i64 0, .int .i64 0, .int .u64 0, .int .i64 0]) BK13.out 0 (.int .u8 o.f0) rfl
      have s0_HB := below_set (j := 0) (v := .int .u8 o.f0) HB.out GE_gb13.out
      have s1_HO0 := Kd.R_set s0_HO0 s0_BK13 (by decide) 1 (.int .i64 o.f1)
      have s1_HO1 := Kd.R_set s0_HO1 s0_BK13 (by decide) 1 (.int .i64 o.f1)
      have s1_BK11 := blk_far s0_BK11 (p := ⟨gb13, 1, none⟩) NE_gb11_gb13.out (.int .i64 o.f1)
      have s1_BK13 := blk_put (cs' := #[.int .u8 o.f0, .int .i64 o.f1, .int .i64 0, .int .i64 0, .int .u64 0, .int .i64 0]) s0_BK13 1 (.int .i64 o.f1) rfl
      have s1_HB := below_set (j := 1) (v := .int .i64 o.f1) s0_HB GE_gb13.out
      have s2_HO0 := Kd.R_set s1_HO0 s1_BK13 (by decide) 2 (.int .i64 o.f2)
      have s2_HO1 := Kd.R_set s1_HO1 s1_BK13 (by decide) 2 (.int .i64 o.f2)
      have s2_BK11 := blk_far s1_BK11 (p := ⟨gb13, 2, none⟩) NE_gb11_gb13.out (.int .i64 o.f2)
      have s2_BK13 := blk_put (cs' := #[.int .u8 o.f0, .int .i64 o.f1, .int .i64 o.f2, .int .i64 0, .int .u64 0, .int .i64 0]) s1_BK13 2 (.int .i64 o.f2) rfl
      have s2_HB := below_set (j := 2) (v := .int .i64 o.f2) s1_HB GE_gb13.out
      have s3_HO0 := Kd.R_set s2_HO0 s2_BK13 (by decide) 3 (.int .i64 o.f3)
      have s3_HO1 := Kd.R_set s2_HO1 s2_BK13 (by decide) 3 (.int .i64 o.f3)
      have s3_BK11 := blk_far s2_BK11 (p := ⟨gb13, 3, none⟩) NE_gb11_gb13.out (.int .i64 o.f3)
      have s3_BK13 := blk_put (cs' := #[.int .u8 o.f0, .int .i64 o.f1, .int .i64 o.f2, .int .i64 o.f3, .int .u64 0, .int .i64 0]) s2_BK13 3 (.int .i64 o.f3) rfl
      have s3_HB := below_set (j := 3) (v := .int .i64 o.f3) s2_HB GE_gb13.out
      have s4_HO0 := Kd.R_set s3_HO0 s3_BK13 (by decide) 4 (.int .u64 o.f4)
      have s4_HO1 := Kd.R_set s3_HO1 s3_BK13 (by decide) 4 (.int .u64 o.f4)
      have s4_BK11 := blk_far s3_BK11 (p := ⟨gb13, 4, none⟩) NE_gb11_gb13.out (.int .u64 o.f4)
      have s4_BK13 := blk_put (cs' := #[.int .u8 o.f0, .int .i64 o.f1, .int .i64 o.f2, .int .i64 o.f3, .int .u64 o.f4, .int .i64 0]) s3_BK13 4 (.int .u64 o.f4) rfl
      have s4_HB := below_set (j := 4) (v := .int .u64 o.f4) s3_HB GE_gb13.out
      have s5_HO0 := Kd.R_set s4_HO0 s4_BK13 (by decide) 5 (.int .i64 o.f5)
      have s5_HO1 := Kd.R_set s4_HO1 s4_BK13 (by decide) 5 (.int .i64 o.f5)
      have s5_BK11 := blk_far s4_BK11 (p := ⟨gb13, 5, none⟩) NE_gb11_gb13.out (.int .i64 o.f5)
      have s5_BK13 := blk_put (cs' := #[.int .u8 o.f0, .int .i64 o.f1, .int .i64 o.f2, .int .i64 o.f3, .int .u64 o.f4, .int .i64 o.f5]) s4_BK13 5 (.int .i64 o.f5) rfl
      have s5_HB := below_set (j := 5) (v := .int .i64 o.f5) s4_HB GE_gb13.out
      have n_BK11 := Aside0.mk s5_BK11
      have n_BK13 := Aside0.mk s5_BK13
      have n_HO0 := Aside0.mk s5_HO0
      have n_HO1 := Aside0.mk s5_HO1
      have n_HB := Aside0.mk s5_HB
      clear s0_BK11 s0_BK13 s0_HO0 s0_HO1 s0_HB
      clear s1_BK11 s1_BK13 s1_HO0 s1_HO1 s1_HB
      clear s2_BK11 s2_BK13 s2_HO0 s2_HO1 s2_HB
      clear s3_BK11 s3_BK13 s3_HO0 s3_HO1 s3_HB
      clear s4_BK11 s4_BK13 s4_HO0 s4_HO1 s4_HB
      clear s5_BK11 s5_BK13 s5_HO0 s5_HO1 s5_HB
      clear BK11 BK13 HO0 HO1 HB
      generalize ((((((w3.setCell ⟨gb13, 0, none⟩ (.int .u8 o.f0)).setCell ⟨gb13, 1, none⟩ (.int .i64 o.f1)).setCell ⟨gb13, 2, none⟩ (.int .i64 o.f2)).setCell ⟨gb13, 3, none⟩ (.int .i64 o.f3)).setCell ⟨gb13, 4, none⟩ (.int .u64 o.f4)).setCell ⟨gb13, 5, none⟩ (.int .i64 o.f5)) = w4 at n_BK11 n_BK13 n_HO0 n_HO1 n_HB ⊢
      have BK11 := n_BK11
      have BK13 := n_BK13
      have HO0 := n_HO0
      have HO1 := n_HO1
      have HB := n_HB
      clear n_BK11 n_BK13 n_HO0 n_HO1 n_HB
      have bk11_0 := (blk_cell BK11.out 0).trans (show _ = some (.slice AL L.length cL) from rfl); have bk11_1 := (blk_cell BK11.out 1).trans (show _ = some (.slice AD 0 cD) from rfl); have bk11_2 := (blk_cell BK11.out 2).trans (show _ = some (.int .i64 0) from rfl); have bk13_0 := (blk_cell BK13.out 0).trans (show _ = some (.int .u8 o.f0) from rfl); have bk13_1 := (blk_cell BK13.out 1).trans (show _ = some (.int .i64 o.f1) from rfl); have bk13_2 := (blk_cell BK13.out 2).trans (show _ = some (.int .i64 o.f2) from rfl); have bk13_3 := (blk_cell BK13.out 3).trans (show _ = some (.int .i64 o.f3) from rfl); have bk13_4 := (blk_cell BK13.out 4).trans (show _ = some (.int .u64 o.f4) from rfl); have bk13_5 := (blk_cell BK13.out 5).trans (show _ = some (.int .i64 o.f5) from rfl); have bk11_f := fun i => blk_frozen BK11.out i; have bk13_f := fun i => blk_frozen BK13.out i
      go_upto_region 6 with (fail)
      clear bk11_0 bk11_1 bk11_2 bk11_f bk13_0 bk13_1 bk13_2 bk13_3 bk13_4 bk13_5 bk13_f
      have s0_HO0 := Kd.R_set HO0.out BK13.out (by decide) 0 (.int .u8 0)
      have s0_HO1 := Kd.R_set HO1.out BK13.out (by decide) 0 (.int .u8 0)
      have s0_BK11 := blk_far BK11.out (p := ⟨gb13, 0, none⟩) NE_gb11_gb13.out (.int .u8 0)
      have s0_BK13 := blk_put (cs' := #[.int .u8 0, .int .i64 o.f1, .int .i64 o.f2, .int .i64 o.f3, .int .u64 o.f4, .int .i64 o.f5]) BK13.out 0 (.int .u8 0) rfl
      have s0_HB := below_set (j := 0) (v := .int .u8 0) HB.out GE_gb13.out
      have n_BK11 := Aside0.mk s0_BK11
      have n_BK13 := Aside0.mk s0_BK13
      have n_HO0 := Aside0.mk s0_HO0
      have n_HO1 := Aside0.mk s0_HO1
      have n_HB := Aside0.mk s0_HB
      clear s0_BK11 s0_BK13 s0_HO0 s0_HO1 s0_HB
      clear BK11 BK13 HO0 HO1 HB
      generalize (w4.setCell ⟨gb13, 0, none⟩ (.int .u8 0)) = w7 at n_BK11 n_BK13 n_HO0 n_HO1 n_HB ⊢
      have BK11 := n_BK11
      have BK13 := n_BK13
      have HO0 := n_HO0
      have HO1 := n_HO1
      have HB := n_HB
      clear n_BK11 n_BK13 n_HO0 n_HO1 n_HB
      have bk11_0 := (blk_cell BK11.out 0).trans (show _ = some (.slice AL L.length cL) from rfl); have bk11_1 := (blk_cell BK11.out 1).trans (show _ = some (.slice AD 0 cD) from rfl); have bk11_2 := (blk_cell BK11.out 2).trans (show _ = some (.int .i64 0) from rfl); have bk13_0 := (blk_cell BK13.out 0).trans (show _ = some (.int .u8 0) from rfl); have bk13_1 := (blk_cell BK13.out 1).trans (show _ = some (.int .i64 o.f1) from rfl); have bk13_2 := (blk_cell BK13.out 2).trans (show _ = some (.int .i64 o.f2) from rfl); have bk13_3 := (blk_cell BK13.out 3).trans (show _ = some (.int .i64 o.f3) from rfl); have bk13_4 := (blk_cell BK13.out 4).trans (show _ = some (.int .u64 o.f4) from rfl); have bk13_5 := (blk_cell BK13.out 5).trans (show _ = some (.int .i64 o.f5) from rfl); have bk11_f := fun i => blk_frozen BK11.out i; have bk13_f := fun i => blk_frozen BK13.out i
      have hwb4 : w.heap.size ≤ w7.heap.size := below_size HB.out
      go_upto_region 7 with (first | (go_at_call 39; (with_reducible refine (join_at0 _ _ L _ _ o.f1 o.f2 o.f3 o.f4 o.f5 _ _ i _ (Kd.R_reads' HO0.out).2.2 (Kd.R_reads' HO0.out).2.1 (Kd.R_reads' HO1.out).2.2 HI.out (by omega) HK0.out).mono ?_); rintro e w5 ⟨L2, AL2, cL2, AD2, cD2, AT, cT, rfl, hi2, ho0, ho1, hb⟩; have HI2 := Aside0.mk hi2; have n_BK11 := Aside0.mk (blk_below BK11.out hb); have n_BK13 := Aside0.mk (blk_below BK13.out hb); have n_HO2 := Aside0.mk (Kd.R_lower ho0 hwb4); have n_HO3 := Aside0.mk (Kd.R_lower ho1 hwb4); have n_HB := Aside0.mk (below_step HB.out hb); clear bk11_0 bk11_1 bk11_2 bk11_f bk13_0 bk13_1 bk13_2 bk13_3 bk13_4 bk13_5 bk13_f; clear BK11 BK13 HB HO0 HO1; have BK11 := n_BK11; have BK13 := n_BK13; have HO2 := n_HO2; have HO3 := n_HO3; have HB := n_HB; clear n_BK11 n_BK13 n_HO2 n_HO3 n_HB; have bk11_0 := (blk_cell BK11.out 0).trans (show _ = some (.slice AL L.length cL) from rfl); have bk11_1 := (blk_cell BK11.out 1).trans (show _ = some (.slice AD 0 cD) from rfl); have bk11_2 := (blk_cell BK11.out 2).trans (show _ = some (.int .i64 0) from rfl); have bk13_0 := (blk_cell BK13.out 0).trans (show _ = some (.int .u8 0) from rfl); have bk13_1 := (blk_cell BK13.out 1).trans (show _ = some (.int .i64 o.f1) from rfl); have bk13_2 := (blk_cell BK13.out 2).trans (show _ = some (.int .i64 o.f2) from rfl); have bk13_3 := (blk_cell BK13.out 3).trans (show _ = some (.int .i64 o.f3) from rfl); have bk13_4 := (blk_cell BK13.out 4).trans (show _ = some (.int .u64 o.f4) from rfl); have bk13_5 := (blk_cell BK13.out 5).trans (show _ = some (.int .i64 o.f5) from rfl); have bk11_f := fun i => blk_frozen BK11.out i; have bk13_f := fun i => blk_frozen BK13.out i; clear hi2 ho0 ho1 hb))
      clear HI hwb4
      clear bk11_0 bk11_1 bk11_2 bk11_f bk13_0 bk13_1 bk13_2 bk13_3 bk13_4 bk13_5 bk13_f
      have s0_HO2 := Kd.R_set HO2.out BK11.out (by decide) 0 (.slice AL2 L2.length cL2)
      have s0_HO3 := Kd.R_set HO3.out BK11.out (by decide) 0 (.slice AL2 L2.length cL2)
      have s0_BK11 := blk_put (cs' := #[.slice AL2 L2.length cL2, .slice AD 0 cD, .int .i64 0]) BK11.out 0 (.slice AL2 L2.length cL2) rfl
      have s0_BK13 := blk_far BK13.out (p := ⟨gb11, 0, none⟩) (Ne.symm NE_gb11_gb13.out) (.slice AL2 L2.length cL2)
      have s0_HB := below_set (j := 0) (v := .slice AL2 L2.length cL2) HB.out GE_gb11.out
      have s1_HO2 := Kd.R_set s0_HO2 s0_BK11 (by decide) 1 (.slice AD2 0 cD2)
      have s1_HO3 := Kd.R_set s0_HO3 s0_BK11 (by decide) 1 (.slice AD2 0 cD2)
      have s1_BK11 := blk_put (cs' := #[.slice AL2 L2.length cL2, .slice AD2 0 cD2, .int .i64 0]) s0_BK11 1 (.slice AD2 0 cD2) rfl
      have s1_BK13 := blk_far s0_BK13 (p := ⟨gb11, 1, none⟩) (Ne.symm NE_gb11_gb13.out) (.slice AD2 0 cD2)
      have s1_HB := below_set (j := 1) (v := .slice AD2 0 cD2) s0_HB GE_gb11.out
      have s2_HO2 := Kd.R_set s1_HO2 s1_BK11 (by decide) 2 (.int .i64 0)
      have s2_HO3 := Kd.R_set s1_HO3 s1_BK11 (by decide) 2 (.int .i64 0)
      have s2_BK11 := blk_put (cs' := #[.slice AL2 L2.length cL2, .slice AD2 0 cD2, .int .i64 0]) s1_BK11 2 (.int .i64 0) rfl
      have s2_BK13 := blk_far s1_BK13 (p := ⟨gb11, 2, none⟩) (Ne.symm NE_gb11_gb13.out) (.int .i64 0)
      have s2_HB := below_set (j := 2) (v := .int .i64 0) s1_HB GE_gb11.out
      have n_BK11 := Aside0.mk s2_BK11
      have n_BK13 := Aside0.mk s2_BK13
      have n_HO2 := Aside0.mk s2_HO2
      have n_HO3 := Aside0.mk s2_HO3
      have n_HB := Aside0.mk s2_HB
      clear s0_BK11 s0_BK13 s0_HO2 s0_HO3 s0_HB
      clear s1_BK11 s1_BK13 s1_HO2 s1_HO3 s1_HB
      clear s2_BK11 s2_BK13 s2_HO2 s2_HO3 s2_HB
      clear BK11 BK13 HO2 HO3 HB
      generalize (((w5.setCell ⟨gb11, 0, none⟩ (.slice AL2 L2.length cL2)).setCell ⟨gb11, 1, none⟩ (.slice AD2 0 cD2)).setCell ⟨gb11, 2, none⟩ (.int .i64 0)) = w6 at n_BK11 n_BK13 n_HO2 n_HO3 n_HB ⊢
      have BK11 := n_BK11
      have BK13 := n_BK13
      have HO2 := n_HO2
      have HO3 := n_HO3
      have HB := n_HB
      clear n_BK11 n_BK13 n_HO2 n_HO3 n_HB
      have bk11_0 := (blk_cell BK11.out 0).trans (show _ = some (.slice AL2 L2.length cL2) from rfl); have bk11_1 := (blk_cell BK11.out 1).trans (show _ = some (.slice AD2 0 cD2) from rfl); have bk11_2 := (blk_cell BK11.out 2).trans (show _ = some (.int .i64 0) from rfl); have bk13_0 := (blk_cell BK13.out 0).trans (show _ = some (.int .u8 0) from rfl); have bk13_1 := (blk_cell BK13.out 1).trans (show _ = some (.int .i64 o.f1) from rfl); have bk13_2 := (blk_cell BK13.out 2).trans (show _ = some (.int .i64 o.f2) from rfl); have bk13_3 := (blk_cell BK13.out 3).trans (show _ = some (.int .i64 o.f3) from rfl); have bk13_4 := (blk_cell BK13.out 4).trans (show _ = some (.int .u64 o.f4) from rfl); have bk13_5 := (blk_cell BK13.out 5).trans (show _ = some (.int .i64 o.f5) from rfl); have bk11_f := fun i => blk_frozen BK11.out i; have bk13_f := fun i => blk_frozen BK13.out i
      go_wp2
      go_roundw
      case rel => exact ⟨i + 1, L2, AL2, cL2, AD2, cD2, by omega, by go_num, HI2, BK11, HO2, HO3, HB⟩
      case measure => simp [intOf]; omega
    · obtain rfl : i = l2.length := by omega
      have hL : L.length ≤ 30 := by have := HI.out.len; simp only [List.length_nil] at this; omega
      have HF : Aside0 (Fine L) := ⟨HI.out.fine⟩
      clear HI
      obtain ⟨p, hp⟩ : ∃ p : Int, (if a2 < a1 then a2 else a1) = p := ⟨_, rfl⟩
      obtain ⟨q, hq⟩ : ∃ q : Int, (if a1 < a2 then a2 else a1) = q := ⟨_, rfl⟩
      obtain ⟨u, hu⟩ : ∃ u : Int, (if a4 < a3 then a4 else a3) = u := ⟨_, rfl⟩
      obtain ⟨v, hv⟩ : ∃ v : Int, (if a3 < a4 then a4 else a3) = v := ⟨_, rfl⟩
      have hp0 : 0 ≤ p := by rw [← hp]; split <;> omega
      have hp1 : p ≤ 255 := by rw [← hp]; split <;> omega
      have hq0 : 0 ≤ q := by rw [← hq]; split <;> omega
      have hq1 : q ≤ 255 := by rw [← hq]; split <;> omega
      have hu0 : 0 ≤ u := by rw [← hu]; split <;> omega
      have hu1 : u ≤ 65535 := by rw [← hu]; split <;> omega
      have hv0 : 0 ≤ v := by rw [← hv]; split <;> omega
      have hv1 : v ≤ 65535 := by rw [← hv]; split <;> omega
      have hpq : Aside0 (p ≤ q) := ⟨by rw [← hp, ← hq]; split <;> split <;> omega⟩
      have huv : Aside0 (u ≤ v) := ⟨by rw [← hu, ← hv]; split <;> split <;> omega⟩
      obtain ⟨N, hN⟩ : ∃ N : Nat, fits p u 0 0 L = N := ⟨_, rfl⟩
      obtain ⟨N1, hN1⟩ : ∃ N : Nat, fits q v 0 0 L = N := ⟨_, rfl⟩
      have HN : Aside0 ((if (0 : Int) > 0 then 0 else (fits p u 0 0 L : Int)) = (N : Int)) := ⟨by rw [hN]; rfl⟩
      have HN1 : Aside0 ((if (0 : Int) > 0 then 0 else (fits q v 0 0 L : Int)) = (N1 : Int)) := ⟨by rw [hN1]; rfl⟩
      have HN2 : Aside0 ((if (0 : Int) > 0 then 0 else (fits 1048576 1099511627776 0 0 L : Int)) = (L.length : Int)) := ⟨by rw [fits_all 0 0 L HF.out (by omega) (by omega)]; rfl⟩
      have hNl : N ≤ L.length := by rw [← hN]; exact fits_le _ _ _ _ _
      have hNN : N ≤ N1 := by rw [← hN, ← hN1]; exact fits_mono hpq.out huv.out _ _ _
      have FT := Aside0.mk hN
      clear hN hN1 hpq huv
      have dg0 : decide ((N : Int) < 0) = false := decide_eq_false (by omega)
      have dg1 : decide ((L.length : Int) < (N : Int)) = false := decide_eq_false (by omega)
      have dg2 : decide ((N1 : Int) < (N : Int)) = false := decide_eq_false (by omega)
      have dg1n : decide (L.length < N) = false := decide_eq_false (by omega)
      have dg2n : decide (N1 < N) = false := decide_eq_false (by omega)
      have hl30 : L.length ≤ 1000 := by omega
      have bk11_0 := (blk_cell BK11.out 0).trans (show _ = some (.slice AL L.length cL) from rfl); have bk11_1 := (blk_cell BK11.out 1).trans (show _ = some (.slice AD 0 cD) from rfl); have bk11_2 := (blk_cell BK11.out 2).trans (show _ = some (.int .i64 0) from rfl); have bk11_f := fun i => blk_frozen BK11.out i
      go_upto_region 10 with (first | (go_at_call 43; (with_reducible refine (group_at0 _ _ L _ _ 0 p u _ (Kd.R_reads' HO0.out).2.2 (Kd.R_reads' HO0.out).2.1 (Kd.R_reads' HO1.out).2.2 HF.out hl30 (N : Int) HN.out).mono ?_); rintro e w5 ⟨rfl, hb⟩; have hsz := below_size (by repeat (first | (with_reducible first | exact HB.out | apply below_alloc | apply pw_below_drewN | apply below_drew1) | exact HB.out)); have n_BK11 := Aside0.mk (blk_below (g := gb11) (o := .cells #[.slice AL L.length cL, .slice AD 0 cD, .int .i64 0] 58 (0, 0)) (by (with_reducible repeat (first | refine blk_drewN ?_ _ | refine blk_drew ?_ | refine blk_alloc ?_ _)); exact BK11.out) hb); have n_HO0 := Aside0.mk (Kd.R_below (by (with_reducible repeat (first | apply Kd.R_alloc | apply Kd.R_drewN | apply Kd.R_drew)); exact HO0.out) hb); have n_HO1 := Aside0.mk (Kd.R_below (by (with_reducible repeat (first | apply Kd.R_alloc | apply Kd.R_drewN | apply Kd.R_drew)); exact HO1.out) hb); have n_HB := Aside0.mk (below_step (by repeat (first | (with_reducible first | exact HB.out | apply below_alloc | apply pw_below_drewN | apply below_drew1) | exact HB.out)) hb); clear bk11_0 bk11_1 bk11_2 bk11_f; clear BK11 HO0 HO1 HB hb; have BK11 := n_BK11; have HO0 := n_HO0; have HO1 := n_HO1; have HB := n_HB; clear n_BK11 n_HO0 n_HO1 n_HB; clear hsz; have bk11_0 := (blk_cell BK11.out 0).trans (show _ = some (.slice AL L.length cL) from rfl); have bk11_1 := (blk_cell BK11.out 1).trans (show _ = some (.slice AD 0 cD) from rfl); have bk11_2 := (blk_cell BK11.out 2).trans (show _ = some (.int .i64 0) from rfl); have bk11_f := fun i => blk_frozen BK11.out i))
      obtain ⟨K, hK⟩ : ∃ K : Nat, (if (L.length : Int) < (N : Int) + 1 then (L.length : Int) else (N : Int) + 1) = (K : Int) := ⟨_, (Int.toNat_of_nonneg (by split <;> omega)).symm⟩
      have hK1 : K ≤ L.length := by split at hK <;> omega
      have hK2 : K ≤ N + 1 := by split at hK <;> omega
      obtain ⟨i65, hi65, hs65⟩ := Option.map_eq_some_iff.1 inf65
      have hcut2 := cut_to (P := Try.prog) 56 65 .i64 Try.underlying56 hi65 AL L.length cL (K : Int) (by omega) (by omega) (Kd.R_reads' HO0.out).2.1
      rw [Int.toNat_natCast] at hcut2
      clear hi65 hs65
      clear bk11_0 bk11_1 bk11_2 bk11_f
      go_cut [84] (fun s84 wx => s84 = .bool false ∧ Aside0 (Kd.R k65 65 wx w.heap.size (fun _ => True) (.slice AL L.length cL) L) ∧ Aside0 (Kd.R k65 65 wx w.heap.size (fun _ => True) (.slice AD 0 cD) []) ∧ Aside0 (wx.heap[gb11]? = some (.cells #[.slice AL L.length cL, .slice AD 0 cD, .int .i64 0] 58 (0, 0))) ∧ Aside0 (Below w.heap.size w wx))
      case first =>
        have bk11_0 := (blk_cell BK11.out 0).trans (show _ = some (.slice AL L.length cL) from rfl); have bk11_1 := (blk_cell BK11.out 1).trans (show _ = some (.slice AD 0 cD) from rfl); have bk11_2 := (blk_cell BK11.out 2).trans (show _ = some (.int .i64 0) from rfl); have bk11_f := fun i => blk_frozen BK11.out i
        have n0_ := Aside0.mk (Kd.R_drew HO0.out)
        have n1_ := Aside0.mk (Kd.R_drew HO1.out)
        have n2_ := Aside0.mk (blk_drew BK11.out)
        have n3_ := Aside0.mk (below_drew1 HB.out)
        clear HO0
        clear HO1
        clear BK11
        clear HB
        have HO0 := n0_
        have HO1 := n1_
        have BK11 := n2_
        have HB := n3_
        clear n0_ n1_ n2_ n3_
        refine start_ (n := 31) (S := fun w' => w'.cell? ⟨gb11, 0, none⟩ = some (.slice AL L.length cL) ∧ w'.cell? ⟨gb11, 1, none⟩ = some (.slice AD 0 cD) ∧ w'.cell? ⟨gb11, 2, none⟩ = some (.int .i64 0)) (ds := []) #[false, false, false, false, false, false, false, false, false, false, false, false, false, false, false, false, false, false, false, false, false, false, false, false, false, false, false, false, false, false, false] (by kernel_rfl) rfl rfl ⟨(blk_cell BK11.out 0).trans rfl, (blk_cell BK11.out 1).trans rfl, (blk_cell BK11.out 2).trans rfl⟩ (fun hHeld => ?_); refine with_tabW groups10.tab groups10.bits (fun HT_ HW_ => ?_)
        generalize w5.drew = w44 at HO0 HO1 BK11 HB hHeld ⊢
        refine pure_ (i := 0) (N := some 54) (v := ?_) (a' := ?_) #[true, false, false, false, false, false, false, false, false, false, false, false, false, false, false, false, false, false, false, false, false, false, false, false, false, false, false, false, false, false, false] rfl rfl (any_of HT_.out (by kernel_rfl)) (fun _ _ _ h => h) (Or.inl ⟨by rfl, ?_⟩) ?_ ?_
        rotate_left
        · intro w'
          go_simp
          with_reducible rfl
        rotate_left
        · simp only [Act.put, List.setIfInBounds_toArray, List.set_cons_zero, List.set_cons_succ, i64_w, i32_w]
          rfl
        refine pure_ (i := 1) (N := some 55) (v := ?_) (a' := ?_) #[true, true, false, false, false, false, false, false, false, false, false, false, false, false, false, false, false, false, false, false, false, false, false, false, false, false, false, false, false, false, false] rfl rfl (any_of HT_.out (by kernel_rfl)) (fun _ _ _ h => h) (Or.inl ⟨by rfl, ?_⟩) ?_ ?_
        rotate_left
        · intro w'
          go_simp
          with_reducible rfl
        rotate_left
        · simp only [Act.put, List.setIfInBounds_toArray, List.set_cons_zero, List.set_cons_succ, i64_w, i32_w]
          rfl
        refine pure_ (i := 2) (N := some 56) (v := ?_) (a' := ?_) #[true, true, true, false, false, false, false, false, false, false, false, false, false, false, false, false, false, false, false, false, false, false, false, false, false, false, false, false, false, false, false] rfl rfl (any_of HT_.out (by kernel_rfl)) (fun _ _ _ h => h) (Or.inl ⟨by rfl, ?_⟩) ?_ ?_
        rotate_left
        · intro w'
          go_simp
          with_reducible rfl
        rotate_left
        · simp only [Act.put, List.setIfInBounds_toArray, List.set_cons_zero, List.set_cons_succ, i64_w, i32_w]
          rfl
        refine pure_ (i := 3) (N := some 57) (v := ?_) (a' := ?_) #[true, true, true, true, false, false, false, false, false, false, false, false, false, false, false, false, false, false, false, false, false, false, false, false, false, false, false, false, false, false, false] rfl rfl (any_of HT_.out (by kernel_rfl)) (fun _ _ _ h => h) (Or.inl ⟨by rfl, ?_⟩) ?_ ?_
        rotate_left
        · intro w'
          go_simp
          with_reducible rfl
        rotate_left
        · simp only [Act.put, List.setIfInBounds_toArray, List.set_cons_zero, List.set_cons_succ, i64_w, i32_w]
          rfl
        refine pure_ (i := 4) (N := some 58) (v := ?_) (a' := ?_) #[true, true, true, true, true, false, false, false, false, false, false, false, false, false, false, false, false, false, false, false, false, false, false, false, false, false, false, false, false, false, false] rfl rfl (any_of HT_.out (by kernel_rfl)) (fun _ _ _ h => h) (Or.inl ⟨by rfl, ?_⟩) ?_ ?_
        rotate_left
        · intro w'
          go_simp
          with_reducible rfl
        rotate_left
        · simp only [Act.put, List.setIfInBounds_toArray, List.set_cons_zero, List.set_cons_succ, i64_w, i32_w]
          rfl
        refine take_ (i := 5) (N := some 59) (v := ?_) (a' := ?_) #[true, true, true, true, true, true, false, false, false, false, false, false, false, false, false, false, false, false, false, false, false, false, false, false, false, false, false, false, false, false, false] rfl rfl (take_ofW HT_.out HW_.out (by kernel_rfl)) (fun _ _ _ h => h) (Or.inl ⟨by rfl, ?_⟩) hHeld ?_ ?_
        rotate_left
        · rintro w' ⟨s0, s1, s2⟩
          go_simp
          with_reducible rfl
        rotate_left
        · simp only [Act.put, List.setIfInBounds_toArray, List.set_cons_zero, List.set_cons_succ, i64_w, i32_w]
          rfl
        refine pure_ (i := 6) (N := some 60) (v := ?_) (a' := ?_) #[true, true, true, true, true, true, true, false, false, false, false, false, false, false, false, false, false, false, false, false, false, false, false, false, false, false, false, false, false, false, false] rfl rfl (any_of HT_.out (by kernel_rfl)) (fun _ _ _ h => h) (Or.inl ⟨by rfl, ?_⟩) ?_ ?_
        rotate_left
        · intro w'
          go_simp
          with_reducible rfl
        rotate_left
        · simp only [Act.put, List.setIfInBounds_toArray, List.set_cons_zero, List.set_cons_succ, i64_w, i32_w]
          rfl
        refine pure_ (i := 7) (N := some 61) (v := ?_) (a' := ?_) #[true, true, true, true, true, true, true, true, false, false, false, false, false, false, false, false, false, false, false, false, false, false, false, false, false, false, false, false, false, false, false] rfl rfl (any_of HT_.out (by kernel_rfl)) (fun _ _ _ h => h) (Or.inl ⟨by rfl, ?_⟩) ?_ ?_
        rotate_left
        · intro w'
          go_simp
          with_reducible rfl
        rotate_left
        · simp only [Act.put, List.setIfInBounds_toArray, List.set_cons_zero, List.set_cons_succ, i64_w, i32_w]
          rfl
        refine pure_ (i := 8) (N := some 62) (v := ?_) (a' := ?_) #[true, true, true, true, true, true, true, true, true, false, false, false, false, false, false, false, false, false, false, false, false, false, false, false, false, false, false, false, false, false, false] rfl rfl (any_of HT_.out (by kernel_rfl)) (fun _ _ _ h => h) (Or.inl ⟨by rfl, ?_⟩) ?_ ?_
        rotate_left
        · intro w'
          go_simp
          with_reducible rfl
        rotate_left
        · simp only [Act.put, List.setIfInBounds_toArray, List.set_cons_zero, List.set_cons_succ, i64_w, i32_w]
          rfl
        refine pure_ (i := 9) (N := some 63) (v := ?_) (a' := ?_) #[true, true, true, true, true, true, true, true, true, true, false, false, false, false, false, false, false, false, false, false, false, false, false, false, false, false, false, false, false, false, false] rfl rfl (any_of HT_.out (by kernel_rfl)) (fun _ _ _ h => h) (Or.inl ⟨by rfl, ?_⟩) ?_ ?_
        rotate_left
        · intro w'
          go_simp
          with_reducible rfl
        rotate_left
        · simp only [Act.put, List.setIfInBounds_toArray, List.set_cons_zero, List.set_cons_succ, i64_w, i32_w]
          rfl
        refine pure_ (i := 10) (N := some 64) (v := ?_) (a' := ?_) #[true, true, true, true, true, true, true, true, true, true, true, false, false, false, false, false, false, false, false, false, false, false, false, false, false, false, false, false, false, false, false] rfl rfl (any_of HT_.out (by kernel_rfl)) (fun _ _ _ h => h) (Or.inl ⟨by rfl, ?_⟩) ?_ ?_
        rotate_left
        · intro w'
          go_simp
          with_reducible rfl
        rotate_left
        · simp only [Act.put, List.setIfInBounds_toArray, List.set_cons_zero, List.set_cons_succ, i64_w, i32_w]
          rfl
        refine pure_ (i := 12) (N := some 66) (v := ?_) (a' := ?_) #[true, true, true, true, true, true, true, true, true, true, true, false, true, false, false, false, false, false, false, false, false, false, false, false, false, false, false, false, false, false, false] rfl rfl (any_of HT_.out (by kernel_rfl)) (fun _ _ _ h => h) (Or.inl ⟨by rfl, ?_⟩) ?_ ?_
        rotate_left
        · intro w'
          go_simp
          with_reducible rfl
        rotate_left
        · simp only [Act.put, List.setIfInBounds_toArray, List.set_cons_zero, List.set_cons_succ, i64_w, i32_w]
          rfl
        refine pure_ (i := 13) (N := some 67) (v := ?_) (a' := ?_) #[true, true, true, true, true, true, true, true, true, true, true, false, true, true, false, false, false, false, false, false, false, false, false, false, false, false, false, false, false, false, false] rfl rfl (any_of HT_.out (by kernel_rfl)) (fun _ _ _ h => h) (Or.inl ⟨by rfl, ?_⟩) ?_ ?_
        rotate_left
        · intro w'
          go_simp
          with_reducible rfl
        rotate_left
        · simp only [Act.put, List.setIfInBounds_toArray, List.set_cons_zero, List.set_cons_succ, i64_w, i32_w]
          rfl
        refine pure_ (i := 14) (N := some 68) (v := ?_) (a' := ?_) #[true, true, true, true, true, true, true, true, true, true, true, false, true, true, true, false, false, false, false, false, false, false, false, false, false, false, false, false, false, false, false] rfl rfl (any_of HT_.out (by kernel_rfl)) (fun _ _ _ h => h) (Or.inl ⟨by rfl, ?_⟩) ?_ ?_
        rotate_left
        · intro w'
          go_simp
          with_reducible rfl
        rotate_left
        · simp only [Act.put, List.setIfInBounds_toArray, List.set_cons_zero, List.set_cons_succ, i64_w, i32_w]
          rfl
        refine pure_ (i := 15) (N := some 69) (v := ?_) (a' := ?_) #[true, true, true, true, true, true, true, true, true, true, true, false, true, true, true, true, false, false, false, false, false, false, false, false, false, false, false, false, false, false, false] rfl rfl (any_of HT_.out (by kernel_rfl)) (fun _ _ _ h => h) (Or.inl ⟨by rfl, ?_⟩) ?_ ?_
        rotate_left
        · intro w'
          go_simp
          with_reducible rfl
        rotate_left
        · simp only [Act.put, List.setIfInBounds_toArray, List.set_cons_zero, List.set_cons_succ, i64_w, i32_w]
          rfl
        refine pure_ (i := 16) (N := some 70) (v := ?_) (a' := ?_) #[true, true, true, true, true, true, true, true, true, true, true, false, true, true, true, true, true, false, false, false, false, false, false, false, false, false, false, false, false, false, false] rfl rfl (any_of HT_.out (by kernel_rfl)) (fun _ _ _ h => h) (Or.inl ⟨by rfl, ?_⟩) ?_ ?_
        rotate_left
        · intro w'
          go_simp
          with_reducible rfl
        rotate_left
        · simp only [Act.put, List.setIfInBounds_toArray, List.set_cons_zero, List.set_cons_succ, i64_w, i32_w]
          rfl
        refine pure_ (i := 17) (N := some 71) (v := ?_) (a' := ?_) #[true, true, true, true, true, true, true, true, true, true, true, false, true, true, true, true, true, true, false, false, false, false, false, false, false, false, false, false, false, false, false] rfl rfl (any_of HT_.out (by kernel_rfl)) (fun _ _ _ h => h) (Or.inl ⟨by rfl, ?_⟩) ?_ ?_
        rotate_left
        · intro w'
          go_simp
          with_reducible rfl
        rotate_left
        · simp only [Act.put, List.setIfInBounds_toArray, List.set_cons_zero, List.set_cons_succ, i64_w, i32_w]
          rfl
        refine pure_ (i := 18) (N := some 72) (v := ?_) (a' := ?_) #[true, true, true, true, true, true, true, true, true, true, true, false, true, true, true, true, true, true, true, false, false, false, false, false, false, false, false, false, false, false, false] rfl rfl (any_of HT_.out (by kernel_rfl)) (fun _ _ _ h => h) (Or.inl ⟨by rfl, ?_⟩) ?_ ?_
        rotate_left
        · intro w'
          go_simp
          with_reducible rfl
        rotate_left
        · simp only [Act.put, List.setIfInBounds_toArray, List.set_cons_zero, List.set_cons_succ, i64_w, i32_w]
          rfl
        refine pure_ (i := 19) (N := some 73) (v := ?_) (a' := ?_) #[true, true, true, true, true, true, true, true, true, true, true, false, true, true, true, true, true, true, true, true, false, false, false, false, false, false, false, false, false, false, false] rfl rfl (any_of HT_.out (by kernel_rfl)) (fun _ _ _ h => h) (Or.inl ⟨by rfl, ?_⟩) ?_ ?_
        rotate_left
        · intro w'
          go_simp
          with_reducible rfl
        rotate_left
        · simp only [Act.put, List.setIfInBounds_toArray, List.set_cons_zero, List.set_cons_succ, i64_w, i32_w]
          rfl
        refine take_ (i := 11) (N := some 65) (v := ?_) (a' := ?_) #[true, true, true, true, true, true, true, true, true, true, true, true, true, true, true, true, true, true, true, true, false, false, false, false, false, false, false, false, false, false, false] rfl rfl (take_ofW HT_.out HW_.out (by kernel_rfl)) (fun _ _ _ h => h) (Or.inl ⟨by rfl, ?_⟩) hHeld ?_ ?_
        rotate_left
        · rintro w' ⟨s0, s1, s2⟩
          go_simp
          with_reducible rfl
        rotate_left
        · simp only [Act.put, List.setIfInBounds_toArray, List.set_cons_zero, List.set_cons_succ, i64_w, i32_w]
          rfl
        refine one_ (i := 20) (N := some 74) #[true, true, true, true, true, true, true, true, true, true, true, true, true, true, true, true, true, true, true, true, true, false, false, false, false, false, false, false, false, false, false] rfl rfl (one_of HT_.out (by kernel_rfl)) (by decide) (fun K hK => ?_)
        refine goes_ Try.func43 (by kernel_rfl) rfl #[.agg #[.slice AL L.length cL, .slice AD 0 cD, .int .i64 0], .int .i64 q, .int .u64 v] (by rfl) rfl rfl (by (try simp only [List.map_toArray, List.map_cons, List.map_nil]); first | done | (simp only [hq, hv]; rfl) | rfl | (go_simp; exact ⟨w64 (by omega) (by omega), by rw [u64w]; omega⟩)) ?_
        with_reducible refine (group_at0 _ _ L _ _ 0 q v _ ?side1 ?side2 ?side3 HF.out hl30 (N1 : Int) HN1.out).mono ?_
        (case side1 => repeat (first | exact (Kd.R_reads' HO0.out).2.2 | (with_reducible refine Kd.C_alloc ?_ _) | (with_reducible refine Kd.C_drewN ?_ _) | (with_reducible refine Kd.C_drew ?_)))
        (case side2 => exact (Kd.R_reads' HO0.out).2.1)
        (case side3 => repeat (first | exact (Kd.R_reads' HO1.out).2.2 | (with_reducible refine Kd.C_alloc ?_ _) | (with_reducible refine Kd.C_drewN ?_ _) | (with_reducible refine Kd.C_drew ?_)))
        rintro e w45 ⟨rfl, hb⟩
        refine ⟨_, rfl, ?_⟩
        have n0_ := Aside0.mk (Kd.R_below (by (with_reducible repeat (first | apply Kd.R_alloc | apply Kd.R_drewN | apply Kd.R_drew)); exact HO0.out) hb)
        have n1_ := Aside0.mk (Kd.R_below (by (with_reducible repeat (first | apply Kd.R_alloc | apply Kd.R_drewN | apply Kd.R_drew)); exact HO1.out) hb)
        have n2_ := Aside0.mk (blk_below (g := gb11) (o := .cells #[.slice AL L.length cL, .slice AD 0 cD, .int .i64 0] 58 (0, 0)) (by (with_reducible repeat (first | refine blk_drewN ?_ _ | refine blk_drew ?_ | refine blk_alloc ?_ _)); exact BK11.out) hb)
        have n3_ := Aside0.mk (below_step (by repeat (first | (with_reducible first | exact HB.out | apply below_alloc | apply pw_below_drewN | apply below_drew1 | refine below_set ?_ GE_gb11.out) | exact HB.out)) hb)
        clear HO0
        clear HO1
        clear BK11
        clear HB
        have HO0 := n0_
        have HO1 := n1_
        have BK11 := n2_
        have HB := n3_
        clear n0_ n1_ n2_ n3_
        (try clear hb)
        (try clear hb2)
        (try clear hk)
        (try clear hi)
        refine hK.out _ _ ⟨(blk_cell BK11.out 0).trans rfl, (blk_cell BK11.out 1).trans rfl, (blk_cell BK11.out 2).trans rfl⟩ (fun hHeld => ?_)
        clear hK K
        refine norm_ (a' := ?_) ?_ ?_
        rotate_left
        · show Act.put _ (some 74) _ = _
          simp only [Act.put, List.setIfInBounds_toArray, List.set_cons_zero, List.set_cons_succ, i64_w, i32_w]
          rfl
        refine pure_ (i := 21) (N := some 75) (v := ?_) (a' := ?_) #[true, true, true, true, true, true, true, true, true, true, true, true, true, true, true, true, true, true, true, true, true, true, false, false, false, false, false, false, false, false, false] rfl rfl (any_of HT_.out (by kernel_rfl)) (fun _ _ _ h => h) (Or.inl ⟨by rfl, ?_⟩) ?_ ?_
        rotate_left
        · intro w'
          go_simp
          with_reducible rfl
        rotate_left
        · simp only [Act.put, List.setIfInBounds_toArray, List.set_cons_zero, List.set_cons_succ, i64_w, i32_w]
          rfl
        refine pure_ (i := 22) (N := some 76) (v := ?_) (a' := ?_) #[true, true, true, true, true, true, true, true, true, true, true, true, true, true, true, true, true, true, true, true, true, true, true, false, false, false, false, false, false, false, false] rfl rfl (any_of HT_.out (by kernel_rfl)) (fun _ _ _ h => h) (Or.inl ⟨by rfl, ?_⟩) ?_ ?_
        rotate_left
        · intro w'
          go_simp
          with_reducible rfl
        rotate_left
        · simp only [Act.put, List.setIfInBounds_toArray, List.set_cons_zero, List.set_cons_succ, i64_w, i32_w]
          rfl
        refine pure_ (i := 23) (N := some 77) (v := ?_) (a' := ?_) #[true, true, true, true, true, true, true, true, true, true, true, true, true, true, true, true, true, true, true, true, true, true, true, true, false, false, false, false, false, false, false] rfl rfl (any_of HT_.out (by kernel_rfl)) (fun _ _ _ h => h) (Or.inl ⟨by rfl, ?_⟩) ?_ ?_
        rotate_left
        · intro w'
          go_simp
          with_reducible rfl
        rotate_left
        · simp only [Act.put, List.setIfInBounds_toArray, List.set_cons_zero, List.set_cons_succ, i64_w, i32_w]
          rfl
        refine pure_ (i := 26) (N := some 80) (v := ?_) (a' := ?_) #[true, true, true, true, true, true, true, true, true, true, true, true, true, true, true, true, true, true, true, true, true, true, true, true, false, false, true, false, false, false, false] rfl rfl (any_of HT_.out (by kernel_rfl)) (fun _ _ _ h => h) (Or.inl ⟨by rfl, ?_⟩) ?_ ?_
        rotate_left
        · intro w'
          go_simp
          with_reducible rfl
        rotate_left
        · simp only [Act.put, List.setIfInBounds_toArray, List.set_cons_zero, List.set_cons_succ, i64_w, i32_w]
          rfl
        refine take_ (i := 24) (N := some 78) (v := ?_) (a' := ?_) #[true, true, true, true, true, true, true, true, true, true, true, true, true, true, true, true, true, true, true, true, true, true, true, true, true, false, true, false, false, false, false] rfl rfl (take_ofW HT_.out HW_.out (by kernel_rfl)) (fun _ _ _ h => h) (Or.inl ⟨by rfl, ?_⟩) hHeld ?_ ?_
        rotate_left
        · rintro w' ⟨s0, s1, s2⟩
          go_simp
          with_reducible rfl
        rotate_left
        · simp only [Act.put, List.setIfInBounds_toArray, List.set_cons_zero, List.set_cons_succ, i64_w, i32_w]
          rfl
        refine take_ (i := 27) (N := some 81) (v := ?_) (a' := ?_) #[true, true, true, true, true, true, true, true, true, true, true, true, true, true, true, true, true, true, true, true, true, true, true, true, true, false, true, true, false, false, false] rfl rfl (take_ofW HT_.out HW_.out (by kernel_rfl)) (fun _ _ _ h => h) (Or.inl ⟨by rfl, ?_⟩) hHeld ?_ ?_
        rotate_left
        · rintro w' ⟨s0, s1, s2⟩
          go_simp
          with_reducible rfl
        rotate_left
        · simp only [Act.put, List.setIfInBounds_toArray, List.set_cons_zero, List.set_cons_succ, i64_w, i32_w]
          rfl
        refine pure_ (i := 28) (N := some 82) (v := ?_) (a' := ?_) #[true, true, true, true, true, true, true, true, true, true, true, true, true, true, true, true, true, true, true, true, true, true, true, true, true, false, true, true, true, false, false] rfl rfl (any_of HT_.out (by kernel_rfl)) (fun _ _ _ h => h) (Or.inl ⟨by rfl, ?_⟩) ?_ ?_
        rotate_left
        · intro w'
          go_simp
          with_reducible rfl
        rotate_left
        · simp only [Act.put, List.setIfInBounds_toArray, List.set_cons_zero, List.set_cons_succ, i64_w, i32_w]
          rfl
        refine one_ (i := 25) (N := some 79) #[true, true, true, true, true, true, true, true, true, true, true, true, true, true, true, true, true, true, true, true, true, true, true, true, true, true, true, true, true, false, false] rfl rfl (one_of HT_.out (by kernel_rfl)) (by decide) (fun K hK => ?_)
        refine goes_ Try.func43 (by kernel_rfl) rfl #[.agg #[.slice AL L.length cL, .slice AD 0 cD, .int .i64 0], .int .i64 1048576, .int .u64 1099511627776] (by rfl) rfl rfl (by (try simp only [List.map_toArray, List.map_cons, List.map_nil]); first | done | rfl | (simp only [List.length_drop, List.length_take]; rfl)) ?_
        with_reducible refine (group_at0 _ _ L _ _ 0 1048576 1099511627776 _ ?side1 ?side2 ?side3 HF.out hl30 (L.length : Int) HN2.out).mono ?_
        (case side1 => repeat (first | exact (Kd.R_reads' HO0.out).2.2 | (with_reducible refine Kd.C_alloc ?_ _) | (with_reducible refine Kd.C_drewN ?_ _) | (with_reducible refine Kd.C_drew ?_)))
        (case side2 => exact (Kd.R_reads' HO0.out).2.1)
        (case side3 => repeat (first | exact (Kd.R_reads' HO1.out).2.2 | (with_reducible refine Kd.C_alloc ?_ _) | (with_reducible refine Kd.C_drewN ?_ _) | (with_reducible refine Kd.C_drew ?_)))
        rintro e w46 ⟨rfl, hb⟩
        refine ⟨_, rfl, ?_⟩
        have n0_ := Aside0.mk (Kd.R_below (by (with_reducible repeat (first | apply Kd.R_alloc | apply Kd.R_drewN | apply Kd.R_drew)); exact HO0.out) hb)
        have n1_ := Aside0.mk (Kd.R_below (by (with_reducible repeat (first | apply Kd.R_alloc | apply Kd.R_drewN | apply Kd.R_drew)); exact HO1.out) hb)
        have n2_ := Aside0.mk (blk_below (g := gb11) (o := .cells #[.slice AL L.length cL, .slice AD 0 cD, .int .i64 0] 58 (0, 0)) (by (with_reducible repeat (first | refine blk_drewN ?_ _ | refine blk_drew ?_ | refine blk_alloc ?_ _)); exact BK11.out) hb)
        have n3_ := Aside0.mk (below_step (by repeat (first | (with_reducible first | exact HB.out | apply below_alloc | apply pw_below_drewN | apply below_drew1 | refine below_set ?_ GE_gb11.out) | exact HB.out)) hb)
        clear HO0
        clear HO1
        clear BK11
        clear HB
        have HO0 := n0_
        have HO1 := n1_
        have BK11 := n2_
        have HB := n3_
        clear n0_ n1_ n2_ n3_
        (try clear hb)
        (try clear hb2)
        (try clear hk)
        (try clear hi)
        refine hK.out _ _ ⟨(blk_cell BK11.out 0).trans rfl, (blk_cell BK11.out 1).trans rfl, (blk_cell BK11.out 2).trans rfl⟩ (fun hHeld => ?_)
        clear hK K
        refine norm_ (a' := ?_) ?_ ?_
        rotate_left
        · show Act.put _ (some 79) _ = _
          simp only [Act.put, List.setIfInBounds_toArray, List.set_cons_zero, List.set_cons_succ, i64_w, i32_w]
          rfl
        refine pure_ (i := 29) (N := some 83) (v := ?_) (a' := ?_) #[true, true, true, true, true, true, true, true, true, true, true, true, true, true, true, true, true, true, true, true, true, true, true, true, true, true, true, true, true, true, false] rfl rfl (any_of HT_.out (by kernel_rfl)) (fun _ _ _ h => h) (Or.inl ⟨by rfl, ?_⟩) ?_ ?_
        rotate_left
        · intro w'
          go_simp
          with_reducible rfl
        rotate_left
        · simp only [Act.put, List.setIfInBounds_toArray, List.set_cons_zero, List.set_cons_succ, i64_w, i32_w]
          rfl
        refine pure_ (i := 30) (N := some 84) (v := ?_) (a' := ?_) #[true, true, true, true, true, true, true, true, true, true, true, true, true, true, true, true, true, true, true, true, true, true, true, true, true, true, true, true, true, true, true] rfl rfl (any_of HT_.out (by kernel_rfl)) (fun _ _ _ h => h) (Or.inl ⟨by rfl, ?_⟩) ?_ ?_
        rotate_left
        · intro w'
          go_simp
          with_reducible rfl
        rotate_left
        · simp only [Act.put, List.setIfInBounds_toArray, List.set_cons_zero, List.set_cons_succ, i64_w, i32_w]
          rfl
        refine done_ (done_of HT_.out (by kernel_rfl)) ?_
        try go_wp2
        go_meet
        case rel => exact ⟨(by first | rfl | (simp; done) | (simp [*]; done)), HO0, HO1, BK11, HB⟩
      case rest =>
      clear BK11 HO0 HO1 HB
      obtain ⟨rfl, HO0, HO1, BK11, HB⟩ := hcut
      rename World => wq
      have hyl : (L.take K).length = K := by rw [List.length_take]; omega
      have HBo := HB
      clear HB
      have hy_ := Kd.C_take (Kd.R_reads' HO0.out).2.2 hK1
      rw [hyl] at hy_
      have HY := Aside0.mk hy_
      clear hy_ hyl
      have bk11_0 := (blk_cell BK11.out 0).trans (show _ = some (.slice AL L.length cL) from rfl); have bk11_1 := (blk_cell BK11.out 1).trans (show _ = some (.slice AD 0 cD) from rfl); have bk11_2 := (blk_cell BK11.out 2).trans (show _ = some (.int .i64 0) from rfl); have bk11_f := fun i => blk_frozen BK11.out i
      go_wp2
      clear hK hcut2 bk11_0 bk11_1 bk11_2 bk11_f dg0 dg1 dg2 dg1n dg2n
      go_loopw [17, 18, 95] (fun v17 v18 v95 wr => ∃ (j : Nat) (o n : Int), j ≤ K ∧ v95 = .int .i64 j ∧ v17 = .int .i64 o ∧ v18 = .int .u64 n ∧ 0 ≤ o ∧ o ≤ 8 * j ∧ 0 ≤ n ∧ n ≤ 50 * j ∧ Aside0 (j ≤ N → fits p u o n (L.drop j) = N - j) ∧ Aside0 (Below wq.heap.size wq wr)) (fun v17 v18 v95 _ => K - (intOf v95).toNat)
      case atStart => exact ⟨0, 0, 0, Nat.zero_le _, rfl, rfl, rfl, by omega, by omega, by omega, by omega, ⟨fun _ => by rw [List.drop_zero]; exact FT.out⟩, ⟨by repeat (first | exact Below.refl _ _ | apply pw_below_drewN | apply below_drew1)⟩⟩
      case round =>
        obtain ⟨j, o, n, hj, rfl, rfl, rfl, ho0, ho1, hn0, hn1, HFT, HB⟩ := hrel
        rename World => wy
        by_cases hlj : j < K
        · obtain ⟨ad2, e2, hy0, hy1, hy2, hy3, hy4, hy5⟩ := at_T65 HY.out (j : Int) (by omega) (by omega)
          subst e2
          replace hy0 := (HB.out.cell (World.block_lt_of_cell? wq _ hy0)).trans hy0
          replace hy1 := (HB.out.cell (World.block_lt_of_cell? wq _ hy1)).trans hy1
          replace hy2 := (HB.out.cell (World.block_lt_of_cell? wq _ hy2)).trans hy2
          replace hy3 := (HB.out.cell (World.block_lt_of_cell? wq _ hy3)).trans hy3
          replace hy4 := (HB.out.cell (World.block_lt_of_cell? wq _ hy4)).trans hy4
          replace hy5 := (HB.out.cell (World.block_lt_of_cell? wq _ hy5)).trans hy5
          have hF := HFT.out (by omega)
          have hm := fine_at HF.out j (by omega)
          rw [drop65 L j (by omega), fits_step] at hF
          simp only [show rd_T65 (L.take K) (j : Int) = L.getD j z65 by rw [rd65_nat, List.getD_eq_getElem?_getD, List.getD_eq_getElem?_getD, List.getElem?_take, if_pos hlj], Int.toNat_natCast] at hy0 hy1 hy2 hy3 hy4 hy5
          generalize L.getD j z65 = x at hy0 hy1 hy2 hy3 hy4 hy5 hm hF
          have HFX := Aside0.mk hF
          obtain ⟨⟨hm1, hm2⟩, hm3, hm4⟩ := hm
          clear hF HFT
          go_upto_region 16 with (first | ((with_reducible refine gate_dst (N := 20) rfl ?_); refine box_event ?hg (N := 20) ?hd (cs := #[.int .i64 0, .int .i64 0, .int .u64 0, .int .u64 0, .int .u8 0, .int .i64 0]) (t := 65) ?hr ?_; (case hd => rfl); (case hg => rfl); (case hr => first | (go_simp; done) | (go_simp; rfl)); intro gb20 hg w3 hbox hb; have GE_gb20 := Aside0.mk (show wq.heap.size ≤ gb20 from by rw [hg]; exact below_size (by repeat (first | (with_reducible first | exact HB.out | apply below_alloc | apply pw_below_drewN | apply below_drew1) | exact HB.out))); clear hg; have n_HB := Aside0.mk (below_step (by repeat (first | (with_reducible first | exact HB.out | apply below_alloc | apply pw_below_drewN | apply below_drew1) | exact HB.out)) hb); skip; clear HB hb; have HB := n_HB; clear n_HB; have BK20 := Aside0.mk hbox; clear hbox; have bk20_0 := (blk_cell BK20.out 0).trans (show _ = some (.int .i64 0) from rfl); have bk20_1 := (blk_cell BK20.out 1).trans (show _ = some (.int .i64 0) from rfl); have bk20_2 := (blk_cell BK20.out 2).trans (show _ = some (.int .u64 0) from rfl); have bk20_3 := (blk_cell BK20.out 3).trans (show _ = some (.int .u64 0) from rfl); have bk20_4 := (blk_cell BK20.out 4).trans (show _ = some (.int .u8 0) from rfl); have bk20_5 := (blk_cell BK20.out 5).trans (show _ = some (.int .i64 0) from rfl); have bk20_f := fun i => blk_frozen BK20.out i))
          clear hy0 hy1 hy2 hy3 hy4 hy5
          clear bk20_0 bk20_1 bk20_2 bk20_3 bk20_4 bk20_5 bk20_f
          have s0_BK20 := blk_put (cs' := #[.int .i64 x.f0, .int .i64 0, .int .u64 0, .int .u64 0, .int .u8 0, .int .i64 0]) BK20.out 0 (.int .i64 x.f0) rfl
          have s0_HB := below_set (j := 0) (v := .int .i64 x.f0) HB.out GE_gb20.out
          have s1_BK20 := blk_put (cs' := #[.int .i64 x.f0, .int .i64 x.f1, .int .u64 0, .int .u64 0, .int .u8 0, .int .i64 0]) s0_BK20 1 (.int .i64 x.f1) rfl
          have s1_HB := below_set (j := 1) (v := .int .i64 x.f1) s0_HB GE_gb20.out
          have s2_BK20 := blk_put (cs' := #[.int .i64 x.f0, .int .i64 x.f1, .int .u64 x.f2, .int .u64 0, .int .u8 0, .int .i64 0]) s1_BK20 2 (.int .u64 x.f2) rfl
          have s2_HB := below_set (j := 2) (v := .int .u64 x.f2) s1_HB GE_gb20.out
          have s3_BK20 := blk_put (cs' := #[.int .i64 x.f0, .int .i64 x.f1, .int .u64 x.f2, .int .u64 x.f3, .int .u8 0, .int .i64 0]) s2_BK20 3 (.int .u64 x.f3) rfl
          have s3_HB := below_set (j := 3) (v := .int .u64 x.f3) s2_HB GE_gb20.out
          have s4_BK20 := blk_put (cs' := #[.int .i64 x.f0, .int .i64 x.f1, .int .u64 x.f2, .int .u64 x.f3, .int .u8 x.f4, .int .i64 0]) s3_BK20 4 (.int .u8 x.f4) rfl
          have s4_HB := below_set (j := 4) (v := .int .u8 x.f4) s3_HB GE_gb20.out
          have s5_BK20 := blk_put (cs' := #[.int .i64 x.f0, .int .i64 x.f1, .int .u64 x.f2, .int .u64 x.f3, .int .u8 x.f4, .int .i64 x.f5]) s4_BK20 5 (.int .i64 x.f5) rfl
          have s5_HB := below_set (j := 5) (v := .int .i64 x.f5) s4_HB GE_gb20.out
          have n_BK20 := Aside0.mk s5_BK20
          have n_HB := Aside0.mk s5_HB
          clear s0_BK20 s0_HB
          clear s1_BK20 s1_HB
          clear s2_BK20 s2_HB
          clear s3_BK20 s3_HB
          clear s4_BK20 s4_HB
          clear s5_BK20 s5_HB
          clear BK20 HB
          generalize ((((((w3.setCell ⟨gb20, 0, none⟩ (.int .i64 x.f0)).setCell ⟨gb20, 1, none⟩ (.int .i64 x.f1)).setCell ⟨gb20, 2, none⟩ (.int .u64 x.f2)).setCell ⟨gb20, 3, none⟩ (.int .u64 x.f3)).setCell ⟨gb20, 4, none⟩ (.int .u8 x.f4)).setCell ⟨gb20, 5, none⟩ (.int .i64 x.f5)) = w4 at n_BK20 n_HB ⊢
          have BK20 := n_BK20
          have HB := n_HB
          clear n_BK20 n_HB
          have bk20_0 := (blk_cell BK20.out 0).trans (show _ = some (.int .i64 x.f0) from rfl); have bk20_1 := (blk_cell BK20.out 1).trans (show _ = some (.int .i64 x.f1) from rfl); have bk20_2 := (blk_cell BK20.out 2).trans (show _ = some (.int .u64 x.f2) from rfl); have bk20_3 := (blk_cell BK20.out 3).trans (show _ = some (.int .u64 x.f3) from rfl); have bk20_4 := (blk_cell BK20.out 4).trans (show _ = some (.int .u8 x.f4) from rfl); have bk20_5 := (blk_cell BK20.out 5).trans (show _ = some (.int .i64 x.f5) from rfl); have bk20_f := fun i => blk_frozen BK20.out i
          have hF := HFX.out
          by_cases c1 : o + x.f1 > p
          · rw [if_pos c1] at hF
            have d1 : decide (o + x.f1 ≤ p) = false := decide_eq_false (by omega)
            have d3 : decide ((j : Int) < (N : Int)) = false := decide_eq_false (by omega)
            have d3n : decide (j < N) = false := decide_eq_false (by omega)
            have HJ : Aside0 (N = j) := ⟨by omega⟩
            clear c1 hF
            go_quiet (fail)
            go_wp2
            go_roundw
            case rel => exact ⟨j + 1, o + x.f1, n + x.f2, by omega, by go_num, by go_num, by go_num, by omega, by omega, by omega, by omega, ⟨fun h => by have := HJ.out; omega⟩, ⟨by repeat (first | exact HB.out | apply pw_below_drewN | apply below_drew1)⟩⟩
            case measure => simp [intOf]; omega
          · rw [if_neg c1] at hF
            have d1 : decide (o + x.f1 ≤ p) = true := decide_eq_true (by omega)
            clear c1
            by_cases c2 : n + x.f2 > u
            · rw [if_pos c2] at hF
              have d2 : decide (n + x.f2 ≤ u) = false := decide_eq_false (by omega)
              have d3 : decide ((j : Int) < (N : Int)) = false := decide_eq_false (by omega)
              have d3n : decide (j < N) = false := decide_eq_false (by omega)
              have HJ : Aside0 (N = j) := ⟨by omega⟩
              clear c2 hF
              go_quiet (fail)
              go_wp2
              go_roundw
              case rel => exact ⟨j + 1, o + x.f1, n + x.f2, by omega, by go_num, by go_num, by go_num, by omega, by omega, by omega, by omega, ⟨fun h => by have := HJ.out; omega⟩, ⟨by repeat (first | exact HB.out | apply pw_below_drewN | apply below_drew1)⟩⟩
              case measure => simp [intOf]; omega
            · rw [if_neg c2] at hF
              have d2 : decide (n + x.f2 ≤ u) = true := decide_eq_true (by omega)
              have d3 : decide ((j : Int) < (N : Int)) = true := decide_eq_true (by omega)
              have d3n : decide (j < N) = true := decide_eq_true (by omega)
              have HJ : Aside0 (fits p u (o + x.f1) (n + x.f2) (L.drop (j + 1)) + 1 = N - j) := ⟨hF⟩
              clear c2 hF
              go_quiet (fail)
              go_wp2
              go_roundw
              case rel => exact ⟨j + 1, o + x.f1, n + x.f2, by omega, by go_num, by go_num, by go_num, by omega, by omega, by omega, by omega, ⟨fun h => by have := HJ.out; omega⟩, ⟨by repeat (first | exact HB.out | apply pw_below_drewN | apply below_drew1)⟩⟩
              case measure => simp [intOf]; omega
        · obtain rfl : j = K := by omega
          have n_BK11 := Aside0.mk (blk_below (g := gb11) (o := .cells #[.slice AL L.length cL, .slice AD 0 cD, .int .i64 0] 58 (0, 0)) BK11.out HB.out)
          have n_HO0 := Aside0.mk (Kd.R_below HO0.out HB.out)
          have n_HO1 := Aside0.mk (Kd.R_below HO1.out HB.out)
          have n_HB := Aside0.mk (below_step HBo.out HB.out)
          clear BK11 HO0 HO1 HB HBo HY HFT FT
          have BK11 := n_BK11; have HO0 := n_HO0; have HO1 := n_HO1; have HB := n_HB
          clear n_BK11 n_HO0 n_HO1 n_HB
          rename World => wz
          have hwbz : w.heap.size ≤ wz.heap.size := below_size HB.out
          have bk11_0 := (blk_cell BK11.out 0).trans (show _ = some (.slice AL L.length cL) from rfl); have bk11_1 := (blk_cell BK11.out 1).trans (show _ = some (.slice AD 0 cD) from rfl); have bk11_2 := (blk_cell BK11.out 2).trans (show _ = some (.int .i64 0) from rfl); have bk11_f := fun i => blk_frozen BK11.out i
          go_upto_region 21 with (first | (go_at_call 44; (with_reducible refine (give_at _ _ L _ _ _ (Kd.R_reads' HO0.out).2.2 (Kd.R_reads' HO0.out).2.1 (Kd.R_reads' HO1.out).2.2 HF.out hl30).mono ?_); rintro e w5 ⟨L3, g3, la, AL3, cL3, AD3, cD3, rfl, hf3, hl3, hg3, ho0, ho1, hb⟩; have HF3 := Aside0.mk hf3; have HL3 := Aside0.mk hl3; have HG3 := Aside0.mk hg3; have n_BK11 := Aside0.mk (blk_below BK11.out hb); have n_HO2 := Aside0.mk (Kd.R_lower ho0 hwbz); have n_HO3 := Aside0.mk (Kd.R_lower ho1 hwbz); have n_HB := Aside0.mk (below_step HB.out hb); clear bk11_0 bk11_1 bk11_2 bk11_f; clear BK11 HB HO0 HO1; have BK11 := n_BK11; have HO2 := n_HO2; have HO3 := n_HO3; have HB := n_HB; clear n_BK11 n_HO2 n_HO3 n_HB; have bk11_0 := (blk_cell BK11.out 0).trans (show _ = some (.slice AL L.length cL) from rfl); have bk11_1 := (blk_cell BK11.out 1).trans (show _ = some (.slice AD 0 cD) from rfl); have bk11_2 := (blk_cell BK11.out 2).trans (show _ = some (.int .i64 0) from rfl); have bk11_f := fun i => blk_frozen BK11.out i; clear hf3 hl3 hg3 ho0 ho1 hb) | ((with_reducible refine gate_dst (N := 21) rfl ?_); refine box_event ?hg (N := 21) ?hd (cs := #[.slice none 0 0, .slice none 0 0, .int .i64 0]) (t := 58) ?hr ?_; (case hd => rfl); (case hg => rfl); (case hr => first | (go_simp; done) | (go_simp; rfl)); intro gb21 hg w3 hbox hb; have NE_gb11_gb21 := Aside0.mk (show gb11 ≠ gb21 from by rw [hg]; exact Nat.ne_of_lt (blk_lt (o := .cells #[.slice AL L.length cL, .slice AD 0 cD, .int .i64 0] 58 (0, 0)) (by (with_reducible repeat (first | refine blk_drewN ?_ _ | refine blk_drew ?_ | refine blk_alloc ?_ _)); exact BK11.out))); have GE_gb21 := Aside0.mk (show w.heap.size ≤ gb21 from by rw [hg]; exact below_size (by repeat (first | (with_reducible first | exact HB.out | apply below_alloc | apply pw_below_drewN | apply below_drew1) | exact HB.out))); clear hg; have n_BK11 := Aside0.mk (blk_below (g := gb11) (o := .cells #[.slice AL L.length cL, .slice AD 0 cD, .int .i64 0] 58 (0, 0)) (by (with_reducible repeat (first | refine blk_drewN ?_ _ | refine blk_drew ?_ | refine blk_alloc ?_ _)); exact BK11.out) hb); have n_HO2 := Aside0.mk (Kd.R_below (by (with_reducible repeat (first | apply Kd.R_alloc | apply Kd.R_drewN | apply Kd.R_drew)); exact HO2.out) hb); have n_HO3 := Aside0.mk (Kd.R_below (by (with_reducible repeat (first | apply Kd.R_alloc | apply Kd.R_drewN | apply Kd.R_drew)); exact HO3.out) hb); have n_HB := Aside0.mk (below_step (by repeat (first | (with_reducible first | exact HB.out | apply below_alloc | apply pw_below_drewN | apply below_drew1) | exact HB.out)) hb); clear bk11_0 bk11_1 bk11_2 bk11_f; clear BK11 HO2 HO3 HB hb; have BK11 := n_BK11; have HO2 := n_HO2; have HO3 := n_HO3; have HB := n_HB; clear n_BK11 n_HO2 n_HO3 n_HB; have BK21 := Aside0.mk hbox; clear hbox; have bk11_0 := (blk_cell BK11.out 0).trans (show _ = some (.slice AL L.length cL) from rfl); have bk11_1 := (blk_cell BK11.out 1).trans (show _ = some (.slice AD 0 cD) from rfl); have bk11_2 := (blk_cell BK11.out 2).trans (show _ = some (.int .i64 0) from rfl); have bk21_0 := (blk_cell BK21.out 0).trans (show _ = some (.slice none 0 0) from rfl); have bk21_1 := (blk_cell BK21.out 1).trans (show _ = some (.slice none 0 0) from rfl); have bk21_2 := (blk_cell BK21.out 2).trans (show _ = some (.int .i64 0) from rfl); have bk11_f := fun i => blk_frozen BK11.out i; have bk21_f := fun i => blk_frozen BK21.out i))
          clear bk11_0 bk11_1 bk11_2 bk11_f bk21_0 bk21_1 bk21_2 bk21_f
          have s0_HO2 := Kd.R_set HO2.out BK21.out (by decide) 0 (.slice AL3 L3.length cL3)
          have s0_HO3 := Kd.R_set HO3.out BK21.out (by decide) 0 (.slice AL3 L3.length cL3)
          have s0_BK11 := blk_far BK11.out (p := ⟨gb21, 0, none⟩) NE_gb11_gb21.out (.slice AL3 L3.length cL3)
          have s0_BK21 := blk_put (cs' := #[.slice AL3 L3.length cL3, .slice none 0 0, .int .i64 0]) BK21.out 0 (.slice AL3 L3.length cL3) rfl
          have s0_HB := below_set (j := 0) (v := .slice AL3 L3.length cL3) HB.out GE_gb21.out
          have s1_HO2 := Kd.R_set s0_HO2 s0_BK21 (by decide) 1 (.slice AD3 0 cD3)
          have s1_HO3 := Kd.R_set s0_HO3 s0_BK21 (by decide) 1 (.slice AD3 0 cD3)
          have s1_BK11 := blk_far s0_BK11 (p := ⟨gb21, 1, none⟩) NE_gb11_gb21.out (.slice AD3 0 cD3)
          have s1_BK21 := blk_put (cs' := #[.slice AL3 L3.length cL3, .slice AD3 0 cD3, .int .i64 0]) s0_BK21 1 (.slice AD3 0 cD3) rfl
          have s1_HB := below_set (j := 1) (v := .slice AD3 0 cD3) s0_HB GE_gb21.out
          have s2_HO2 := Kd.R_set s1_HO2 s1_BK21 (by decide) 2 (.int .i64 g3)
          have s2_HO3 := Kd.R_set s1_HO3 s1_BK21 (by decide) 2 (.int .i64 g3)
          have s2_BK11 := blk_far s1_BK11 (p := ⟨gb21, 2, none⟩) NE_gb11_gb21.out (.int .i64 g3)
          have s2_BK21 := blk_put (cs' := #[.slice AL3 L3.length cL3, .slice AD3 0 cD3, .int .i64 g3]) s1_BK21 2 (.int .i64 g3) rfl
          have s2_HB := below_set (j := 2) (v := .int .i64 g3) s1_HB GE_gb21.out
          have n_BK11 := Aside0.mk s2_BK11
          have n_BK21 := Aside0.mk s2_BK21
          have n_HO2 := Aside0.mk s2_HO2
          have n_HO3 := Aside0.mk s2_HO3
          have n_HB := Aside0.mk s2_HB
          clear s0_BK11 s0_BK21 s0_HO2 s0_HO3 s0_HB
          clear s1_BK11 s1_BK21 s1_HO2 s1_HO3 s1_HB
          clear s2_BK11 s2_BK21 s2_HO2 s2_HO3 s2_HB
          clear BK11 BK21 HO2 HO3 HB
          generalize (((w3.setCell ⟨gb21, 0, none⟩ (.slice AL3 L3.length cL3)).setCell ⟨gb21, 1, none⟩ (.slice AD3 0 cD3)).setCell ⟨gb21, 2, none⟩ (.int .i64 g3)) = w4 at n_BK11 n_BK21 n_HO2 n_HO3 n_HB ⊢
          have BK11 := n_BK11
          have BK21 := n_BK21
          have HO2 := n_HO2
          have HO3 := n_HO3
          have HB := n_HB
          clear n_BK11 n_BK21 n_HO2 n_HO3 n_HB
          have bk11_0 := (blk_cell BK11.out 0).trans (show _ = some (.slice AL L.length cL) from rfl); have bk11_1 := (blk_cell BK11.out 1).trans (show _ = some (.slice AD 0 cD) from rfl); have bk11_2 := (blk_cell BK11.out 2).trans (show _ = some (.int .i64 0) from rfl); have bk21_0 := (blk_cell BK21.out 0).trans (show _ = some (.slice AL3 L3.length cL3) from rfl); have bk21_1 := (blk_cell BK21.out 1).trans (show _ = some (.slice AD3 0 cD3) from rfl); have bk21_2 := (blk_cell BK21.out 2).trans (show _ = some (.int .i64 g3) from rfl); have bk11_f := fun i => blk_frozen BK11.out i; have bk21_f := fun i => blk_frozen BK21.out i
          have hl33 : L3.length ≤ 1000 := by rw [HL3.out]; exact hl30
          have n1121 := NE_gb11_gb21.out
          have n2111 := Ne.symm NE_gb11_gb21.out
          by_cases hz : L.length = 0
          · have hz0 : ((L.length : Int) == 0) = true := beq_iff_eq.2 (by omega)
            clear hz
            go_wp2_with (first
              | (go_at_call 41; (with_reducible refine (ratlinelaw21_awake.calls true _ rfl).mono ?_); rintro e w20 ⟨rfl, hbb⟩; have n0 := Aside0.mk (below_step HB.out hbb); clear HB; have HB := n0; clear n0 hbb))
            go_ret
            exact ⟨rfl, HB.out⟩
          · have hz0 : ((L.length : Int) == 0) = false := beq_false_of_ne (by omega)
            have HZ : Aside0 ((if g3 > 0 then 0 else (fits 1048576 1099511627776 0 0 L3 : Int)) = 0) := ⟨if_pos (HG3.out (by omega))⟩
            clear hz
            go_wp2_with (first
              | (go_at_call 43; (with_reducible refine (group_at0 _ _ L3 _ _ g3 1048576 1099511627776 _ (Kd.R_reads' HO2.out).2.2 (Kd.R_reads' HO2.out).2.1 (Kd.R_reads' HO3.out).2.2 HF3.out hl33 0 HZ.out).mono ?_); rintro e w20 ⟨rfl, hbb⟩; have n0 := Aside0.mk (below_step HB.out hbb); clear HB; have HB := n0; clear n0 hbb)
              | (go_at_call 41; (with_reducible refine (ratlinelaw21_awake.calls true _ rfl).mono ?_); rintro e w20 ⟨rfl, hbb⟩; have n0 := Aside0.mk (below_step HB.out hbb); clear HB; have HB := n0; clear n0 hbb))
            go_ret
            exact ⟨rfl, HB.out⟩
#print axioms groups_walk
end Go.Proofs.Ythlahhkjoocigaa.XQueue
