/- QueueLeads' own function, walked by hand: whatever ops, it answers true. Conditions: the ops lie in memory as they are, each within its types' bounds. -/
import Derived.Test.YthlahhkjoocigaaHDoes
import Derived.Test.YthlahhkjoocigaaXQueue7
import Derived.Test.YthlahhkjoocigaaHOpen
import Derived.BigQuiet
namespace Go.Proofs.Ythlahhkjoocigaa.XQueue
open Go Go.RowKit Go.Proofs.YthlahhkjoocigaaW.PrintWords Go.Proofs.YthlahhkjoocigaaW.PrintLast Go.Proofs.YthlahhkjoocigaaW.PrintMore
attribute [local go_sem] max2_int min2_int max_two min_two max_three min_three max_four min_four
set_option linter.unusedVariables false
set_option linter.unusedSimpArgs false
/-- What an op of the statements may be. -/
def OpOk (x : S61) : Prop := (0 ≤ x.f0 ∧ x.f0 ≤ 255) ∧ (-9223372036854775808 ≤ x.f1 ∧ x.f1 ≤ 9223372036854775807) ∧ 0 ≤ x.f4
theorem rdi_nat (l : List Int) (i : Nat) : rd l (i : Int) = l.getD i 0 := by simp [rd]
theorem inf61 : (Try.prog.info? 61).map (fun i => i.size) = some 6 := by kernel_rfl
theorem does_at (A0 : Option Addr) (c0 : Nat) (L : List S65) (A1 : Option Addr) (c1 : Nat) (D : List S65) (g : Int) (o : S61) (last m r : Int) (n : Nat) (w : World) (hr0 : Kd.C k65 w A0 L.length L) (hc0 : L.length ≤ c0) (hr1 : Kd.C k65 w A1 D.length D) (hc1 : D.length ≤ c1) (hI : Inv n L D g) (hn : n ≤ 1000) (hO : OpOk o) :
    Calls Try.prog 39 #[.agg #[.slice A0 L.length c0, .slice A1 D.length c1, .int .i64 g], .agg #[.int .u8 o.f0, .int .i64 o.f1, .int .i64 o.f2, .int .i64 o.f3, .int .u64 o.f4, .int .i64 o.f5], .int .u64 last, .int .i64 m, .int .u64 r] w fun e w' =>
      ∃ (L' D' : List S65) (g' last' : Int) (ts : List Int) (AL : Option Addr) (cL : Nat) (AD : Option Addr) (cD : Nat) (AT : Option Addr) (cT : Nat), e = .returned (.tuple #[.agg #[.slice AL L'.length cL, .slice AD D'.length cD, .int .i64 g'], .int .u64 last', .slice AT ts.length cT]) ∧ doesP L D g (o.f0 % 8) o.f1 o.f2 o.f4 o.f5 last m r = (L', D', g', last', ts) ∧ Inv (n + 1) L' D' g' ∧
        Kd.R k65 65 w' w.heap.size (fun _ => True) (.slice AL L'.length cL) L' ∧ Kd.R k65 65 w' w.heap.size (fun _ => True) (.slice AD D'.length cD) D' ∧ Kd.R (Kd.int .i64) 3 w' w.heap.size (fun _ => True) (.slice AT ts.length cT) ts ∧ Below w.heap.size w w' := by
  obtain ⟨k, hk⟩ := does_ev L D g o.f0 o.f1 o.f2 o.f3 o.f4 o.f5 last m r hI.fine (by have := hI.len; omega) (by have := hI.len; omega) hI.g0 hI.g1 hO.1.1 hO.2.1.1 hO.2.1.2 hO.2.2
  obtain ⟨L', D', g', last', ts, hd⟩ : ∃ L' D' g' last' ts, doesP L D g (o.f0 % 8) o.f1 o.f2 o.f4 o.f5 last m r = (L', D', g', last', ts) := ⟨_, _, _, _, _, rfl⟩
  rw [hd] at hk
  have hk := hk k (Nat.le_refl _)
  refine (ratlinelaw21_does.calls k A0 c0 L A1 c1 D g o.f0 o.f1 o.f2 o.f3 o.f4 o.f5 last m r L' D' g' last' ts w hr0 hc0 hr1 hc1 hk).mono ?_
  rintro e w' ⟨v0, v1, v4, rfl, h0, h1, h4, hb⟩
  obtain ⟨AL, cL, rfl⟩ := Kd.R_slice h0
  obtain ⟨AD, cD, rfl⟩ := Kd.R_slice h1
  obtain ⟨AT, cT, rfl⟩ := Kd.R_slice h4
  exact ⟨L', D', g', last', ts, AL, cL, AD, cD, AT, cT, rfl, hd, inv_step hI _ _ _ _ _ _ _ _ hO.2.1.1 hO.2.1.2 hO.2.2 _ _ _ _ _ hd, Kd.R_mono h0 (fun _ _ => trivial), Kd.R_mono h1 (fun _ _ => trivial), h4, hb⟩
theorem of_at (A0 : Option Addr) (c0 : Nat) (L : List S65) (A1 : Option Addr) (c1 : Nat) (D : List S65) (g t : Int) (w : World) (hr0 : Kd.C k65 w A0 L.length L) (hc0 : L.length ≤ c0) (hr1 : Kd.C k65 w A1 D.length D) (hc1 : D.length ≤ c1) (h : (ofP L D t).2 = true) :
    Calls Try.prog 42 #[.agg #[.slice A0 L.length c0, .slice A1 D.length c1, .int .i64 g], .int .i64 t] w fun e w' => ∃ q : S65, e = .returned (.tuple #[.agg #[.int .i64 q.f0, .int .i64 q.f1, .int .u64 q.f2, .int .u64 q.f3, .int .u8 q.f4, .int .i64 q.f5], .bool true]) ∧ Below w.heap.size w w' := by
  have hof := of_ev L D g t
  rw [h] at hof
  refine (queue_Of.calls 3 _ _ _ L _ _ _ D g t _ _ _ _ _ _ true w (V_of hr0 hc0) (V_of hr1 hc1) hof).mono ?_
  rintro e w' ⟨rfl, hb⟩
  exact ⟨_, rfl, hb⟩

set_option maxHeartbeats 16000000 in
set_option maxRecDepth 100000 in
theorem leads_walk (A0 : Option Addr) (c0 : Nat) (l0 : List S61) (a1 a2 : Int) (w : World) (hr0 : Kd.C k61 w A0 l0.length l0) (hc0 : l0.length ≤ c0) (hl0 : l0.length ≤ 9223372036854775807) (hu : ∀ x ∈ l0, OpOk x) (h10 : 0 ≤ a1) (h11 : a1 ≤ 65535) (h20 : 0 ≤ a2) (h21 : a2 ≤ 65535) :
    Calls Try.prog 10 #[.slice A0 l0.length c0, .int .u16 a1, .int .u16 a2] w fun e w' => e = .returned (.bool true) ∧ Below w.heap.size w w' := by
  obtain ⟨M, hM⟩ : ∃ M : Nat, (if (80 : Int) < (l0.length : Int) then (80 : Int) else (l0.length : Int)) = (M : Int) := ⟨_, (Int.toNat_of_nonneg (by split <;> omega)).symm⟩
  have hM1 : M ≤ l0.length := by split at hM <;> omega
  have hM80 : M ≤ 80 := by split at hM <;> omega
  obtain ⟨i61, hi61, hs61⟩ := Option.map_eq_some_iff.1 inf61
  have hcut := cut_to (P := Try.prog) 55 61 .i64 Try.underlying55 hi61 A0 l0.length c0 (M : Int) (by omega) (by omega) hc0
  rw [Int.toNat_natCast] at hcut
  have hr2 := Kd.C_take hr0 hM1
  have hu2 : ∀ x ∈ l0.take M, OpOk x := fun x hx => hu x (List.mem_of_mem_take hx)
  have hl2 : (l0.take M).length = M := by rw [List.length_take]; omega
  generalize l0.take M = l2 at hr2 hu2 hl2
  rw [← hl2] at hM hM1 hM80 hcut
  clear hl2 hi61 hs61
  have HR1 := Aside0.mk hr2
  have HU := Aside0.mk hu2
  have HB := Aside0.mk (Below.refl w.heap.size w)
  clear hr0 hc0 hu hr2 hu2
  go_enter Try.func10, Try.ntmps10
  go_wp2_with (first | ((with_reducible refine gate_dst (N := 9) rfl ?_); refine box_event ?hg (N := 9) ?hd (cs := #[.slice none 0 0, .slice none 0 0, .int .i64 0]) (t := 58) ?hr ?_; (case hd => rfl); (case hg => rfl); (case hr => first | (go_simp; done) | (go_simp; rfl)); intro gb9 hg w3 hbox hb; have GE_gb9 := Aside0.mk (show w.heap.size ≤ gb9 from by rw [hg]; exact below_size (by repeat (first | (with_reducible first | exact HB.out | apply below_alloc | apply pw_below_drewN | apply below_drew1) | exact HB.out))); clear hg; have n_HB := Aside0.mk (below_step (by repeat (first | (with_reducible first | exact HB.out | apply below_alloc | apply pw_below_drewN | apply below_drew1) | exact HB.out)) hb); skip; clear HB hb; have HB := n_HB; clear n_HB; have BK9 := Aside0.mk hbox; clear hbox; have bk9_0 := (blk_cell BK9.out 0).trans (show _ = some (.slice none 0 0) from rfl); have bk9_1 := (blk_cell BK9.out 1).trans (show _ = some (.slice none 0 0) from rfl); have bk9_2 := (blk_cell BK9.out 2).trans (show _ = some (.int .i64 0) from rfl); have bk9_f := fun i => blk_frozen BK9.out i))
  clear hM hcut hM1
  clear bk9_0 bk9_1 bk9_2 bk9_f
  go_loopw [10, 35] (fun v10 v35 wr => ∃ (i : Nat) (L D : List S65) (g last : Int) (AL : Option Addr) (cL : Nat) (AD : Option Addr) (cD : Nat), i ≤ l2.length ∧ v35 = .int .i64 i ∧ v10 = .int .u64 last ∧ Aside0 (Inv i L D g) ∧ Aside0 (wr.heap[gb9]? = some (.cells #[.slice AL L.length cL, .slice AD D.length cD, .int .i64 g] 58 (0, 0))) ∧ Aside0 (Kd.R k65 65 wr w.heap.size (fun _ => True) (.slice AL L.length cL) L) ∧ Aside0 (Kd.R k65 65 wr w.heap.size (fun _ => True) (.slice AD D.length cD) D) ∧ Aside0 (Below w.heap.size w wr)) (fun v10 v35 _ => l2.length - (intOf v35).toNat)
  case atStart => exact ⟨0, [], [], 0, 0, none, 0, none, 0, Nat.zero_le _, rfl, rfl, ⟨inv0⟩, ⟨BK9.out⟩, ⟨Kd.R_nil _ _ _ _ _⟩, ⟨Kd.R_nil _ _ _ _ _⟩, HB⟩
  case round =>
    clear BK9 HB
    obtain ⟨i, L, D, g, last, AL, cL, AD, cD, hi, rfl, rfl, HI, BK9, HO0, HO1, HB⟩ := hrel
    rename World => wo
    have hwb : w.heap.size ≤ wo.heap.size := below_size HB.out
    by_cases hlt : i < l2.length
    · obtain ⟨ad, e0, hx0, hx1, hx2, hx3, hx4, hx5⟩ := at_T61 HR1.out (i : Int) (by omega) (by omega)
      subst e0
      replace hx0 := (HB.out.cell (World.block_lt_of_cell? w _ hx0)).trans hx0
      replace hx1 := (HB.out.cell (World.block_lt_of_cell? w _ hx1)).trans hx1
      replace hx2 := (HB.out.cell (World.block_lt_of_cell? w _ hx2)).trans hx2
      replace hx3 := (HB.out.cell (World.block_lt_of_cell? w _ hx3)).trans hx3
      replace hx4 := (HB.out.cell (World.block_lt_of_cell? w _ hx4)).trans hx4
      replace hx5 := (HB.out.cell (World.block_lt_of_cell? w _ hx5)).trans hx5
      have hot : rd_T61 l2 (i : Int) ∈ l2 := by rw [show rd_T61 l2 (i : Int) = l2.getD i z61 by simp [rd_T61], List.getD_eq_getElem?_getD, List.getElem?_eq_getElem hlt]; exact List.getElem_mem _
      have HK := Aside0.mk (HU.out _ hot)
      simp only [Int.toNat_natCast] at hx0 hx1 hx2 hx3 hx4 hx5
      generalize rd_T61 l2 (i : Int) = o at hx0 hx1 hx2 hx3 hx4 hx5 HK
      clear hot
      have bk9_0 := (blk_cell BK9.out 0).trans (show _ = some (.slice AL L.length cL) from rfl); have bk9_1 := (blk_cell BK9.out 1).trans (show _ = some (.slice AD D.length cD) from rfl); have bk9_2 := (blk_cell BK9.out 2).trans (show _ = some (.int .i64 g) from rfl); have bk9_f := fun i => blk_frozen BK9.out i
      go_upto_region 7 with (first | ((with_reducible refine gate_dst (N := 12) rfl ?_); refine box_event ?hg (N := 12) ?hd (cs := #[.int .u8 0, .int .i64 0, .int .i64 0, .int .i64 0, .int .u64 0, .int .i64 0]) (t := 61) ?hr ?_; (case hd => rfl); (case hg => rfl); (case hr => first | (go_simp; done) | (go_simp; rfl)); intro gb12 hg w3 hbox hb; have NE_gb9_gb12 := Aside0.mk (show gb9 ≠ gb12 from by rw [hg]; exact Nat.ne_of_lt (blk_lt (o := .cells #[.slice AL L.length cL, .slice AD D.length cD, .int .i64 g] 58 (0, 0)) (by (with_reducible repeat (first | refine blk_drewN ?_ _ | refine blk_drew ?_ | refine blk_alloc ?_ _)); exact BK9.out))); have GE_gb12 := Aside0.mk (show w.heap.size ≤ gb12 from by rw [hg]; exact below_size (by repeat (first | (with_reducible first | exact HB.out | apply below_alloc | apply pw_below_drewN | apply below_drew1) | exact HB.out))); clear hg; have n_BK9 := Aside0.mk (blk_below (g := gb9) (o := .cells #[.slice AL L.length cL, .slice AD D.length cD, .int .i64 g] 58 (0, 0)) (by (with_reducible repeat (first | refine blk_drewN ?_ _ | refine blk_drew ?_ | refine blk_alloc ?_ _)); exact BK9.out) hb); have n_HO0 := Aside0.mk (Kd.R_below (by (with_reducible repeat (first | apply Kd.R_alloc | apply Kd.R_drewN | apply Kd.R_drew)); exact HO0.out) hb); have n_HO1 := Aside0.mk (Kd.R_below (by (with_reducible repeat (first | apply Kd.R_alloc | apply Kd.R_drewN | apply Kd.R_drew)); exact HO1.out) hb); have n_HB := Aside0.mk (below_step (by repeat (first | (with_reducible first | exact HB.out | apply below_alloc | apply pw_below_drewN | apply below_drew1) | exact HB.out)) hb); clear bk9_0 bk9_1 bk9_2 bk9_f; clear BK9 HO0 HO1 HB hb; have BK9 := n_BK9; have HO0 := n_HO0; have HO1 := n_HO1; have HB := n_HB; clear n_BK9 n_HO0 n_HO1 n_HB; have BK12 := Aside0.mk hbox; clear hbox; have bk9_0 := (blk_cell BK9.out 0).trans (show _ = some (.slice AL L.length cL) from rfl); have bk9_1 := (blk_cell BK9.out 1).trans (show _ = some (.slice AD D.length cD) from rfl); have bk9_2 := (blk_cell BK9.out 2).trans (show _ = some (.int .i64 g) from rfl); have bk12_0 := (blk_cell BK12.out 0).trans (show _ = some (.int .u8 0) from rfl); have bk12_1 := (blk_cell BK12.out 1).trans (show _ = some (.int .i64 0) from rfl); have bk12_2 := (blk_cell BK12.out 2).trans (show _ = some (.int .i64 0) from rfl); have bk12_3 := (blk_cell BK12.out 3).trans (show _ = some (.int .i64 0) from rfl); have bk12_4 := (blk_cell BK12.out 4).trans (show _ = some (.int .u64 0) from rfl); have bk12_5 := (blk_cell BK12.out 5).trans (show _ = some (.int .i64 0) from rfl); have bk9_f := fun i => blk_frozen BK9.out i; have bk12_f := fun i => blk_frozen BK12.out i))
      clear hx0 hx1 hx2 hx3 hx4 hx5
      clear bk9_0 bk9_1 bk9_2 bk9_f bk12_0 bk12_1 bk12_2 bk12_3 bk12_4 bk12_5 bk12_f
      have s0_HO0 := Kd.R_set HO0.out BK12.out (by decide) 0 (.int .u8 o.f0)
      have s0_HO1 := Kd.R_set HO1.out BK12.out (by decide) 0 (.int .u8 o.f0)
      have s0_BK9 := blk_far BK9.out (p := ⟨gb12, 0, none⟩) NE_gb9_gb12.out (.int .u8 o.f0)
      have s0_BK12 := blk_put (cs' := #[.int .u8 o.f0, .int .i64 0, .int .i64 0, .int .i64 0, .int .u64 0, .int .i64 0]) BK12.out 0 (.int .u8 o.f0) rfl
      have s0_HB := below_set (j := 0) (v := .int .u8 o.f0) HB.out GE_gb12.out
      have s1_HO0 := Kd.R_set s0_HO0 s0_BK12 (by decide) 1 (.int .i64 o.f1)
      have s1_HO1 := Kd.R_set s0_HO1 s0_BK12 (by decide) 1 (.int .i64 o.f1)
      have s1_BK9 := blk_far s0_BK9 (p := ⟨gb12, 1, none⟩) NE_gb9_gb12.out (.int .i64 o.f1)
      have s1_BK12 := blk_put (cs' := #[.int .u8 o.f0, .int .i64 o.f1, .int .i64 0, .int .i64 0, .int .u64 0, .int .i64 0]) s0_BK12 1 (.int .i64 o.f1) rfl
      have s1_HB := below_set (j := 1) (v := .int .i64 o.f1) s0_HB GE_gb12.out
      have s2_HO0 := Kd.R_set s1_HO0 s1_BK12 (by decide) 2 (.int .i64 o.f2)
      have s2_HO1 := Kd.R_set s1_HO1 s1_BK12 (by decide) 2 (.int .i64 o.f2)
      have s2_BK9 := blk_far s1_BK9 (p := ⟨gb12, 2, none⟩) NE_gb9_gb12.out (.int .i64 o.f2)
      have s2_BK12 := blk_put (cs' := #[.int .u8 o.f0, .int .i64 o.f1, .int .i64 o.f2, .int .i64 0, .int .u64 0, .int .i64 0]) s1_BK12 2 (.int .i64 o.f2) rfl
      have s2_HB := below_set (j := 2) (v := .int .i64 o.f2) s1_HB GE_gb12.out
      have s3_HO0 := Kd.R_set s2_HO0 s2_BK12 (by decide) 3 (.int .i64 o.f3)
      have s3_HO1 := Kd.R_set s2_HO1 s2_BK12 (by decide) 3 (.int .i64 o.f3)
      have s3_BK9 := blk_far s2_BK9 (p := ⟨gb12, 3, none⟩) NE_gb9_gb12.out (.int .i64 o.f3)
      have s3_BK12 := blk_put (cs' := #[.int .u8 o.f0, .int .i64 o.f1, .int .i64 o.f2, .int .i64 o.f3, .int .u64 0, .int .i64 0]) s2_BK12 3 (.int .i64 o.f3) rfl
      have s3_HB := below_set (j := 3) (v := .int .i64 o.f3) s2_HB GE_gb12.out
      have s4_HO0 := Kd.R_set s3_HO0 s3_BK12 (by decide) 4 (.int .u64 o.f4)
      have s4_HO1 := Kd.R_set s3_HO1 s3_BK12 (by decide) 4 (.int .u64 o.f4)
      have s4_BK9 := blk_far s3_BK9 (p := ⟨gb12, 4, none⟩) NE_gb9_gb12.out (.int .u64 o.f4)
      have s4_BK12 := blk_put (cs' := #[.int .u8 o.f0, .int .i64 o.f1, .int .i64 o.f2, .int .i64 o.f3, .int .u64 o.f4, .int .i64 0]) s3_BK12 4 (.int .u64 o.f4) rfl
      have s4_HB := below_set (j := 4) (v := .int .u64 o.f4) s3_HB GE_gb12.out
      have s5_HO0 := Kd.R_set s4_HO0 s4_BK12 (by decide) 5 (.int .i64 o.f5)
      have s5_HO1 := Kd.R_set s4_HO1 s4_BK12 (by decide) 5 (.int .i64 o.f5)
      have s5_BK9 := blk_far s4_BK9 (p := ⟨gb12, 5, none⟩) NE_gb9_gb12.out (.int .i64 o.f5)
      have s5_BK12 := blk_put (cs' := #[.int .u8 o.f0, .int .i64 o.f1, .int .i64 o.f2, .int .i64 o.f3, .int .u64 o.f4, .int .i64 o.f5]) s4_BK12 5 (.int .i64 o.f5) rfl
      have s5_HB := below_set (j := 5) (v := .int .i64 o.f5) s4_HB GE_gb12.out
      have n_BK9 := Aside0.mk s5_BK9
      have n_BK12 := Aside0.mk s5_BK12
      have n_HO0 := Aside0.mk s5_HO0
      have n_HO1 := Aside0.mk s5_HO1
      have n_HB := Aside0.mk s5_HB
      clear s0_BK9 s0_BK12 s0_HO0 s0_HO1 s0_HB
      clear s1_BK9 s1_BK12 s1_HO0 s1_HO1 s1_HB
      clear s2_BK9 s2_BK12 s2_HO0 s2_HO1 s2_HB
      clear s3_BK9 s3_BK12 s3_HO0 s3_HO1 s3_HB
      clear s4_BK9 s4_BK12 s4_HO0 s4_HO1 s4_HB
      clear s5_BK9 s5_BK12 s5_HO0 s5_HO1 s5_HB
      clear BK9 BK12 HO0 HO1 HB
      generalize ((((((w3.setCell ⟨gb12, 0, none⟩ (.int .u8 o.f0)).setCell ⟨gb12, 1, none⟩ (.int .i64 o.f1)).setCell ⟨gb12, 2, none⟩ (.int .i64 o.f2)).setCell ⟨gb12, 3, none⟩ (.int .i64 o.f3)).setCell ⟨gb12, 4, none⟩ (.int .u64 o.f4)).setCell ⟨gb12, 5, none⟩ (.int .i64 o.f5)) = w4 at n_BK9 n_BK12 n_HO0 n_HO1 n_HB ⊢
      have BK9 := n_BK9
      have BK12 := n_BK12
      have HO0 := n_HO0
      have HO1 := n_HO1
      have HB := n_HB
      clear n_BK9 n_BK12 n_HO0 n_HO1 n_HB
      have bk9_0 := (blk_cell BK9.out 0).trans (show _ = some (.slice AL L.length cL) from rfl); have bk9_1 := (blk_cell BK9.out 1).trans (show _ = some (.slice AD D.length cD) from rfl); have bk9_2 := (blk_cell BK9.out 2).trans (show _ = some (.int .i64 g) from rfl); have bk12_0 := (blk_cell BK12.out 0).trans (show _ = some (.int .u8 o.f0) from rfl); have bk12_1 := (blk_cell BK12.out 1).trans (show _ = some (.int .i64 o.f1) from rfl); have bk12_2 := (blk_cell BK12.out 2).trans (show _ = some (.int .i64 o.f2) from rfl); have bk12_3 := (blk_cell BK12.out 3).trans (show _ = some (.int .i64 o.f3) from rfl); have bk12_4 := (blk_cell BK12.out 4).trans (show _ = some (.int .u64 o.f4) from rfl); have bk12_5 := (blk_cell BK12.out 5).trans (show _ = some (.int .i64 o.f5) from rfl); have bk9_f := fun i => blk_frozen BK9.out i; have bk12_f := fun i => blk_frozen BK12.out i
      have hwb4 : w.heap.size ≤ w4.heap.size := below_size HB.out
      go_upto_region 9 with (first | (go_at_call 39; (with_reducible refine (does_at _ _ L _ _ D g o last _ _ i _ (Kd.R_reads' HO0.out).2.2 (Kd.R_reads' HO0.out).2.1 (Kd.R_reads' HO1.out).2.2 (Kd.R_reads' HO1.out).2.1 HI.out (by omega) HK.out).mono ?_); rintro e w5 ⟨L2, D2, g2, last2, ts, AL2, cL2, AD2, cD2, AT, cT, rfl, hd, hi2, ho0, ho1, hot, hb⟩; have HTD := Aside0.mk (does_told HI.out _ _ _ _ _ _ _ _ _ _ _ _ _ hd); have HI2 := Aside0.mk hi2; have n_BK9 := Aside0.mk (blk_below BK9.out hb); have n_BK12 := Aside0.mk (blk_below BK12.out hb); have n_HO2 := Aside0.mk (Kd.R_lower ho0 hwb4); have n_HO3 := Aside0.mk (Kd.R_lower ho1 hwb4); have n_HT := Aside0.mk (Kd.R_lower hot hwb4); have n_HB := Aside0.mk (below_step HB.out hb); clear bk9_0 bk9_1 bk9_2 bk9_f bk12_0 bk12_1 bk12_2 bk12_3 bk12_4 bk12_5 bk12_f; clear BK9 BK12 HB HO0 HO1; have BK9 := n_BK9; have BK12 := n_BK12; have HO2 := n_HO2; have HO3 := n_HO3; have HT := n_HT; have HB := n_HB; clear n_BK9 n_BK12 n_HO2 n_HO3 n_HT n_HB; have bk9_0 := (blk_cell BK9.out 0).trans (show _ = some (.slice AL L.length cL) from rfl); have bk9_1 := (blk_cell BK9.out 1).trans (show _ = some (.slice AD D.length cD) from rfl); have bk9_2 := (blk_cell BK9.out 2).trans (show _ = some (.int .i64 g) from rfl); have bk12_0 := (blk_cell BK12.out 0).trans (show _ = some (.int .u8 o.f0) from rfl); have bk12_1 := (blk_cell BK12.out 1).trans (show _ = some (.int .i64 o.f1) from rfl); have bk12_2 := (blk_cell BK12.out 2).trans (show _ = some (.int .i64 o.f2) from rfl); have bk12_3 := (blk_cell BK12.out 3).trans (show _ = some (.int .i64 o.f3) from rfl); have bk12_4 := (blk_cell BK12.out 4).trans (show _ = some (.int .u64 o.f4) from rfl); have bk12_5 := (blk_cell BK12.out 5).trans (show _ = some (.int .i64 o.f5) from rfl); have bk9_f := fun i => blk_frozen BK9.out i; have bk12_f := fun i => blk_frozen BK12.out i; clear hd hi2 ho0 ho1 hot hb))
      clear HI hwb4
      clear bk9_0 bk9_1 bk9_2 bk9_f bk12_0 bk12_1 bk12_2 bk12_3 bk12_4 bk12_5 bk12_f
      have s0_HO2 := Kd.R_set HO2.out BK9.out (by decide) 0 (.slice AL2 L2.length cL2)
      have s0_HO3 := Kd.R_set HO3.out BK9.out (by decide) 0 (.slice AL2 L2.length cL2)
      have s0_HT := Kd.R_set HT.out BK9.out (by decide) 0 (.slice AL2 L2.length cL2)
      have s0_BK9 := blk_put (cs' := #[.slice AL2 L2.length cL2, .slice AD D.length cD, .int .i64 g]) BK9.out 0 (.slice AL2 L2.length cL2) rfl
      have s0_BK12 := blk_far BK12.out (p := ⟨gb9, 0, none⟩) (Ne.symm NE_gb9_gb12.out) (.slice AL2 L2.length cL2)
      have s0_HB := below_set (j := 0) (v := .slice AL2 L2.length cL2) HB.out GE_gb9.out
      have s1_HO2 := Kd.R_set s0_HO2 s0_BK9 (by decide) 1 (.slice AD2 D2.length cD2)
      have s1_HO3 := Kd.R_set s0_HO3 s0_BK9 (by decide) 1 (.slice AD2 D2.length cD2)
      have s1_HT := Kd.R_set s0_HT s0_BK9 (by decide) 1 (.slice AD2 D2.length cD2)
      have s1_BK9 := blk_put (cs' := #[.slice AL2 L2.length cL2, .slice AD2 D2.length cD2, .int .i64 g]) s0_BK9 1 (.slice AD2 D2.length cD2) rfl
      have s1_BK12 := blk_far s0_BK12 (p := ⟨gb9, 1, none⟩) (Ne.symm NE_gb9_gb12.out) (.slice AD2 D2.length cD2)
      have s1_HB := below_set (j := 1) (v := .slice AD2 D2.length cD2) s0_HB GE_gb9.out
      have s2_HO2 := Kd.R_set s1_HO2 s1_BK9 (by decide) 2 (.int .i64 g2)
      have s2_HO3 := Kd.R_set s1_HO3 s1_BK9 (by decide) 2 (.int .i64 g2)
      have s2_HT := Kd.R_set s1_HT s1_BK9 (by decide) 2 (.int .i64 g2)
      have s2_BK9 := blk_put (cs' := #[.slice AL2 L2.length cL2, .slice AD2 D2.length cD2, .int .i64 g2]) s1_BK9 2 (.int .i64 g2) rfl
      have s2_BK12 := blk_far s1_BK12 (p := ⟨gb9, 2, none⟩) (Ne.symm NE_gb9_gb12.out) (.int .i64 g2)
      have s2_HB := below_set (j := 2) (v := .int .i64 g2) s1_HB GE_gb9.out
      have n_BK9 := Aside0.mk s2_BK9
      have n_BK12 := Aside0.mk s2_BK12
      have n_HO2 := Aside0.mk s2_HO2
      have n_HO3 := Aside0.mk s2_HO3
      have n_HT := Aside0.mk s2_HT
      have n_HB := Aside0.mk s2_HB
      clear s0_BK9 s0_BK12 s0_HO2 s0_HO3 s0_HT s0_HB
      clear s1_BK9 s1_BK12 s1_HO2 s1_HO3 s1_HT s1_HB
      clear s2_BK9 s2_BK12 s2_HO2 s2_HO3 s2_HT s2_HB
      clear BK9 BK12 HO2 HO3 HT HB
      generalize (((w5.setCell ⟨gb9, 0, none⟩ (.slice AL2 L2.length cL2)).setCell ⟨gb9, 1, none⟩ (.slice AD2 D2.length cD2)).setCell ⟨gb9, 2, none⟩ (.int .i64 g2)) = w6 at n_BK9 n_BK12 n_HO2 n_HO3 n_HT n_HB ⊢
      have BK9 := n_BK9
      have BK12 := n_BK12
      have HO2 := n_HO2
      have HO3 := n_HO3
      have HT := n_HT
      have HB := n_HB
      clear n_BK9 n_BK12 n_HO2 n_HO3 n_HT n_HB
      have bk9_0 := (blk_cell BK9.out 0).trans (show _ = some (.slice AL2 L2.length cL2) from rfl); have bk9_1 := (blk_cell BK9.out 1).trans (show _ = some (.slice AD2 D2.length cD2) from rfl); have bk9_2 := (blk_cell BK9.out 2).trans (show _ = some (.int .i64 g2) from rfl); have bk12_0 := (blk_cell BK12.out 0).trans (show _ = some (.int .u8 o.f0) from rfl); have bk12_1 := (blk_cell BK12.out 1).trans (show _ = some (.int .i64 o.f1) from rfl); have bk12_2 := (blk_cell BK12.out 2).trans (show _ = some (.int .i64 o.f2) from rfl); have bk12_3 := (blk_cell BK12.out 3).trans (show _ = some (.int .i64 o.f3) from rfl); have bk12_4 := (blk_cell BK12.out 4).trans (show _ = some (.int .u64 o.f4) from rfl); have bk12_5 := (blk_cell BK12.out 5).trans (show _ = some (.int .i64 o.f5) from rfl); have bk9_f := fun i => blk_frozen BK9.out i; have bk12_f := fun i => blk_frozen BK12.out i
      clear bk12_0 bk12_1 bk12_2 bk12_3 bk12_4 bk12_5 bk12_f
      have dg0 : decide (g2 < 0) = false := decide_eq_false (by have := HI2.out.g0; omega)
      have dg1 : decide ((L2.length : Int) < g2) = false := decide_eq_false (by have := HI2.out.g1; omega)
      have hL2 : L2.length ≤ 1000 := by have := HI2.out.len; omega
      have hT2 : ts.length ≤ 1000 := by have := HTD.out.2.2; omega
      have hO0 : 0 ≤ o.f0 := HK.out.1.1
      go_upto_region 11 with (fail)
      go_wp2
      clear bk9_0 bk9_1 bk9_2 bk9_f dg0 dg1
      have HBo := HB
      clear HB
      go_loopw [63] (fun v63 wr => ∃ j : Nat, j ≤ L2.length ∧ v63 = .int .i64 j ∧ Aside0 (Below w6.heap.size w6 wr)) (fun v63 _ => L2.length - (intOf v63).toNat)
      case atStart => exact ⟨0, Nat.zero_le _, rfl, ⟨(by repeat (first | exact Below.refl _ _ | apply pw_below_drewN | apply below_drew1 | apply below_alloc))⟩⟩
      case round =>
        obtain ⟨j, hj, rfl, HB⟩ := hrel
        rename World => wy
        have BKz := Aside0.mk (blk_below (g := gb9) (o := .cells #[.slice AL2 L2.length cL2, .slice AD2 D2.length cD2, .int .i64 g2] 58 (0, 0)) BK9.out HB.out)
        by_cases hlj : j < L2.length
        · obtain ⟨ad2, e2, hy0, hy1, hy2, hy3, hy4, hy5⟩ := at_T65 (Kd.R_reads' HO2.out).2.2 (j : Int) (by omega) (by omega)
          subst e2
          obtain ⟨ad3, e3, hz0, hz1, hz2, hz3, hz4, hz5⟩ := at_T65 (Kd.R_reads' HO2.out).2.2 (0 : Int) (by omega) (by omega)
          obtain rfl := Option.some.inj e3
          clear e3 hz0 hz1 hz2 hz3 hz5
          replace hy0 := (HB.out.cell (World.block_lt_of_cell? w6 _ hy0)).trans hy0
          replace hy1 := (HB.out.cell (World.block_lt_of_cell? w6 _ hy1)).trans hy1
          replace hy2 := (HB.out.cell (World.block_lt_of_cell? w6 _ hy2)).trans hy2
          replace hy3 := (HB.out.cell (World.block_lt_of_cell? w6 _ hy3)).trans hy3
          replace hy4 := (HB.out.cell (World.block_lt_of_cell? w6 _ hy4)).trans hy4
          replace hy5 := (HB.out.cell (World.block_lt_of_cell? w6 _ hy5)).trans hy5
          have hsay := HI2.out.say j hlj
          rw [← rd65_nat] at hsay
          rw [show L2.getD 0 z65 = rd_T65 L2 0 from (rd65_nat L2 0).symm] at hsay
          simp only [Int.toNat_natCast] at hy0 hy1 hy2 hy3 hy4 hy5
          simp only [show (0 : Int).toNat * 6 = 0 from rfl] at hz4
          generalize rd_T65 L2 (j : Int) = x at hy0 hy1 hy2 hy3 hy4 hy5 hsay
          generalize (rd_T65 L2 0).f4 = z4 at hz4 hsay
          have HSAY := Aside0.mk hsay
          clear hsay
          have bkz_0 := (blk_cell BKz.out 0).trans (show _ = some (.slice (some ad2) L2.length cL2) from rfl); have bkz_1 := (blk_cell BKz.out 1).trans (show _ = some (.slice AD2 D2.length cD2) from rfl); have bkz_2 := (blk_cell BKz.out 2).trans (show _ = some (.int .i64 g2) from rfl); have bkz_f := fun i => blk_frozen BKz.out i
          go_upto_region 14 with (first | ((with_reducible refine gate_dst (N := 15) rfl ?_); refine box_event ?hg (N := 15) ?hd (cs := #[.int .i64 0, .int .i64 0, .int .u64 0, .int .u64 0, .int .u8 0, .int .i64 0]) (t := 65) ?hr ?_; (case hd => rfl); (case hg => rfl); (case hr => first | (go_simp; done) | (go_simp; rfl)); intro gb15 hg w3 hbox hb; have NE_gb9_gb15 := Aside0.mk (show gb9 ≠ gb15 from by rw [hg]; exact Nat.ne_of_lt (blk_lt (o := .cells #[.slice (some ad2) L2.length cL2, .slice AD2 D2.length cD2, .int .i64 g2] 58 (0, 0)) (by (with_reducible repeat (first | refine blk_drewN ?_ _ | refine blk_drew ?_ | refine blk_alloc ?_ _)); exact BKz.out))); have GE_gb15 := Aside0.mk (show w6.heap.size ≤ gb15 from by rw [hg]; exact below_size (by repeat (first | (with_reducible first | exact HB.out | apply below_alloc | apply pw_below_drewN | apply below_drew1) | exact HB.out))); clear hg; have n_BKz := Aside0.mk (blk_below (g := gb9) (o := .cells #[.slice (some ad2) L2.length cL2, .slice AD2 D2.length cD2, .int .i64 g2] 58 (0, 0)) (by (with_reducible repeat (first | refine blk_drewN ?_ _ | refine blk_drew ?_ | refine blk_alloc ?_ _)); exact BKz.out) hb); have n_HB := Aside0.mk (below_step (by repeat (first | (with_reducible first | exact HB.out | apply below_alloc | apply pw_below_drewN | apply below_drew1) | exact HB.out)) hb); clear bkz_0 bkz_1 bkz_2 bkz_f; clear BKz HB hb; have BKz := n_BKz; have HB := n_HB; clear n_BKz n_HB; have BK15 := Aside0.mk hbox; clear hbox; have bkz_0 := (blk_cell BKz.out 0).trans (show _ = some (.slice (some ad2) L2.length cL2) from rfl); have bkz_1 := (blk_cell BKz.out 1).trans (show _ = some (.slice AD2 D2.length cD2) from rfl); have bkz_2 := (blk_cell BKz.out 2).trans (show _ = some (.int .i64 g2) from rfl); have bk15_0 := (blk_cell BK15.out 0).trans (show _ = some (.int .i64 0) from rfl); have bk15_1 := (blk_cell BK15.out 1).trans (show _ = some (.int .i64 0) from rfl); have bk15_2 := (blk_cell BK15.out 2).trans (show _ = some (.int .u64 0) from rfl); have bk15_3 := (blk_cell BK15.out 3).trans (show _ = some (.int .u64 0) from rfl); have bk15_4 := (blk_cell BK15.out 4).trans (show _ = some (.int .u8 0) from rfl); have bk15_5 := (blk_cell BK15.out 5).trans (show _ = some (.int .i64 0) from rfl); have bkz_f := fun i => blk_frozen BKz.out i; have bk15_f := fun i => blk_frozen BK15.out i))
          clear hy0 hy1 hy2 hy3 hy4 hy5
          clear bkz_0 bkz_1 bkz_2 bkz_f bk15_0 bk15_1 bk15_2 bk15_3 bk15_4 bk15_5 bk15_f
          have s0_BKz := blk_far BKz.out (p := ⟨gb15, 0, none⟩) NE_gb9_gb15.out (.int .i64 x.f0)
          have s0_BK15 := blk_put (cs' := #[.int .i64 x.f0, .int .i64 0, .int .u64 0, .int .u64 0, .int .u8 0, .int .i64 0]) BK15.out 0 (.int .i64 x.f0) rfl
          have s0_HB := below_set (j := 0) (v := .int .i64 x.f0) HB.out GE_gb15.out
          have s1_BKz := blk_far s0_BKz (p := ⟨gb15, 1, none⟩) NE_gb9_gb15.out (.int .i64 x.f1)
          have s1_BK15 := blk_put (cs' := #[.int .i64 x.f0, .int .i64 x.f1, .int .u64 0, .int .u64 0, .int .u8 0, .int .i64 0]) s0_BK15 1 (.int .i64 x.f1) rfl
          have s1_HB := below_set (j := 1) (v := .int .i64 x.f1) s0_HB GE_gb15.out
          have s2_BKz := blk_far s1_BKz (p := ⟨gb15, 2, none⟩) NE_gb9_gb15.out (.int .u64 x.f2)
          have s2_BK15 := blk_put (cs' := #[.int .i64 x.f0, .int .i64 x.f1, .int .u64 x.f2, .int .u64 0, .int .u8 0, .int .i64 0]) s1_BK15 2 (.int .u64 x.f2) rfl
          have s2_HB := below_set (j := 2) (v := .int .u64 x.f2) s1_HB GE_gb15.out
          have s3_BKz := blk_far s2_BKz (p := ⟨gb15, 3, none⟩) NE_gb9_gb15.out (.int .u64 x.f3)
          have s3_BK15 := blk_put (cs' := #[.int .i64 x.f0, .int .i64 x.f1, .int .u64 x.f2, .int .u64 x.f3, .int .u8 0, .int .i64 0]) s2_BK15 3 (.int .u64 x.f3) rfl
          have s3_HB := below_set (j := 3) (v := .int .u64 x.f3) s2_HB GE_gb15.out
          have s4_BKz := blk_far s3_BKz (p := ⟨gb15, 4, none⟩) NE_gb9_gb15.out (.int .u8 x.f4)
          have s4_BK15 := blk_put (cs' := #[.int .i64 x.f0, .int .i64 x.f1, .int .u64 x.f2, .int .u64 x.f3, .int .u8 x.f4, .int .i64 0]) s3_BK15 4 (.int .u8 x.f4) rfl
          have s4_HB := below_set (j := 4) (v := .int .u8 x.f4) s3_HB GE_gb15.out
          have s5_BKz := blk_far s4_BKz (p := ⟨gb15, 5, none⟩) NE_gb9_gb15.out (.int .i64 x.f5)
          have s5_BK15 := blk_put (cs' := #[.int .i64 x.f0, .int .i64 x.f1, .int .u64 x.f2, .int .u64 x.f3, .int .u8 x.f4, .int .i64 x.f5]) s4_BK15 5 (.int .i64 x.f5) rfl
          have s5_HB := below_set (j := 5) (v := .int .i64 x.f5) s4_HB GE_gb15.out
          have n_BKz := Aside0.mk s5_BKz
          have n_BK15 := Aside0.mk s5_BK15
          have n_HB := Aside0.mk s5_HB
          clear s0_BKz s0_BK15 s0_HB
          clear s1_BKz s1_BK15 s1_HB
          clear s2_BKz s2_BK15 s2_HB
          clear s3_BKz s3_BK15 s3_HB
          clear s4_BKz s4_BK15 s4_HB
          clear s5_BKz s5_BK15 s5_HB
          clear BKz BK15 HB
          generalize ((((((w3.setCell ⟨gb15, 0, none⟩ (.int .i64 x.f0)).setCell ⟨gb15, 1, none⟩ (.int .i64 x.f1)).setCell ⟨gb15, 2, none⟩ (.int .u64 x.f2)).setCell ⟨gb15, 3, none⟩ (.int .u64 x.f3)).setCell ⟨gb15, 4, none⟩ (.int .u8 x.f4)).setCell ⟨gb15, 5, none⟩ (.int .i64 x.f5)) = w4 at n_BKz n_BK15 n_HB ⊢
          have BKz := n_BKz
          have BK15 := n_BK15
          have HB := n_HB
          clear n_BKz n_BK15 n_HB
          have bkz_0 := (blk_cell BKz.out 0).trans (show _ = some (.slice (some ad2) L2.length cL2) from rfl); have bkz_1 := (blk_cell BKz.out 1).trans (show _ = some (.slice AD2 D2.length cD2) from rfl); have bkz_2 := (blk_cell BKz.out 2).trans (show _ = some (.int .i64 g2) from rfl); have bk15_0 := (blk_cell BK15.out 0).trans (show _ = some (.int .i64 x.f0) from rfl); have bk15_1 := (blk_cell BK15.out 1).trans (show _ = some (.int .i64 x.f1) from rfl); have bk15_2 := (blk_cell BK15.out 2).trans (show _ = some (.int .u64 x.f2) from rfl); have bk15_3 := (blk_cell BK15.out 3).trans (show _ = some (.int .u64 x.f3) from rfl); have bk15_4 := (blk_cell BK15.out 4).trans (show _ = some (.int .u8 x.f4) from rfl); have bk15_5 := (blk_cell BK15.out 5).trans (show _ = some (.int .i64 x.f5) from rfl); have bkz_f := fun i => blk_frozen BKz.out i; have bk15_f := fun i => blk_frozen BK15.out i
          replace hz4 := (HB.out.cell (World.block_lt_of_cell? w6 _ hz4)).trans hz4
          replace hz4 : w4.cell? { block := ad2.block, off := ad2.off + 4 } = some (.int .u8 z4) := hz4
          rcases HSAY.out.1 with h1 | ⟨hjg, h1⟩
          · by_cases hj0 : j = 0
            · rw [if_pos hj0] at h1
              rw [h1] at bk15_4
              subst hj0
              clear h1 hz4
              go_wp2
              go_roundw
              case rel => exact ⟨1, by omega, by go_num, ⟨by repeat (first | exact HB.out | apply pw_below_drewN | apply below_drew1)⟩⟩
              case measure => simp [intOf]; omega
            · rw [if_neg hj0] at h1
              rw [h1] at bk15_4
              have hjb : ((j : Int) == 0) = false := beq_false_of_ne (by omega)
              clear h1 hz4
              go_wp2
              go_roundw
              case rel => exact ⟨j + 1, by omega, by go_num, ⟨by repeat (first | exact HB.out | apply pw_below_drewN | apply below_drew1)⟩⟩
              case measure => simp [intOf]; omega
          · have hz := HSAY.out.2 h1
            rw [h1] at bk15_4
            rw [hz] at hz4
            have dgj : decide (g2 ≤ (j : Int)) = false := decide_eq_false (by omega)
            have dgj0 : decide (g2 ≤ 0) = false := decide_eq_false (by omega)
            clear h1 hz hjg
            by_cases hj0 : j = 0
            · subst hj0
              go_wp2
              go_roundw
              case rel => exact ⟨1, by omega, by go_num, ⟨by repeat (first | exact HB.out | apply pw_below_drewN | apply below_drew1)⟩⟩
              case measure => simp [intOf]; omega
            · have hjb : ((j : Int) == 0) = false := beq_false_of_ne (by omega)
              go_wp2
              go_roundw
              case rel => exact ⟨j + 1, by omega, by go_num, ⟨by repeat (first | exact HB.out | apply pw_below_drewN | apply below_drew1)⟩⟩
              case measure => simp [intOf]; omega
        · obtain rfl : j = L2.length := by omega
          have BKy := Aside0.mk (blk_below (g := gb12) (o := .cells #[.int .u8 o.f0, .int .i64 o.f1, .int .i64 o.f2, .int .i64 o.f3, .int .u64 o.f4, .int .i64 o.f5] 61 (0, 0)) BK12.out HB.out)
          have bkz_0 := (blk_cell BKz.out 0).trans (show _ = some (.slice AL2 L2.length cL2) from rfl); have bkz_1 := (blk_cell BKz.out 1).trans (show _ = some (.slice AD2 D2.length cD2) from rfl); have bkz_2 := (blk_cell BKz.out 2).trans (show _ = some (.int .i64 g2) from rfl); have bky_0 := (blk_cell BKy.out 0).trans (show _ = some (.int .u8 o.f0) from rfl); have bky_1 := (blk_cell BKy.out 1).trans (show _ = some (.int .i64 o.f1) from rfl); have bky_2 := (blk_cell BKy.out 2).trans (show _ = some (.int .i64 o.f2) from rfl); have bky_3 := (blk_cell BKy.out 3).trans (show _ = some (.int .i64 o.f3) from rfl); have bky_4 := (blk_cell BKy.out 4).trans (show _ = some (.int .u64 o.f4) from rfl); have bky_5 := (blk_cell BKy.out 5).trans (show _ = some (.int .i64 o.f5) from rfl); have bkz_f := fun i => blk_frozen BKz.out i; have bky_f := fun i => blk_frozen BKy.out i
          have HTT := Aside0.mk HTD.out.1
          have HBw := HB
          clear HB
          have R3 : Aside0 (Kd.C k65 wy AL2 L2.length L2) := ⟨Kd.C_below (Kd.R_reads' HO2.out).2.2 HBw.out⟩
          have RB : Aside0 (Below w6.heap.size w6 wy → True) := ⟨fun _ => trivial⟩
          by_cases hw5 : o.f0 % 8 = 5
          · have hg2 := HTD.out.2.1 hw5
            have hb5 : (o.f0 % 8 == 5) = true := beq_iff_eq.2 hw5
            subst hg2
            clear hw5 HTD
            go_wp2
            clear hb5
            clear bkz_0 bky_0 bkz_1 bky_1 bkz_2 bky_2 bkz_f bky_f bky_3 bky_4 bky_5
            go_loopw [112] (fun v112 wr => ∃ q : Nat, q ≤ ts.length ∧ v112 = .int .i64 q ∧ Aside0 (Below w6.heap.size w6 wr)) (fun v112 _ => ts.length - (intOf v112).toNat)
            case atStart => exact ⟨0, Nat.zero_le _, rfl, ⟨by repeat (first | exact HBw.out | apply pw_below_drewN | apply below_drew1)⟩⟩
            case round =>
              clear BKz BKy R3 RB HBw
              obtain ⟨q, hq, rfl, HB⟩ := hrel
              rename World => wv
              have BKz := Aside0.mk (blk_below (g := gb9) (o := .cells #[.slice AL2 L2.length cL2, .slice AD2 D2.length cD2, .int .i64 (ts.length)] 58 (0, 0)) BK9.out HB.out)
              by_cases hlq : q < ts.length
              · obtain ⟨ad4, e4, hx⟩ := Kd.at_int (Kd.R_reads' HT.out).2.2 (q : Int) (by omega) (by omega)
                subst e4
                replace hx := (HB.out.cell (World.block_lt_of_cell? w6 _ hx)).trans hx
                have hin := HTT.out (rd ts (q : Int)) (by rw [rdi_nat, List.getD_eq_getElem?_getD, List.getElem?_eq_getElem hlq]; exact List.getElem_mem _)
                have R4 : Aside0 (Kd.C k65 wv AL2 L2.length L2) := ⟨Kd.C_below (Kd.R_reads' HO2.out).2.2 HB.out⟩
                have R5 : Aside0 (Kd.C k65 wv AD2 D2.length D2) := ⟨Kd.C_below (Kd.R_reads' HO3.out).2.2 HB.out⟩
                have C4 : Aside0 (L2.length ≤ cL2) := ⟨(Kd.R_reads' HO2.out).2.1⟩
                have C5 : Aside0 (D2.length ≤ cD2) := ⟨(Kd.R_reads' HO3.out).2.1⟩
                simp only [rdi_nat, Int.toNat_natCast] at hx hin
                generalize ts.getD q 0 = t at hx hin
                have HIN := Aside0.mk hin
                clear hin
                have bkz_0 := (blk_cell BKz.out 0).trans (show _ = some (.slice AL2 L2.length cL2) from rfl); have bkz_1 := (blk_cell BKz.out 1).trans (show _ = some (.slice AD2 D2.length cD2) from rfl); have bkz_2 := (blk_cell BKz.out 2).trans (show _ = some (.int .i64 (ts.length)) from rfl); have bkz_f := fun i => blk_frozen BKz.out i
                go_upto_region 26 with (first | (go_at_call 42; (with_reducible refine (of_at _ _ L2 _ _ D2 (ts.length) t _ R4.out C4.out R5.out C5.out HIN.out).mono ?_); rintro e w5 ⟨qm, rfl, hb⟩; have hsz := below_size (by repeat (first | (with_reducible first | exact HB.out | apply below_alloc | apply pw_below_drewN | apply below_drew1) | exact HB.out)); have n_BKz := Aside0.mk (blk_below (g := gb9) (o := .cells #[.slice AL2 L2.length cL2, .slice AD2 D2.length cD2, .int .i64 (ts.length)] 58 (0, 0)) (by (with_reducible repeat (first | refine blk_drewN ?_ _ | refine blk_drew ?_ | refine blk_alloc ?_ _)); exact BKz.out) hb); have n_HB := Aside0.mk (below_step (by repeat (first | (with_reducible first | exact HB.out | apply below_alloc | apply pw_below_drewN | apply below_drew1) | exact HB.out)) hb); clear bkz_0 bkz_1 bkz_2 bkz_f; clear BKz HB hb; have BKz := n_BKz; have HB := n_HB; clear n_BKz n_HB; clear hsz; have bkz_0 := (blk_cell BKz.out 0).trans (show _ = some (.slice AL2 L2.length cL2) from rfl); have bkz_1 := (blk_cell BKz.out 1).trans (show _ = some (.slice AD2 D2.length cD2) from rfl); have bkz_2 := (blk_cell BKz.out 2).trans (show _ = some (.int .i64 (ts.length)) from rfl); have bkz_f := fun i => blk_frozen BKz.out i) | ((with_reducible refine gate_dst (N := 19) rfl ?_); refine box_event ?hg (N := 19) ?hd (cs := #[.int .i64 0, .int .i64 0, .int .u64 0, .int .u64 0, .int .u8 0, .int .i64 0]) (t := 65) ?hr ?_; (case hd => rfl); (case hg => rfl); (case hr => first | (go_simp; done) | (go_simp; rfl)); intro gb19 hg w3 hbox hb; have NE_gb9_gb19 := Aside0.mk (show gb9 ≠ gb19 from by rw [hg]; exact Nat.ne_of_lt (blk_lt (o := .cells #[.slice AL2 L2.length cL2, .slice AD2 D2.length cD2, .int .i64 (ts.length)] 58 (0, 0)) (by (with_reducible repeat (first | refine blk_drewN ?_ _ | refine blk_drew ?_ | refine blk_alloc ?_ _)); exact BKz.out))); have GE_gb19 := Aside0.mk (show w6.heap.size ≤ gb19 from by rw [hg]; exact below_size (by repeat (first | (with_reducible first | exact HB.out | apply below_alloc | apply pw_below_drewN | apply below_drew1) | exact HB.out))); clear hg; have n_BKz := Aside0.mk (blk_below (g := gb9) (o := .cells #[.slice AL2 L2.length cL2, .slice AD2 D2.length cD2, .int .i64 (ts.length)] 58 (0, 0)) (by (with_reducible repeat (first | refine blk_drewN ?_ _ | refine blk_drew ?_ | refine blk_alloc ?_ _)); exact BKz.out) hb); have n_HB := Aside0.mk (below_step (by repeat (first | (with_reducible first | exact HB.out | apply below_alloc | apply pw_below_drewN | apply below_drew1) | exact HB.out)) hb); clear bkz_0 bkz_1 bkz_2 bkz_f; clear BKz HB hb; have BKz := n_BKz; have HB := n_HB; clear n_BKz n_HB; have BK19 := Aside0.mk hbox; clear hbox; have bkz_0 := (blk_cell BKz.out 0).trans (show _ = some (.slice AL2 L2.length cL2) from rfl); have bkz_1 := (blk_cell BKz.out 1).trans (show _ = some (.slice AD2 D2.length cD2) from rfl); have bkz_2 := (blk_cell BKz.out 2).trans (show _ = some (.int .i64 (ts.length)) from rfl); have bk19_0 := (blk_cell BK19.out 0).trans (show _ = some (.int .i64 0) from rfl); have bk19_1 := (blk_cell BK19.out 1).trans (show _ = some (.int .i64 0) from rfl); have bk19_2 := (blk_cell BK19.out 2).trans (show _ = some (.int .u64 0) from rfl); have bk19_3 := (blk_cell BK19.out 3).trans (show _ = some (.int .u64 0) from rfl); have bk19_4 := (blk_cell BK19.out 4).trans (show _ = some (.int .u8 0) from rfl); have bk19_5 := (blk_cell BK19.out 5).trans (show _ = some (.int .i64 0) from rfl); have bkz_f := fun i => blk_frozen BKz.out i; have bk19_f := fun i => blk_frozen BK19.out i))
                clear hx
                clear bkz_0 bkz_1 bkz_2 bkz_f bk19_0 bk19_1 bk19_2 bk19_3 bk19_4 bk19_5 bk19_f
                have s0_BKz := blk_far BKz.out (p := ⟨gb19, 0, none⟩) NE_gb9_gb19.out (.int .i64 qm.f0)
                have s0_BK19 := blk_put (cs' := #[.int .i64 qm.f0, .int .i64 0, .int .u64 0, .int .u64 0, .int .u8 0, .int .i64 0]) BK19.out 0 (.int .i64 qm.f0) rfl
                have s0_HB := below_set (j := 0) (v := .int .i64 qm.f0) HB.out GE_gb19.out
                have s1_BKz := blk_far s0_BKz (p := ⟨gb19, 1, none⟩) NE_gb9_gb19.out (.int .i64 qm.f1)
                have s1_BK19 := blk_put (cs' := #[.int .i64 qm.f0, .int .i64 qm.f1, .int .u64 0, .int .u64 0, .int .u8 0, .int .i64 0]) s0_BK19 1 (.int .i64 qm.f1) rfl
                have s1_HB := below_set (j := 1) (v := .int .i64 qm.f1) s0_HB GE_gb19.out
                have s2_BKz := blk_far s1_BKz (p := ⟨gb19, 2, none⟩) NE_gb9_gb19.out (.int .u64 qm.f2)
                have s2_BK19 := blk_put (cs' := #[.int .i64 qm.f0, .int .i64 qm.f1, .int .u64 qm.f2, .int .u64 0, .int .u8 0, .int .i64 0]) s1_BK19 2 (.int .u64 qm.f2) rfl
                have s2_HB := below_set (j := 2) (v := .int .u64 qm.f2) s1_HB GE_gb19.out
                have s3_BKz := blk_far s2_BKz (p := ⟨gb19, 3, none⟩) NE_gb9_gb19.out (.int .u64 qm.f3)
                have s3_BK19 := blk_put (cs' := #[.int .i64 qm.f0, .int .i64 qm.f1, .int .u64 qm.f2, .int .u64 qm.f3, .int .u8 0, .int .i64 0]) s2_BK19 3 (.int .u64 qm.f3) rfl
                have s3_HB := below_set (j := 3) (v := .int .u64 qm.f3) s2_HB GE_gb19.out
                have s4_BKz := blk_far s3_BKz (p := ⟨gb19, 4, none⟩) NE_gb9_gb19.out (.int .u8 qm.f4)
                have s4_BK19 := blk_put (cs' := #[.int .i64 qm.f0, .int .i64 qm.f1, .int .u64 qm.f2, .int .u64 qm.f3, .int .u8 qm.f4, .int .i64 0]) s3_BK19 4 (.int .u8 qm.f4) rfl
                have s4_HB := below_set (j := 4) (v := .int .u8 qm.f4) s3_HB GE_gb19.out
                have s5_BKz := blk_far s4_BKz (p := ⟨gb19, 5, none⟩) NE_gb9_gb19.out (.int .i64 qm.f5)
                have s5_BK19 := blk_put (cs' := #[.int .i64 qm.f0, .int .i64 qm.f1, .int .u64 qm.f2, .int .u64 qm.f3, .int .u8 qm.f4, .int .i64 qm.f5]) s4_BK19 5 (.int .i64 qm.f5) rfl
                have s5_HB := below_set (j := 5) (v := .int .i64 qm.f5) s4_HB GE_gb19.out
                have n_BKz := Aside0.mk s5_BKz
                have n_BK19 := Aside0.mk s5_BK19
                have n_HB := Aside0.mk s5_HB
                clear s0_BKz s0_BK19 s0_HB
                clear s1_BKz s1_BK19 s1_HB
                clear s2_BKz s2_BK19 s2_HB
                clear s3_BKz s3_BK19 s3_HB
                clear s4_BKz s4_BK19 s4_HB
                clear s5_BKz s5_BK19 s5_HB
                clear BKz BK19 HB
                generalize ((((((w3.setCell ⟨gb19, 0, none⟩ (.int .i64 qm.f0)).setCell ⟨gb19, 1, none⟩ (.int .i64 qm.f1)).setCell ⟨gb19, 2, none⟩ (.int .u64 qm.f2)).setCell ⟨gb19, 3, none⟩ (.int .u64 qm.f3)).setCell ⟨gb19, 4, none⟩ (.int .u8 qm.f4)).setCell ⟨gb19, 5, none⟩ (.int .i64 qm.f5)) = w7 at n_BKz n_BK19 n_HB ⊢
                have BKz := n_BKz
                have BK19 := n_BK19
                have HB := n_HB
                clear n_BKz n_BK19 n_HB
                have bkz_0 := (blk_cell BKz.out 0).trans (show _ = some (.slice AL2 L2.length cL2) from rfl); have bkz_1 := (blk_cell BKz.out 1).trans (show _ = some (.slice AD2 D2.length cD2) from rfl); have bkz_2 := (blk_cell BKz.out 2).trans (show _ = some (.int .i64 (ts.length)) from rfl); have bk19_0 := (blk_cell BK19.out 0).trans (show _ = some (.int .i64 qm.f0) from rfl); have bk19_1 := (blk_cell BK19.out 1).trans (show _ = some (.int .i64 qm.f1) from rfl); have bk19_2 := (blk_cell BK19.out 2).trans (show _ = some (.int .u64 qm.f2) from rfl); have bk19_3 := (blk_cell BK19.out 3).trans (show _ = some (.int .u64 qm.f3) from rfl); have bk19_4 := (blk_cell BK19.out 4).trans (show _ = some (.int .u8 qm.f4) from rfl); have bk19_5 := (blk_cell BK19.out 5).trans (show _ = some (.int .i64 qm.f5) from rfl); have bkz_f := fun i => blk_frozen BKz.out i; have bk19_f := fun i => blk_frozen BK19.out i
                go_wp2
                go_roundw
                case rel => exact ⟨q + 1, by omega, by go_num, ⟨by repeat (first | exact HB.out | apply pw_below_drewN | apply below_drew1)⟩⟩
                case measure => simp [intOf]; omega
              · obtain rfl : q = ts.length := by omega
                have n2 := Aside0.mk (Kd.R_below HO2.out HB.out)
                have n3 := Aside0.mk (Kd.R_below HO3.out HB.out)
                have nb := Aside0.mk (below_step HBo.out HB.out)
                go_wp2
                go_roundw
                case rel => exact ⟨i + 1, L2, D2, _, last2, AL2, cL2, AD2, cD2, by omega, by go_num, rfl, HI2, BKz, n2, n3, nb⟩
                case measure => simp [intOf]; omega
          · have hb5 : (o.f0 % 8 == 5) = false := beq_false_of_ne hw5
            clear hw5 HTD
            go_wp2
            clear hb5
            clear bkz_0 bky_0 bkz_1 bky_1 bkz_2 bky_2 bkz_f bky_f bky_3 bky_4 bky_5
            go_loopw [112] (fun v112 wr => ∃ q : Nat, q ≤ ts.length ∧ v112 = .int .i64 q ∧ Aside0 (Below w6.heap.size w6 wr)) (fun v112 _ => ts.length - (intOf v112).toNat)
            case atStart => exact ⟨0, Nat.zero_le _, rfl, ⟨by repeat (first | exact HBw.out | apply pw_below_drewN | apply below_drew1)⟩⟩
            case round =>
              clear BKz BKy R3 RB HBw
              obtain ⟨q, hq, rfl, HB⟩ := hrel
              rename World => wv
              have BKz := Aside0.mk (blk_below (g := gb9) (o := .cells #[.slice AL2 L2.length cL2, .slice AD2 D2.length cD2, .int .i64 (g2)] 58 (0, 0)) BK9.out HB.out)
              by_cases hlq : q < ts.length
              · obtain ⟨ad4, e4, hx⟩ := Kd.at_int (Kd.R_reads' HT.out).2.2 (q : Int) (by omega) (by omega)
                subst e4
                replace hx := (HB.out.cell (World.block_lt_of_cell? w6 _ hx)).trans hx
                have hin := HTT.out (rd ts (q : Int)) (by rw [rdi_nat, List.getD_eq_getElem?_getD, List.getElem?_eq_getElem hlq]; exact List.getElem_mem _)
                have R4 : Aside0 (Kd.C k65 wv AL2 L2.length L2) := ⟨Kd.C_below (Kd.R_reads' HO2.out).2.2 HB.out⟩
                have R5 : Aside0 (Kd.C k65 wv AD2 D2.length D2) := ⟨Kd.C_below (Kd.R_reads' HO3.out).2.2 HB.out⟩
                have C4 : Aside0 (L2.length ≤ cL2) := ⟨(Kd.R_reads' HO2.out).2.1⟩
                have C5 : Aside0 (D2.length ≤ cD2) := ⟨(Kd.R_reads' HO3.out).2.1⟩
                simp only [rdi_nat, Int.toNat_natCast] at hx hin
                generalize ts.getD q 0 = t at hx hin
                have HIN := Aside0.mk hin
                clear hin
                have bkz_0 := (blk_cell BKz.out 0).trans (show _ = some (.slice AL2 L2.length cL2) from rfl); have bkz_1 := (blk_cell BKz.out 1).trans (show _ = some (.slice AD2 D2.length cD2) from rfl); have bkz_2 := (blk_cell BKz.out 2).trans (show _ = some (.int .i64 (g2)) from rfl); have bkz_f := fun i => blk_frozen BKz.out i
                go_upto_region 26 with (first | (go_at_call 42; (with_reducible refine (of_at _ _ L2 _ _ D2 (g2) t _ R4.out C4.out R5.out C5.out HIN.out).mono ?_); rintro e w5 ⟨qm, rfl, hb⟩; have hsz := below_size (by repeat (first | (with_reducible first | exact HB.out | apply below_alloc | apply pw_below_drewN | apply below_drew1) | exact HB.out)); have n_BKz := Aside0.mk (blk_below (g := gb9) (o := .cells #[.slice AL2 L2.length cL2, .slice AD2 D2.length cD2, .int .i64 (g2)] 58 (0, 0)) (by (with_reducible repeat (first | refine blk_drewN ?_ _ | refine blk_drew ?_ | refine blk_alloc ?_ _)); exact BKz.out) hb); have n_HB := Aside0.mk (below_step (by repeat (first | (with_reducible first | exact HB.out | apply below_alloc | apply pw_below_drewN | apply below_drew1) | exact HB.out)) hb); clear bkz_0 bkz_1 bkz_2 bkz_f; clear BKz HB hb; have BKz := n_BKz; have HB := n_HB; clear n_BKz n_HB; clear hsz; have bkz_0 := (blk_cell BKz.out 0).trans (show _ = some (.slice AL2 L2.length cL2) from rfl); have bkz_1 := (blk_cell BKz.out 1).trans (show _ = some (.slice AD2 D2.length cD2) from rfl); have bkz_2 := (blk_cell BKz.out 2).trans (show _ = some (.int .i64 (g2)) from rfl); have bkz_f := fun i => blk_frozen BKz.out i) | ((with_reducible refine gate_dst (N := 19) rfl ?_); refine box_event ?hg (N := 19) ?hd (cs := #[.int .i64 0, .int .i64 0, .int .u64 0, .int .u64 0, .int .u8 0, .int .i64 0]) (t := 65) ?hr ?_; (case hd => rfl); (case hg => rfl); (case hr => first | (go_simp; done) | (go_simp; rfl)); intro gb19 hg w3 hbox hb; have NE_gb9_gb19 := Aside0.mk (show gb9 ≠ gb19 from by rw [hg]; exact Nat.ne_of_lt (blk_lt (o := .cells #[.slice AL2 L2.length cL2, .slice AD2 D2.length cD2, .int .i64 (g2)] 58 (0, 0)) (by (with_reducible repeat (first | refine blk_drewN ?_ _ | refine blk_drew ?_ | refine blk_alloc ?_ _)); exact BKz.out))); have GE_gb19 := Aside0.mk (show w6.heap.size ≤ gb19 from by rw [hg]; exact below_size (by repeat (first | (with_reducible first | exact HB.out | apply below_alloc | apply pw_below_drewN | apply below_drew1) | exact HB.out))); clear hg; have n_BKz := Aside0.mk (blk_below (g := gb9) (o := .cells #[.slice AL2 L2.length cL2, .slice AD2 D2.length cD2, .int .i64 (g2)] 58 (0, 0)) (by (with_reducible repeat (first | refine blk_drewN ?_ _ | refine blk_drew ?_ | refine blk_alloc ?_ _)); exact BKz.out) hb); have n_HB := Aside0.mk (below_step (by repeat (first | (with_reducible first | exact HB.out | apply below_alloc | apply pw_below_drewN | apply below_drew1) | exact HB.out)) hb); clear bkz_0 bkz_1 bkz_2 bkz_f; clear BKz HB hb; have BKz := n_BKz; have HB := n_HB; clear n_BKz n_HB; have BK19 := Aside0.mk hbox; clear hbox; have bkz_0 := (blk_cell BKz.out 0).trans (show _ = some (.slice AL2 L2.length cL2) from rfl); have bkz_1 := (blk_cell BKz.out 1).trans (show _ = some (.slice AD2 D2.length cD2) from rfl); have bkz_2 := (blk_cell BKz.out 2).trans (show _ = some (.int .i64 (g2)) from rfl); have bk19_0 := (blk_cell BK19.out 0).trans (show _ = some (.int .i64 0) from rfl); have bk19_1 := (blk_cell BK19.out 1).trans (show _ = some (.int .i64 0) from rfl); have bk19_2 := (blk_cell BK19.out 2).trans (show _ = some (.int .u64 0) from rfl); have bk19_3 := (blk_cell BK19.out 3).trans (show _ = some (.int .u64 0) from rfl); have bk19_4 := (blk_cell BK19.out 4).trans (show _ = some (.int .u8 0) from rfl); have bk19_5 := (blk_cell BK19.out 5).trans (show _ = some (.int .i64 0) from rfl); have bkz_f := fun i => blk_frozen BKz.out i; have bk19_f := fun i => blk_frozen BK19.out i))
                clear hx
                clear bkz_0 bkz_1 bkz_2 bkz_f bk19_0 bk19_1 bk19_2 bk19_3 bk19_4 bk19_5 bk19_f
                have s0_BKz := blk_far BKz.out (p := ⟨gb19, 0, none⟩) NE_gb9_gb19.out (.int .i64 qm.f0)
                have s0_BK19 := blk_put (cs' := #[.int .i64 qm.f0, .int .i64 0, .int .u64 0, .int .u64 0, .int .u8 0, .int .i64 0]) BK19.out 0 (.int .i64 qm.f0) rfl
                have s0_HB := below_set (j := 0) (v := .int .i64 qm.f0) HB.out GE_gb19.out
                have s1_BKz := blk_far s0_BKz (p := ⟨gb19, 1, none⟩) NE_gb9_gb19.out (.int .i64 qm.f1)
                have s1_BK19 := blk_put (cs' := #[.int .i64 qm.f0, .int .i64 qm.f1, .int .u64 0, .int .u64 0, .int .u8 0, .int .i64 0]) s0_BK19 1 (.int .i64 qm.f1) rfl
                have s1_HB := below_set (j := 1) (v := .int .i64 qm.f1) s0_HB GE_gb19.out
                have s2_BKz := blk_far s1_BKz (p := ⟨gb19, 2, none⟩) NE_gb9_gb19.out (.int .u64 qm.f2)
                have s2_BK19 := blk_put (cs' := #[.int .i64 qm.f0, .int .i64 qm.f1, .int .u64 qm.f2, .int .u64 0, .int .u8 0, .int .i64 0]) s1_BK19 2 (.int .u64 qm.f2) rfl
                have s2_HB := below_set (j := 2) (v := .int .u64 qm.f2) s1_HB GE_gb19.out
                have s3_BKz := blk_far s2_BKz (p := ⟨gb19, 3, none⟩) NE_gb9_gb19.out (.int .u64 qm.f3)
                have s3_BK19 := blk_put (cs' := #[.int .i64 qm.f0, .int .i64 qm.f1, .int .u64 qm.f2, .int .u64 qm.f3, .int .u8 0, .int .i64 0]) s2_BK19 3 (.int .u64 qm.f3) rfl
                have s3_HB := below_set (j := 3) (v := .int .u64 qm.f3) s2_HB GE_gb19.out
                have s4_BKz := blk_far s3_BKz (p := ⟨gb19, 4, none⟩) NE_gb9_gb19.out (.int .u8 qm.f4)
                have s4_BK19 := blk_put (cs' := #[.int .i64 qm.f0, .int .i64 qm.f1, .int .u64 qm.f2, .int .u64 qm.f3, .int .u8 qm.f4, .int .i64 0]) s3_BK19 4 (.int .u8 qm.f4) rfl
                have s4_HB := below_set (j := 4) (v := .int .u8 qm.f4) s3_HB GE_gb19.out
                have s5_BKz := blk_far s4_BKz (p := ⟨gb19, 5, none⟩) NE_gb9_gb19.out (.int .i64 qm.f5)
                have s5_BK19 := blk_put (cs' := #[.int .i64 qm.f0, .int .i64 qm.f1, .int .u64 qm.f2, .int .u64 qm.f3, .int .u8 qm.f4, .int .i64 qm.f5]) s4_BK19 5 (.int .i64 qm.f5) rfl
                have s5_HB := below_set (j := 5) (v := .int .i64 qm.f5) s4_HB GE_gb19.out
                have n_BKz := Aside0.mk s5_BKz
                have n_BK19 := Aside0.mk s5_BK19
                have n_HB := Aside0.mk s5_HB
                clear s0_BKz s0_BK19 s0_HB
                clear s1_BKz s1_BK19 s1_HB
                clear s2_BKz s2_BK19 s2_HB
                clear s3_BKz s3_BK19 s3_HB
                clear s4_BKz s4_BK19 s4_HB
                clear s5_BKz s5_BK19 s5_HB
                clear BKz BK19 HB
                generalize ((((((w3.setCell ⟨gb19, 0, none⟩ (.int .i64 qm.f0)).setCell ⟨gb19, 1, none⟩ (.int .i64 qm.f1)).setCell ⟨gb19, 2, none⟩ (.int .u64 qm.f2)).setCell ⟨gb19, 3, none⟩ (.int .u64 qm.f3)).setCell ⟨gb19, 4, none⟩ (.int .u8 qm.f4)).setCell ⟨gb19, 5, none⟩ (.int .i64 qm.f5)) = w7 at n_BKz n_BK19 n_HB ⊢
                have BKz := n_BKz
                have BK19 := n_BK19
                have HB := n_HB
                clear n_BKz n_BK19 n_HB
                have bkz_0 := (blk_cell BKz.out 0).trans (show _ = some (.slice AL2 L2.length cL2) from rfl); have bkz_1 := (blk_cell BKz.out 1).trans (show _ = some (.slice AD2 D2.length cD2) from rfl); have bkz_2 := (blk_cell BKz.out 2).trans (show _ = some (.int .i64 (g2)) from rfl); have bk19_0 := (blk_cell BK19.out 0).trans (show _ = some (.int .i64 qm.f0) from rfl); have bk19_1 := (blk_cell BK19.out 1).trans (show _ = some (.int .i64 qm.f1) from rfl); have bk19_2 := (blk_cell BK19.out 2).trans (show _ = some (.int .u64 qm.f2) from rfl); have bk19_3 := (blk_cell BK19.out 3).trans (show _ = some (.int .u64 qm.f3) from rfl); have bk19_4 := (blk_cell BK19.out 4).trans (show _ = some (.int .u8 qm.f4) from rfl); have bk19_5 := (blk_cell BK19.out 5).trans (show _ = some (.int .i64 qm.f5) from rfl); have bkz_f := fun i => blk_frozen BKz.out i; have bk19_f := fun i => blk_frozen BK19.out i
                go_wp2
                go_roundw
                case rel => exact ⟨q + 1, by omega, by go_num, ⟨by repeat (first | exact HB.out | apply pw_below_drewN | apply below_drew1)⟩⟩
                case measure => simp [intOf]; omega
              · obtain rfl : q = ts.length := by omega
                have n2 := Aside0.mk (Kd.R_below HO2.out HB.out)
                have n3 := Aside0.mk (Kd.R_below HO3.out HB.out)
                have nb := Aside0.mk (below_step HBo.out HB.out)
                go_wp2
                go_roundw
                case rel => exact ⟨i + 1, L2, D2, _, last2, AL2, cL2, AD2, cD2, by omega, by go_num, rfl, HI2, BKz, n2, n3, nb⟩
                case measure => simp [intOf]; omega
    · obtain rfl : i = l2.length := by omega
      clear HO0 HO1 BK9
      go_wp2_with (first
        | (go_at_call 41; (with_reducible refine (ratlinelaw21_awake.calls true _ rfl).mono ?_); rintro e w20 ⟨rfl, hbb⟩; have n0 := Aside0.mk (below_step HB.out hbb); clear HB; have HB := n0; clear n0 hbb))
      go_ret
      exact ⟨rfl, HB.out⟩
#print axioms leads_walk
end Go.Proofs.Ythlahhkjoocigaa.XQueue
