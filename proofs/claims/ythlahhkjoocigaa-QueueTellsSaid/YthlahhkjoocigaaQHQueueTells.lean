/- The walk of QueueTells: the statement's function answers true. Conditions: those of the row. -/
import Derived.Test.YthlahhkjoocigaaQHTellsAt
namespace Go.Proofs.Ythlahhkjoocigaa.XQueue
open Go Go.RowKit Go.Proofs.YthlahhkjoocigaaW.PrintWords Go.Proofs.YthlahhkjoocigaaW.PrintLast Go.Proofs.YthlahhkjoocigaaW.PrintMore
attribute [local go_sem] max2_int min2_int max_two min_two max_three min_three max_four min_four
set_option linter.unusedVariables false
set_option linter.unusedSimpArgs false
def tells7.T : Bool × List (List Nat × List Nat) := (true, [([], []), ([], []), ([1], [1]), ([0, 2], [0, 2]), ([], []), ([], []), ([5], [5]), ([4, 6, 3], [4, 6]), ([], []), ([8], [8]), ([3, 7, 9], [3, 7, 9]), ([], []), ([11, 10, 7, 0, 1, 2, 3, 4, 5, 6, 7, 8, 9, 10, 11], [10, 11])])
def tells7.B : List Nat := [0, 0, 2, 7, 0, 0, 32, 127, 0, 256, 1023, 0, 4095]
theorem tells7.tab : rtab .any (opsOf Try.f12 7) = tells7.T := by kernel_rfl
theorem tells7.bits : waitsOk tells7.T.2 tells7.B = true := by kernel_rfl

def tells35.T : Bool × List (List Nat × List Nat) := (true, [([], []), ([], []), ([0, 1], [0, 1]), ([2], [2]), ([3], [3]), ([3], [3]), ([4, 5, 3], [3, 4, 5]), ([3, 6], [3, 6]), ([7, 3], [7]), ([8], [8]), ([8], [8]), ([9, 10, 8], [8, 9, 10]), ([8, 11], [8, 11]), ([12, 8], [12]), ([13], [13]), ([13], [13]), ([14, 15, 13], [13, 14, 15]), ([13, 16], [13, 16]), ([17, 13], [17]), ([18], [18]), ([18], [18]), ([19, 20, 18], [18, 19, 20]), ([18, 21], [18, 21]), ([22, 18], [22]), ([23], [23]), ([23], [23]), ([24, 25, 23], [23, 24, 25]), ([23, 26], [23, 26]), ([27, 23], [27]), ([28], [28]), ([28], [28]), ([29, 30, 28, 28], [28, 29, 30]), ([31, 28], [28, 31]), ([28, 32], [28, 32]), ([33, 31], [33]), ([34], [34]), ([34], [34]), ([35, 36, 34, 34], [34, 35, 36]), ([37, 34], [34, 37]), ([34, 38], [34, 38]), ([39, 37], [39]), ([40], [40]), ([40], [40]), ([40], [40]), ([41, 42, 43, 40, 40], [40, 41, 42, 43]), ([40], [40]), ([40], [40]), ([40], [40]), ([45, 46, 47, 44, 40], [40, 45, 46, 47]), ([44, 48, 40], [40, 44, 48]), ([40, 49], [40, 49]), ([50, 48], [50]), ([51], [51]), ([51], [51]), ([52, 53, 51, 51], [51, 52, 53]), ([54, 51], [51, 54]), ([51, 55], [51, 55]), ([56, 54], [56]), ([57], [57]), ([57], [57]), ([58, 59, 57, 57], [57, 58, 59]), ([60, 57], [57, 60]), ([57, 61], [57, 61])])
def tells35.B : List Nat := [0, 0, 3, 7, 15, 15, 63, 127, 255, 511, 511, 2047, 4095, 8191, 16383, 16383, 65535, 131071, 262143, 524287, 524287, 2097151, 4194303, 8388607, 16777215, 16777215, 67108863, 134217727, 268435455, 536870911, 536870911, 2147483647, 4294967295, 8589934591, 17179869183, 34359738367, 34359738367, 137438953471, 274877906943, 549755813887, 1099511627775, 2199023255551, 2199023255551, 2199023255551, 17592186044415, 2199023255551, 2199023255551, 2199023255551, 281474976710655, 562949953421311, 1125899906842623, 2251799813685247, 4503599627370495, 4503599627370495, 18014398509481983, 36028797018963967, 72057594037927935, 144115188075855871, 288230376151711743, 288230376151711743, 1152921504606846975, 2305843009213693951, 4611686018427387903]
theorem tells35.tab : rtab .any (opsOf Try.f12 35) = tells35.T := by kernel_rfl
theorem tells35.bits : waitsOk tells35.T.2 tells35.B = true := by kernel_rfl

def t35 (k : Nat) : Array Bool := ((List.range 63).map fun j => decide (j < k)).toArray
theorem own_sym {v u : Value} (h : v.ownBlock = none ∨ v.ownBlock ≠ u.ownBlock) : u.ownBlock = none ∨ u.ownBlock ≠ v.ownBlock := by
  rcases h with q | q
  · by_cases e : u.ownBlock = none
    · exact .inl e
    · exact .inr (fun e2 => e (e2.trans q))
  · exact .inr (Ne.symm q)
theorem join5 {P : Program} {ops : Array Oper} {Q : Exit → Act → World → Prop} {md : Region.Mode} {S : World → Prop} {ds : List Nat} {fuel : Nat} {l : Array Bool} {a : Act} {w : World} (fuel' : Nat) (l' : Array Bool) (ns : Value → Value → Value → Value → Nat → List (Tmp × Value)) (F : Value → Value → Value → Value → Nat → World → Prop)
    (hcont : ∀ v0 v u0 u g w', F v0 v u0 u g w' → wpAnyLast P md ops Q S ds fuel' l' (putAll a (ns v0 v u0 u g)) w')
    (h : Aside0 (∀ v0 v u0 u g w', F v0 v u0 u g w' → wpAnyLast P md ops Q S ds fuel' l' (putAll a (ns v0 v u0 u g)) w') → wpAnyLast P md ops Q S ds fuel l a w) : wpAnyLast P md ops Q S ds fuel l a w := h ⟨hcont⟩

set_option maxHeartbeats 100000000 in
set_option maxRecDepth 100000 in
theorem tells_walk (A0 : Option Addr) (c0 : Nat) (l0 : List S61) (a1 a2 : Int) (w : World) (hr0 : Kd.C k61 w A0 l0.length l0) (hc0 : l0.length ≤ c0) (hl0 : l0.length ≤ 9223372036854775807) (hu : ∀ x ∈ l0, OpOk x) :
    Calls Try.prog 12 #[.slice A0 l0.length c0, .int .i64 a1, .int .u64 a2] w fun e w' => e = .returned (.bool true) ∧ Below w.heap.size w w' := by
  obtain ⟨M, hM⟩ : ∃ M : Nat, (if (60 : Int) < (l0.length : Int) then (60 : Int) else (l0.length : Int)) = (M : Int) := ⟨_, (Int.toNat_of_nonneg (by split <;> omega)).symm⟩
  have hM1 : M ≤ l0.length := by split at hM <;> omega
  have hM80 : M ≤ 60 := by split at hM <;> omega
  obtain ⟨i61, hi61, hs61⟩ := Option.map_eq_some_iff.1 inf61
  have hcut := cut_to (P := Try.prog) 55 61 .i64 Try.underlying55 hi61 A0 l0.length c0 (M : Int) (by omega) (by omega) hc0
  rw [Int.toNat_natCast] at hcut
  have hr2 := Kd.C_take hr0 hM1
  have hu2 : ∀ x ∈ l0.take M, OpOk x := fun x hx => hu x (List.mem_of_mem_take hx)
  have hl2 : (l0.take M).length = M := by rw [List.length_take]; omega
  generalize l0.take M = l2 at hr2 hu2 hl2
  rw [← hl2] at hM hM1 hM80 hcut
  clear hl2 hi61 hs61
  have HR1 := Aside0.mk hr2
  have HU := Aside0.mk hu2
  have HB := Aside0.mk (Below.refl w.heap.size w)
  clear hr0 hc0 hu hr2 hu2
  go_enter Try.func12, Try.ntmps12
  go_wp2_with (first | ((with_reducible refine gate_dst (N := 7) rfl ?_); refine box_event ?hg (N := 7) ?hd (cs := #[.slice none 0 0, .slice none 0 0, .int .i64 0]) (t := 58) ?hr ?_; (case hd => rfl); (case hg => rfl); (case hr => first | (go_simp; done) | (go_simp; rfl)); intro gb7 hg w3 hbox hb; have GE_gb7 := Aside0.mk (show w.heap.size ≤ gb7 from by rw [hg]; exact below_size HB.out); clear hg; skip; replace HB := Aside0.mk (below_step HB.out hb); clear hb; have BK7 := Aside0.mk hbox; clear hbox; have bk7_0 := blk_c BK7.out 0 rfl; have bk7_1 := blk_c BK7.out 1 rfl; have bk7_2 := blk_c BK7.out 2 rfl; have bk7_f := fun i => blk_frozen BK7.out i) | ((with_reducible refine gate_dst (N := 8) rfl ?_); refine box_event ?hg (N := 8) ?hd (cs := #[.slice none 0 0, .slice none 0 0, .int .i64 0]) (t := 58) ?hr ?_; (case hd => rfl); (case hg => rfl); (case hr => first | (go_simp; done) | (go_simp; rfl)); intro gb8 hg w3 hbox hb; have NE_gb7_gb8 := Aside0.mk (show gb7 ≠ gb8 from by rw [hg]; exact Nat.ne_of_lt (blk_lt BK7.out)); have GE_gb8 := Aside0.mk (show w.heap.size ≤ gb8 from by rw [hg]; exact below_size HB.out); clear hg; clear bk7_0 bk7_1 bk7_2 bk7_f; replace BK7 := Aside0.mk (blk_below BK7.out hb); replace HB := Aside0.mk (below_step HB.out hb); clear hb; have BK8 := Aside0.mk hbox; clear hbox; have bk7_0 := blk_c BK7.out 0 rfl; have bk7_1 := blk_c BK7.out 1 rfl; have bk7_2 := blk_c BK7.out 2 rfl; have bk8_0 := blk_c BK8.out 0 rfl; have bk8_1 := blk_c BK8.out 1 rfl; have bk8_2 := blk_c BK8.out 2 rfl; have bk7_f := fun i => blk_frozen BK7.out i; have bk8_f := fun i => blk_frozen BK8.out i))
  clear hM hcut hM1
  clear bk7_0 bk7_1 bk7_2 bk7_f bk8_0 bk8_1 bk8_2 bk8_f
  go_loopw [9, 10, 34] (fun v9 v10 v34 wr => ∃ (i : Nat) (L D : List S65) (g last : Int) (AL : Option Addr) (cL : Nat) (AD : Option Addr) (cD : Nat) (RL : Option Addr) (rL : Nat) (RD : Option Addr) (rD : Nat), i ≤ l2.length ∧ v34 = .int .i64 i ∧ v9 = .int .u64 last ∧ v10 = .int .u64 last ∧ Aside0 (InvT i L D g) ∧ Aside0 (wr.heap[gb7]? = some (.cells #[.slice AL L.length cL, .slice AD D.length cD, .int .i64 g] 58 (0, 0))) ∧ Aside0 (wr.heap[gb8]? = some (.cells #[.slice RL L.length rL, .slice RD D.length rD, .int .i64 g] 58 (0, 0))) ∧ Aside0 (Kd.R k65 65 wr w.heap.size (fun _ => True) (.slice AL L.length cL) L) ∧ Aside0 (Kd.R k65 65 wr w.heap.size (fun _ => True) (.slice AD D.length cD) D) ∧ Aside0 (Kd.R k65 65 wr w.heap.size (fun _ => True) (.slice RL L.length rL) L) ∧ Aside0 (Kd.R k65 65 wr w.heap.size (fun _ => True) (.slice RD D.length rD) D) ∧ Aside0 (Below w.heap.size w wr)) (fun v9 v10 v34 _ => l2.length - (intOf v34).toNat)
  case atStart => exact ⟨0, [], [], 0, 0, none, 0, none, 0, none, 0, none, 0, Nat.zero_le _, rfl, rfl, rfl, ⟨invT0⟩, ⟨BK7.out⟩, ⟨BK8.out⟩, ⟨Kd.R_nil _ _ _ _ _⟩, ⟨Kd.R_nil _ _ _ _ _⟩, ⟨Kd.R_nil _ _ _ _ _⟩, ⟨Kd.R_nil _ _ _ _ _⟩, HB⟩
  case round =>
    clear BK7 BK8 HB
    obtain ⟨i, L, D, g, last, AL, cL, AD, cD, RL, rL, RD, rD, hi, rfl, rfl, rfl, HI, BK7, BK8, HO0, HO1, HP0, HP1, HB⟩ := hrel
    rename World => wo
    by_cases hlt : i < l2.length
    · obtain ⟨ad, e0, hx0, hx1, hx2, hx3, hx4, hx5⟩ := at_T61 HR1.out (i : Int) (by omega) (by omega)
      subst e0
      replace hx0 := (HB.out.cell (World.block_lt_of_cell? w _ hx0)).trans hx0
      replace hx1 := (HB.out.cell (World.block_lt_of_cell? w _ hx1)).trans hx1
      replace hx2 := (HB.out.cell (World.block_lt_of_cell? w _ hx2)).trans hx2
      replace hx3 := (HB.out.cell (World.block_lt_of_cell? w _ hx3)).trans hx3
      replace hx4 := (HB.out.cell (World.block_lt_of_cell? w _ hx4)).trans hx4
      replace hx5 := (HB.out.cell (World.block_lt_of_cell? w _ hx5)).trans hx5
      have hot : rd_T61 l2 (i : Int) ∈ l2 := by rw [show rd_T61 l2 (i : Int) = l2.getD i z61 by simp [rd_T61], List.getD_eq_getElem?_getD, List.getElem?_eq_getElem hlt]; exact List.getElem_mem _
      have HK := Aside0.mk (HU.out _ hot)
      simp only [Int.toNat_natCast] at hx0 hx1 hx2 hx3 hx4 hx5
      generalize rd_T61 l2 (i : Int) = o at hx0 hx1 hx2 hx3 hx4 hx5 HK
      clear hot
      have bk7_0 := blk_c BK7.out 0 rfl; have bk7_1 := blk_c BK7.out 1 rfl; have bk7_2 := blk_c BK7.out 2 rfl; have bk8_0 := blk_c BK8.out 0 rfl; have bk8_1 := blk_c BK8.out 1 rfl; have bk8_2 := blk_c BK8.out 2 rfl; have bk7_f := fun i => blk_frozen BK7.out i; have bk8_f := fun i => blk_frozen BK8.out i
      go_upto_region 6 with (first | ((with_reducible refine gate_dst (N := 12) rfl ?_); refine box_event ?hg (N := 12) ?hd (cs := #[.int .u8 0, .int .i64 0, .int .i64 0, .int .i64 0, .int .u64 0, .int .i64 0]) (t := 61) ?hr ?_; (case hd => rfl); (case hg => rfl); (case hr => first | (go_simp; done) | (go_simp; rfl)); intro gb12 hg w3 hbox hb; have NE_gb7_gb12 := Aside0.mk (show gb7 ≠ gb12 from by rw [hg]; exact Nat.ne_of_lt (blk_lt BK7.out)); have NE_gb8_gb12 := Aside0.mk (show gb8 ≠ gb12 from by rw [hg]; exact Nat.ne_of_lt (blk_lt BK8.out)); have GE_gb12 := Aside0.mk (show w.heap.size ≤ gb12 from by rw [hg]; exact below_size HB.out); clear hg; clear bk7_0 bk7_1 bk7_2 bk7_f bk8_0 bk8_1 bk8_2 bk8_f; replace BK7 := Aside0.mk (blk_below BK7.out hb); replace BK8 := Aside0.mk (blk_below BK8.out hb); replace HO0 := Aside0.mk (Kd.R_below HO0.out hb); replace HO1 := Aside0.mk (Kd.R_below HO1.out hb); replace HP0 := Aside0.mk (Kd.R_below HP0.out hb); replace HP1 := Aside0.mk (Kd.R_below HP1.out hb); replace HB := Aside0.mk (below_step HB.out hb); clear hb; have BK12 := Aside0.mk hbox; clear hbox; have bk7_0 := blk_c BK7.out 0 rfl; have bk7_1 := blk_c BK7.out 1 rfl; have bk7_2 := blk_c BK7.out 2 rfl; have bk8_0 := blk_c BK8.out 0 rfl; have bk8_1 := blk_c BK8.out 1 rfl; have bk8_2 := blk_c BK8.out 2 rfl; have bk12_0 := blk_c BK12.out 0 rfl; have bk12_1 := blk_c BK12.out 1 rfl; have bk12_2 := blk_c BK12.out 2 rfl; have bk12_3 := blk_c BK12.out 3 rfl; have bk12_4 := blk_c BK12.out 4 rfl; have bk12_5 := blk_c BK12.out 5 rfl; have bk7_f := fun i => blk_frozen BK7.out i; have bk8_f := fun i => blk_frozen BK8.out i; have bk12_f := fun i => blk_frozen BK12.out i))
      clear hx0 hx1 hx2 hx3 hx4 hx5
      clear bk7_0 bk7_1 bk7_2 bk7_f bk8_0 bk8_1 bk8_2 bk8_f bk12_0 bk12_1 bk12_2 bk12_3 bk12_4 bk12_5 bk12_f
      have s0_HO0 := far_set6 HO0.out (blk_rowG BK12.out HO0.out (by decide)) (.int .u8 o.f0) (.int .i64 o.f1) (.int .i64 o.f2) (.int .i64 o.f3) (.int .u64 o.f4) (.int .i64 o.f5)
      have s0_HO1 := far_set6 HO1.out (blk_rowG BK12.out HO1.out (by decide)) (.int .u8 o.f0) (.int .i64 o.f1) (.int .i64 o.f2) (.int .i64 o.f3) (.int .u64 o.f4) (.int .i64 o.f5)
      have s0_HP0 := far_set6 HP0.out (blk_rowG BK12.out HP0.out (by decide)) (.int .u8 o.f0) (.int .i64 o.f1) (.int .i64 o.f2) (.int .i64 o.f3) (.int .u64 o.f4) (.int .i64 o.f5)
      have s0_HP1 := far_set6 HP1.out (blk_rowG BK12.out HP1.out (by decide)) (.int .u8 o.f0) (.int .i64 o.f1) (.int .i64 o.f2) (.int .i64 o.f3) (.int .u64 o.f4) (.int .i64 o.f5)
      have s0_BK7 := blk_far6 BK7.out NE_gb7_gb12.out (.int .u8 o.f0) (.int .i64 o.f1) (.int .i64 o.f2) (.int .i64 o.f3) (.int .u64 o.f4) (.int .i64 o.f5)
      have s0_BK8 := blk_far6 BK8.out NE_gb8_gb12.out (.int .u8 o.f0) (.int .i64 o.f1) (.int .i64 o.f2) (.int .i64 o.f3) (.int .u64 o.f4) (.int .i64 o.f5)
      have s0_BK12 := blk_put6 BK12.out (.int .u8 o.f0) (.int .i64 o.f1) (.int .i64 o.f2) (.int .i64 o.f3) (.int .u64 o.f4) (.int .i64 o.f5)
      have s0_HB := below_set6 HB.out GE_gb12.out (.int .u8 o.f0) (.int .i64 o.f1) (.int .i64 o.f2) (.int .i64 o.f3) (.int .u64 o.f4) (.int .i64 o.f5)
      have n_BK7 := Aside0.mk s0_BK7
      have n_BK8 := Aside0.mk s0_BK8
      have n_BK12 := Aside0.mk s0_BK12
      have n_HO0 := Aside0.mk s0_HO0
      have n_HO1 := Aside0.mk s0_HO1
      have n_HP0 := Aside0.mk s0_HP0
      have n_HP1 := Aside0.mk s0_HP1
      have n_HB := Aside0.mk s0_HB
      clear s0_BK7 s0_BK8 s0_BK12 s0_HO0 s0_HO1 s0_HP0 s0_HP1 s0_HB
      clear BK7 BK8 BK12 HO0 HO1 HP0 HP1 HB
      generalize ((((((w3.setCell ⟨gb12, 0, none⟩ (.int .u8 o.f0)).setCell ⟨gb12, 1, none⟩ (.int .i64 o.f1)).setCell ⟨gb12, 2, none⟩ (.int .i64 o.f2)).setCell ⟨gb12, 3, none⟩ (.int .i64 o.f3)).setCell ⟨gb12, 4, none⟩ (.int .u64 o.f4)).setCell ⟨gb12, 5, none⟩ (.int .i64 o.f5)) = w4 at n_BK7 n_BK8 n_BK12 n_HO0 n_HO1 n_HP0 n_HP1 n_HB ⊢
      have BK7 := n_BK7
      have BK8 := n_BK8
      have BK12 := n_BK12
      have HO0 := n_HO0
      have HO1 := n_HO1
      have HP0 := n_HP0
      have HP1 := n_HP1
      have HB := n_HB
      clear n_BK7 n_BK8 n_BK12 n_HO0 n_HO1 n_HP0 n_HP1 n_HB
      have bk7_0 := blk_c BK7.out 0 rfl; have bk7_1 := blk_c BK7.out 1 rfl; have bk7_2 := blk_c BK7.out 2 rfl; have bk8_0 := blk_c BK8.out 0 rfl; have bk8_1 := blk_c BK8.out 1 rfl; have bk8_2 := blk_c BK8.out 2 rfl; have bk12_0 := blk_c BK12.out 0 rfl; have bk12_1 := blk_c BK12.out 1 rfl; have bk12_2 := blk_c BK12.out 2 rfl; have bk12_3 := blk_c BK12.out 3 rfl; have bk12_4 := blk_c BK12.out 4 rfl; have bk12_5 := blk_c BK12.out 5 rfl; have bk7_f := fun i => blk_frozen BK7.out i; have bk8_f := fun i => blk_frozen BK8.out i; have bk12_f := fun i => blk_frozen BK12.out i
      go_upto_region 7 with (first | ((with_reducible refine gate_dst (N := 13) rfl ?_); refine box_event ?hg (N := 13) ?hd (cs := #[.slice none 0 0, .slice none 0 0, .int .i64 0]) (t := 58) ?hr ?_; (case hd => rfl); (case hg => rfl); (case hr => first | (go_simp; done) | (go_simp; rfl)); intro gb13 hg w3 hbox hb; have NE_gb7_gb13 := Aside0.mk (show gb7 ≠ gb13 from by rw [hg]; exact Nat.ne_of_lt (blk_lt BK7.out)); have NE_gb8_gb13 := Aside0.mk (show gb8 ≠ gb13 from by rw [hg]; exact Nat.ne_of_lt (blk_lt BK8.out)); have NE_gb12_gb13 := Aside0.mk (show gb12 ≠ gb13 from by rw [hg]; exact Nat.ne_of_lt (blk_lt BK12.out)); have GE_gb13 := Aside0.mk (show w.heap.size ≤ gb13 from by rw [hg]; exact below_size HB.out); clear hg; clear bk7_0 bk7_1 bk7_2 bk7_f bk8_0 bk8_1 bk8_2 bk8_f bk12_0 bk12_1 bk12_2 bk12_3 bk12_4 bk12_5 bk12_f; replace BK7 := Aside0.mk (blk_below BK7.out hb); replace BK8 := Aside0.mk (blk_below BK8.out hb); replace BK12 := Aside0.mk (blk_below BK12.out hb); replace HO0 := Aside0.mk (Kd.R_below HO0.out hb); replace HO1 := Aside0.mk (Kd.R_below HO1.out hb); replace HP0 := Aside0.mk (Kd.R_below HP0.out hb); replace HP1 := Aside0.mk (Kd.R_below HP1.out hb); replace HB := Aside0.mk (below_step HB.out hb); clear hb; have BK13 := Aside0.mk hbox; clear hbox; have bk7_0 := blk_c BK7.out 0 rfl; have bk7_1 := blk_c BK7.out 1 rfl; have bk7_2 := blk_c BK7.out 2 rfl; have bk8_0 := blk_c BK8.out 0 rfl; have bk8_1 := blk_c BK8.out 1 rfl; have bk8_2 := blk_c BK8.out 2 rfl; have bk12_0 := blk_c BK12.out 0 rfl; have bk12_1 := blk_c BK12.out 1 rfl; have bk12_2 := blk_c BK12.out 2 rfl; have bk12_3 := blk_c BK12.out 3 rfl; have bk12_4 := blk_c BK12.out 4 rfl; have bk12_5 := blk_c BK12.out 5 rfl; have bk13_0 := blk_c BK13.out 0 rfl; have bk13_1 := blk_c BK13.out 1 rfl; have bk13_2 := blk_c BK13.out 2 rfl; have bk7_f := fun i => blk_frozen BK7.out i; have bk8_f := fun i => blk_frozen BK8.out i; have bk12_f := fun i => blk_frozen BK12.out i; have bk13_f := fun i => blk_frozen BK13.out i))
      clear bk7_0 bk7_1 bk7_2 bk7_f bk8_0 bk8_1 bk8_2 bk8_f bk12_0 bk12_1 bk12_2 bk12_3 bk12_4 bk12_5 bk12_f bk13_0 bk13_1 bk13_2 bk13_f
      have s0_HO0 := far_set3 HO0.out (blk_rowG BK13.out HO0.out (by decide)) (.slice RL L.length rL) (.slice RD D.length rD) (.int .i64 g)
      have s0_HO1 := far_set3 HO1.out (blk_rowG BK13.out HO1.out (by decide)) (.slice RL L.length rL) (.slice RD D.length rD) (.int .i64 g)
      have s0_HP0 := far_set3 HP0.out (blk_rowG BK13.out HP0.out (by decide)) (.slice RL L.length rL) (.slice RD D.length rD) (.int .i64 g)
      have s0_HP1 := far_set3 HP1.out (blk_rowG BK13.out HP1.out (by decide)) (.slice RL L.length rL) (.slice RD D.length rD) (.int .i64 g)
      have s0_BK7 := blk_far3 BK7.out NE_gb7_gb13.out (.slice RL L.length rL) (.slice RD D.length rD) (.int .i64 g)
      have s0_BK8 := blk_far3 BK8.out NE_gb8_gb13.out (.slice RL L.length rL) (.slice RD D.length rD) (.int .i64 g)
      have s0_BK12 := blk_far3 BK12.out NE_gb12_gb13.out (.slice RL L.length rL) (.slice RD D.length rD) (.int .i64 g)
      have s0_BK13 := blk_put3 BK13.out (.slice RL L.length rL) (.slice RD D.length rD) (.int .i64 g)
      have s0_HB := below_set3 HB.out GE_gb13.out (.slice RL L.length rL) (.slice RD D.length rD) (.int .i64 g)
      have n_BK7 := Aside0.mk s0_BK7
      have n_BK8 := Aside0.mk s0_BK8
      have n_BK12 := Aside0.mk s0_BK12
      have n_BK13 := Aside0.mk s0_BK13
      have n_HO0 := Aside0.mk s0_HO0
      have n_HO1 := Aside0.mk s0_HO1
      have n_HP0 := Aside0.mk s0_HP0
      have n_HP1 := Aside0.mk s0_HP1
      have n_HB := Aside0.mk s0_HB
      clear s0_BK7 s0_BK8 s0_BK12 s0_BK13 s0_HO0 s0_HO1 s0_HP0 s0_HP1 s0_HB
      clear BK7 BK8 BK12 BK13 HO0 HO1 HP0 HP1 HB
      generalize (((w3.setCell ⟨gb13, 0, none⟩ (.slice RL L.length rL)).setCell ⟨gb13, 1, none⟩ (.slice RD D.length rD)).setCell ⟨gb13, 2, none⟩ (.int .i64 g)) = wN at n_BK7 n_BK8 n_BK12 n_BK13 n_HO0 n_HO1 n_HP0 n_HP1 n_HB ⊢
      have BK7 := n_BK7
      have BK8 := n_BK8
      have BK12 := n_BK12
      have BK13 := n_BK13
      have HO0 := n_HO0
      have HO1 := n_HO1
      have HP0 := n_HP0
      have HP1 := n_HP1
      have HB := n_HB
      clear n_BK7 n_BK8 n_BK12 n_BK13 n_HO0 n_HO1 n_HP0 n_HP1 n_HB
      have bk7_0 := blk_c BK7.out 0 rfl; have bk7_1 := blk_c BK7.out 1 rfl; have bk7_2 := blk_c BK7.out 2 rfl; have bk8_0 := blk_c BK8.out 0 rfl; have bk8_1 := blk_c BK8.out 1 rfl; have bk8_2 := blk_c BK8.out 2 rfl; have bk12_0 := blk_c BK12.out 0 rfl; have bk12_1 := blk_c BK12.out 1 rfl; have bk12_2 := blk_c BK12.out 2 rfl; have bk12_3 := blk_c BK12.out 3 rfl; have bk12_4 := blk_c BK12.out 4 rfl; have bk12_5 := blk_c BK12.out 5 rfl; have bk13_0 := blk_c BK13.out 0 rfl; have bk13_1 := blk_c BK13.out 1 rfl; have bk13_2 := blk_c BK13.out 2 rfl; have bk7_f := fun i => blk_frozen BK7.out i; have bk8_f := fun i => blk_frozen BK8.out i; have bk12_f := fun i => blk_frozen BK12.out i; have bk13_f := fun i => blk_frozen BK13.out i
      clear bk7_0 bk7_1 bk7_2 bk7_f bk8_0 bk8_1 bk8_2 bk8_f bk12_0 bk12_1 bk12_2 bk12_3 bk12_4 bk12_5 bk12_f bk13_0 bk13_1 bk13_2 bk13_f
      have hL : L.length ≤ 1000 := by have := HI.out.len; omega
      have hD : D.length ≤ 1000 := by have := HI.out.len; omega
      refine start_ (n := 13) (S := fun w' => Below wN.heap.size wN w') (ds := []) #[false, false, false, false, false, false, false, false, false, false, false, false, false] (by kernel_rfl) rfl rfl (below_drew (Below.refl _ _)) (fun hHeld => ?_)
      refine with_tabW tells7.tab tells7.bits (fun HT_ HW_ => ?_)
      generalize wN.drew = wd at hHeld ⊢
      refine pure_ (i := 1) (N := some 40) (v := ?_) (a' := ?_) #[false, true, false, false, false, false, false, false, false, false, false, false, false] rfl rfl (any_of HT_.out (by kernel_rfl)) (fun _ _ _ h => h) (Or.inl ⟨by rfl, ?_⟩) ?_ ?_
      rotate_left
      · intro w'
        go_simp
        with_reducible rfl
      rotate_left
      · simp only [Act.put, List.setIfInBounds_toArray, List.set_cons_zero, List.set_cons_succ, i64_w, i32_w]
        rfl
      refine pure_ (i := 5) (N := some 44) (v := ?_) (a' := ?_) #[false, true, false, false, false, true, false, false, false, false, false, false, false] rfl rfl (any_of HT_.out (by kernel_rfl)) (fun _ _ _ h => h) (Or.inl ⟨by rfl, ?_⟩) ?_ ?_
      rotate_left
      · intro w'
        go_simp
        with_reducible rfl
      rotate_left
      · simp only [Act.put, List.setIfInBounds_toArray, List.set_cons_zero, List.set_cons_succ, i64_w, i32_w]
        rfl
      refine pure_ (i := 8) (N := some 47) (v := ?_) (a' := ?_) #[false, true, false, false, false, true, false, false, true, false, false, false, false] rfl rfl (any_of HT_.out (by kernel_rfl)) (fun _ _ _ h => h) (Or.inl ⟨by rfl, ?_⟩) ?_ ?_
      rotate_left
      · intro w'
        go_simp
        with_reducible rfl
      rotate_left
      · simp only [Act.put, List.setIfInBounds_toArray, List.set_cons_zero, List.set_cons_succ, i64_w, i32_w]
        rfl
      refine take_ (i := 2) (N := some 41) (v := ?_) (a' := ?_) #[false, true, true, false, false, true, false, false, true, false, false, false, false] rfl rfl (take_ofW HT_.out HW_.out (by kernel_rfl)) (fun _ _ _ h => h) (Or.inl ⟨by rfl, ?_⟩) hHeld ?_ ?_
      rotate_left
      · intro w' hbq
        have c := blk_c (blk_below BK7.out hbq) 0 rfl
        go_simp
        with_reducible rfl
      rotate_left
      · simp only [Act.put, List.setIfInBounds_toArray, List.set_cons_zero, List.set_cons_succ, i64_w, i32_w]
        rfl
      refine take_ (i := 6) (N := some 45) (v := ?_) (a' := ?_) #[false, true, true, false, false, true, true, false, true, false, false, false, false] rfl rfl (take_ofW HT_.out HW_.out (by kernel_rfl)) (fun _ _ _ h => h) (Or.inl ⟨by rfl, ?_⟩) hHeld ?_ ?_
      rotate_left
      · intro w' hbq
        have c := blk_c (blk_below BK7.out hbq) 1 rfl
        go_simp
        with_reducible rfl
      rotate_left
      · simp only [Act.put, List.setIfInBounds_toArray, List.set_cons_zero, List.set_cons_succ, i64_w, i32_w]
        rfl
      refine take_ (i := 9) (N := some 48) (v := ?_) (a' := ?_) #[false, true, true, false, false, true, true, false, true, true, false, false, false] rfl rfl (take_ofW HT_.out HW_.out (by kernel_rfl)) (fun _ _ _ h => h) (Or.inl ⟨by rfl, ?_⟩) hHeld ?_ ?_
      rotate_left
      · intro w' hbq
        have c := blk_c (blk_below BK7.out hbq) 2 rfl
        go_simp
        with_reducible rfl
      rotate_left
      · simp only [Act.put, List.setIfInBounds_toArray, List.set_cons_zero, List.set_cons_succ, i64_w, i32_w]
        rfl
      refine join5 1 #[true, true, true, true, true, true, true, true, true, true, true, true, false] (fun v0 v u0 u k => [(39, v0), (42, v), (43, u0), (46, u), (14, .pointer (some ⟨k, 0, none⟩)), (49, .agg #[v, u, .int .i64 g])]) (fun v0 v u0 u k wx => Aside0 (Below wN.heap.size wN wx) ∧ Aside0 (Kd.R k65 65 wx wN.heap.size (fun _ => True) v L) ∧ Aside0 (Kd.R k65 65 wx wN.heap.size (fun _ => True) u D) ∧ Aside0 (wx.heap[k]? = some (.cells #[.slice none 0 0, .slice none 0 0, .int .i64 0] 58 (0, 0))) ∧ Aside0 (wN.heap.size ≤ k)) ?_ (fun J221 => ?_)
      rotate_left
      refine join5 3 #[true, true, true, true, true, true, true, true, true, true, false, false, false] (fun v0 v u0 u k => [(39, v0), (42, v), (43, u0), (46, u)]) (fun v0 v u0 u k wx => Aside0 (Below wN.heap.size wN wx) ∧ Aside0 (Kd.R k65 65 wx wN.heap.size (fun _ => True) v L) ∧ Aside0 (Kd.R k65 65 wx wN.heap.size (fun _ => True) u D)) ?_ (fun J220 => ?_)
      · as_aux_lemma =>
          rintro v0 v u0 u k wx ⟨HBx, HV, HU⟩
          refine norm_ (a' := ?_) ?_ ?_
          rotate_left
          · simp only [putAll, Act.put, List.setIfInBounds_toArray, List.set_cons_zero, List.set_cons_succ]
            rfl
          obtain ⟨AK, cK, ev⟩ := Kd.R_slice HV.out
          subst ev
          obtain ⟨AM, cM, ev⟩ := Kd.R_slice HU.out
          subst ev
          refine pure_ (i := 10) (N := some 49) (v := ?_) (a' := ?_) #[true, true, true, true, true, true, true, true, true, true, true, false, false] rfl rfl (any_of HT_.out (by kernel_rfl)) (fun _ _ _ h => h) (Or.inl ⟨by rfl, ?_⟩) ?_ ?_
          rotate_left
          · intro w'
            go_simp
            with_reducible rfl
          rotate_left
          · simp only [Act.put, List.setIfInBounds_toArray, List.set_cons_zero, List.set_cons_succ, i64_w, i32_w]
            rfl
          refine one_ (i := 11) (N := some 14) #[true, true, true, true, true, true, true, true, true, true, true, true, false] rfl rfl (one_of HT_.out (by kernel_rfl)) (by decide) (fun K hK => ?_)
          · refine box_step (N := 14) (cs := #[.slice none 0 0, .slice none 0 0, .int .i64 0]) (t := 58) (by rfl) rfl (by first | (go_simp; done) | (go_simp; rfl)) ?_
            intro g' hg' wy hbox hb
            refine hK.out _ _ (below_step HBx.out hb) (fun hHeld => ?_)
            refine norm_ ?_ (J221.out v0 (.slice AK L.length cK) u0 (.slice AM D.length cM) g' _ ⟨⟨below_step HBx.out hb⟩, ⟨Kd.R_below HV.out hb⟩, ⟨Kd.R_below HU.out hb⟩, ⟨hbox⟩, ⟨by rw [hg']; exact below_size HBx.out⟩⟩)
            show Act.put _ (some 14) _ = _
            simp only [putAll, Act.put, List.setIfInBounds_toArray, List.set_cons_zero, List.set_cons_succ]
      refine join5 3 #[true, true, true, true, true, true, true, false, true, true, false, true, false] (fun v0 v u0 u k => [(39, v0), (42, v), (43, u), (14, .pointer (some ⟨k, 0, none⟩))]) (fun v0 v u0 u k wx => Aside0 (Below wN.heap.size wN wx) ∧ Aside0 (Kd.R k65 65 wx wN.heap.size (fun _ => True) v L) ∧ Aside0 (Kd.R k65 65 wx wN.heap.size (fun _ => True) u ([] : List S65)) ∧ Aside0 (u.ownBlock = none ∨ u.ownBlock ≠ v.ownBlock) ∧ Aside0 (wx.heap[k]? = some (.cells #[.slice none 0 0, .slice none 0 0, .int .i64 0] 58 (0, 0))) ∧ Aside0 (wN.heap.size ≤ k)) ?_ (fun J211 => ?_)
      · as_aux_lemma =>
          rintro v0 v u0 u k wx ⟨HBx, HV, HU, AP, BX, GX⟩
          refine norm_ (a' := ?_) ?_ ?_
          rotate_left
          · simp only [putAll, Act.put, List.setIfInBounds_toArray, List.set_cons_zero, List.set_cons_succ]
            rfl
          refine one_ (i := 7) (N := some 46) #[true, true, true, true, true, true, true, true, true, true, false, true, false] rfl rfl (one_of HT_.out (by kernel_rfl)) (by decide) (fun K hK => ?_)
          · refine Kd.R_append_rows_step k65 (w0 := wN) wN.heap.size rfl (.tmp 43) (.tmp 45) 56 65 (.agg #[.int .i64 0, .int .i64 0, .int .u64 0, .int .u64 0, .int .u8 0, .int .i64 0]) 48 rfl Try.underlying56 info65 rfl (by decide) (by omega) u ([] : List S65) D AD D.length cD (fun _ => True) (fun _ => False) (by simp [Act.eval]) (by simp [Act.eval]) HU.out (Kd.C_below (Kd.R_reads' HO1.out).2.2 HBx.out) (fun x cs hx => by rw [k65_open hx]; exact k65_mkM _ _ _ x) (fun _ hk => hk.elim) (fun _ _ => trivial) HBx.out (below_size HBx.out) (by simp only [List.length_nil]; omega) ?_
            intro y wy ho hb hg hat
            rw [List.nil_append] at ho
            obtain ⟨AK, cK, ev⟩ := Kd.R_slice HV.out
            subst ev
            obtain ⟨AM, cM, ev⟩ := Kd.R_slice ho
            subst ev
            refine hK.out _ _ hb (fun hHeld => ?_)
            refine norm_ (a' := ?_) ?_ ?_
            rotate_left
            · show Act.put _ (some 46) _ = _
              simp only [Act.put, List.setIfInBounds_toArray, List.set_cons_zero, List.set_cons_succ, i64_w, i32_w]
              rfl
            refine pure_ (i := 10) (N := some 49) (v := ?_) (a' := ?_) #[true, true, true, true, true, true, true, true, true, true, true, true, false] rfl rfl (any_of HT_.out (by kernel_rfl)) (fun _ _ _ h => h) (Or.inl ⟨by rfl, ?_⟩) ?_ ?_
            rotate_left
            · intro w'
              go_simp
              with_reducible rfl
            rotate_left
            · simp only [Act.put, List.setIfInBounds_toArray, List.set_cons_zero, List.set_cons_succ, i64_w, i32_w]
              rfl
            refine norm_ ?_ (J221.out v0 (.slice AK L.length cK) u (.slice AM D.length cM) k _ ⟨⟨hb⟩, ⟨Kd.R_grown2 HV.out rfl hg (own_ne' (own_sym AP.out))⟩, ⟨ho⟩, ⟨blk_grown BX.out hg (blk_rowG BX.out HU.out (by decide))⟩, ⟨GX.out⟩⟩)
            simp only [putAll, Act.put, List.setIfInBounds_toArray, List.set_cons_zero, List.set_cons_succ]
      refine join5 4 #[true, true, true, true, true, true, true, false, true, true, false, false, false] (fun v0 v u0 u k => [(39, v0), (42, v), (43, u)]) (fun v0 v u0 u k wx => Aside0 (Below wN.heap.size wN wx) ∧ Aside0 (Kd.R k65 65 wx wN.heap.size (fun _ => True) v L) ∧ Aside0 (Kd.R k65 65 wx wN.heap.size (fun _ => True) u ([] : List S65)) ∧ Aside0 (u.ownBlock = none ∨ u.ownBlock ≠ v.ownBlock)) ?_ (fun J210 => ?_)
      · as_aux_lemma =>
          rintro v0 v u0 u k wx ⟨HBx, HV, HU, AP⟩
          refine norm_ (a' := ?_) ?_ ?_
          rotate_left
          · simp only [putAll, Act.put, List.setIfInBounds_toArray, List.set_cons_zero, List.set_cons_succ]
            rfl
          refine two_ (i := 7) (j := 11) (Ni := some 46) (Nj := some 14) #[true, true, true, true, true, true, true, true, true, true, false, false, false] #[true, true, true, true, true, true, true, false, true, true, false, true, false] rfl rfl rfl rfl (two_of HT_.out (by kernel_rfl)) (by decide) (by decide) (fun K hK => ?_) (fun K hK => ?_)
          · refine Kd.R_append_rows_step k65 (w0 := wN) wN.heap.size rfl (.tmp 43) (.tmp 45) 56 65 (.agg #[.int .i64 0, .int .i64 0, .int .u64 0, .int .u64 0, .int .u8 0, .int .i64 0]) 48 rfl Try.underlying56 info65 rfl (by decide) (by omega) u ([] : List S65) D AD D.length cD (fun _ => True) (fun _ => False) (by simp [Act.eval]) (by simp [Act.eval]) HU.out (Kd.C_below (Kd.R_reads' HO1.out).2.2 HBx.out) (fun x cs hx => by rw [k65_open hx]; exact k65_mkM _ _ _ x) (fun _ hk => hk.elim) (fun _ _ => trivial) HBx.out (below_size HBx.out) (by simp only [List.length_nil]; omega) ?_
            intro y wy ho hb hg hat
            rw [List.nil_append] at ho
            refine hK.out _ _ hb (fun hHeld => ?_)
            refine norm_ ?_ (J220.out v0 v u y 0 _ ⟨⟨hb⟩, ⟨Kd.R_grown2 HV.out rfl hg (own_ne' (own_sym AP.out))⟩, ⟨ho⟩⟩)
            show Act.put _ (some 46) _ = _
            simp only [putAll, Act.put, List.setIfInBounds_toArray, List.set_cons_zero, List.set_cons_succ]
          · refine box_step (N := 14) (cs := #[.slice none 0 0, .slice none 0 0, .int .i64 0]) (t := 58) (by rfl) rfl (by first | (go_simp; done) | (go_simp; rfl)) ?_
            intro g' hg' wy hbox hb
            refine hK.out _ _ (below_step HBx.out hb) (fun hHeld => ?_)
            refine norm_ ?_ (J211.out v0 v (.bool false) u g' _ ⟨⟨below_step HBx.out hb⟩, ⟨Kd.R_below HV.out hb⟩, ⟨Kd.R_below HU.out hb⟩, ⟨AP.out⟩, ⟨hbox⟩, ⟨by rw [hg']; exact below_size HBx.out⟩⟩)
            show Act.put _ (some 14) _ = _
            simp only [putAll, Act.put, List.setIfInBounds_toArray, List.set_cons_zero, List.set_cons_succ]
      refine join5 4 #[true, true, true, false, true, true, true, false, true, true, false, true, false] (fun v0 v u0 u k => [(39, v), (43, u), (14, .pointer (some ⟨k, 0, none⟩))]) (fun v0 v u0 u k wx => Aside0 (Below wN.heap.size wN wx) ∧ Aside0 (Kd.R k65 65 wx wN.heap.size (fun _ => True) v ([] : List S65)) ∧ Aside0 (Kd.R k65 65 wx wN.heap.size (fun _ => True) u ([] : List S65)) ∧ Aside0 (u.ownBlock = none ∨ u.ownBlock ≠ v.ownBlock) ∧ Aside0 (wx.heap[k]? = some (.cells #[.slice none 0 0, .slice none 0 0, .int .i64 0] 58 (0, 0))) ∧ Aside0 (wN.heap.size ≤ k)) ?_ (fun J111 => ?_)
      · as_aux_lemma =>
          rintro v0 v u0 u k wx ⟨HBx, HV, HU, AP, BX, GX⟩
          refine norm_ (a' := ?_) ?_ ?_
          rotate_left
          · simp only [putAll, Act.put, List.setIfInBounds_toArray, List.set_cons_zero, List.set_cons_succ]
            rfl
          refine one_ (i := 3) (N := some 42) #[true, true, true, true, true, true, true, false, true, true, false, true, false] rfl rfl (one_of HT_.out (by kernel_rfl)) (by decide) (fun K hK => ?_)
          · refine Kd.R_append_rows_step k65 (w0 := wN) wN.heap.size rfl (.tmp 39) (.tmp 41) 56 65 (.agg #[.int .i64 0, .int .i64 0, .int .u64 0, .int .u64 0, .int .u8 0, .int .i64 0]) 48 rfl Try.underlying56 info65 rfl (by decide) (by omega) v ([] : List S65) L AL L.length cL (fun _ => True) (fun _ => False) (by simp [Act.eval]) (by simp [Act.eval]) HV.out (Kd.C_below (Kd.R_reads' HO0.out).2.2 HBx.out) (fun x cs hx => by rw [k65_open hx]; exact k65_mkM _ _ _ x) (fun _ hk => hk.elim) (fun _ _ => trivial) HBx.out (below_size HBx.out) (by simp only [List.length_nil]; omega) ?_
            intro y wy ho hb hg hat
            rw [List.nil_append] at ho
            refine hK.out _ _ hb (fun hHeld => ?_)
            refine norm_ ?_ (J211.out v y (.bool false) u k _ ⟨⟨hb⟩, ⟨ho⟩, ⟨Kd.R_grown2 HU.out rfl hg (own_ne' AP.out)⟩, ⟨ap_hatG AP.out hat HU.out⟩, ⟨blk_grown BX.out hg (blk_rowG BX.out HV.out (by decide))⟩, ⟨GX.out⟩⟩)
            show Act.put _ (some 42) _ = _
            simp only [putAll, Act.put, List.setIfInBounds_toArray, List.set_cons_zero, List.set_cons_succ]
      refine join5 5 #[true, true, true, false, true, true, true, false, true, true, false, false, false] (fun v0 v u0 u k => [(39, v), (43, u)]) (fun v0 v u0 u k wx => Aside0 (Below wN.heap.size wN wx) ∧ Aside0 (Kd.R k65 65 wx wN.heap.size (fun _ => True) v ([] : List S65)) ∧ Aside0 (Kd.R k65 65 wx wN.heap.size (fun _ => True) u ([] : List S65)) ∧ Aside0 (u.ownBlock = none ∨ u.ownBlock ≠ v.ownBlock)) ?_ (fun J110 => ?_)
      · as_aux_lemma =>
          rintro v0 v u0 u k wx ⟨HBx, HV, HU, AP⟩
          refine norm_ (a' := ?_) ?_ ?_
          rotate_left
          · simp only [putAll, Act.put, List.setIfInBounds_toArray, List.set_cons_zero, List.set_cons_succ]
            rfl
          refine two_ (i := 3) (j := 11) (Ni := some 42) (Nj := some 14) #[true, true, true, true, true, true, true, false, true, true, false, false, false] #[true, true, true, false, true, true, true, false, true, true, false, true, false] rfl rfl rfl rfl (two_of HT_.out (by kernel_rfl)) (by decide) (by decide) (fun K hK => ?_) (fun K hK => ?_)
          · refine Kd.R_append_rows_step k65 (w0 := wN) wN.heap.size rfl (.tmp 39) (.tmp 41) 56 65 (.agg #[.int .i64 0, .int .i64 0, .int .u64 0, .int .u64 0, .int .u8 0, .int .i64 0]) 48 rfl Try.underlying56 info65 rfl (by decide) (by omega) v ([] : List S65) L AL L.length cL (fun _ => True) (fun _ => False) (by simp [Act.eval]) (by simp [Act.eval]) HV.out (Kd.C_below (Kd.R_reads' HO0.out).2.2 HBx.out) (fun x cs hx => by rw [k65_open hx]; exact k65_mkM _ _ _ x) (fun _ hk => hk.elim) (fun _ _ => trivial) HBx.out (below_size HBx.out) (by simp only [List.length_nil]; omega) ?_
            intro y wy ho hb hg hat
            rw [List.nil_append] at ho
            refine hK.out _ _ hb (fun hHeld => ?_)
            refine norm_ ?_ (J210.out v y (.bool false) u 0 _ ⟨⟨hb⟩, ⟨ho⟩, ⟨Kd.R_grown2 HU.out rfl hg (own_ne' AP.out)⟩, ⟨ap_hatG AP.out hat HU.out⟩⟩)
            show Act.put _ (some 42) _ = _
            simp only [putAll, Act.put, List.setIfInBounds_toArray, List.set_cons_zero, List.set_cons_succ]
          · refine box_step (N := 14) (cs := #[.slice none 0 0, .slice none 0 0, .int .i64 0]) (t := 58) (by rfl) rfl (by first | (go_simp; done) | (go_simp; rfl)) ?_
            intro g' hg' wy hbox hb
            refine hK.out _ _ (below_step HBx.out hb) (fun hHeld => ?_)
            refine norm_ ?_ (J111.out (.bool false) v (.bool false) u g' _ ⟨⟨below_step HBx.out hb⟩, ⟨Kd.R_below HV.out hb⟩, ⟨Kd.R_below HU.out hb⟩, ⟨AP.out⟩, ⟨hbox⟩, ⟨by rw [hg']; exact below_size HBx.out⟩⟩)
            show Act.put _ (some 14) _ = _
            simp only [putAll, Act.put, List.setIfInBounds_toArray, List.set_cons_zero, List.set_cons_succ]
      refine join5 4 #[true, true, true, true, false, true, true, false, true, true, false, true, false] (fun v0 v u0 u k => [(39, v0), (42, v), (14, .pointer (some ⟨k, 0, none⟩))]) (fun v0 v u0 u k wx => Aside0 (Below wN.heap.size wN wx) ∧ Aside0 (Kd.R k65 65 wx wN.heap.size (fun _ => True) v L) ∧ Aside0 (wx.heap[k]? = some (.cells #[.slice none 0 0, .slice none 0 0, .int .i64 0] 58 (0, 0))) ∧ Aside0 (wN.heap.size ≤ k)) ?_ (fun J201 => ?_)
      · as_aux_lemma =>
          rintro v0 v u0 u k wx ⟨HBx, HV, BX, GX⟩
          refine norm_ (a' := ?_) ?_ ?_
          rotate_left
          · simp only [putAll, Act.put, List.setIfInBounds_toArray, List.set_cons_zero, List.set_cons_succ]
            rfl
          refine one_ (i := 4) (N := some 43) #[true, true, true, true, true, true, true, false, true, true, false, true, false] rfl rfl (one_of HT_.out (by kernel_rfl)) (by decide) (fun K hK => ?_)
          · refine Kd.R_lit_step k65 (w0 := wN) wN.heap.size 65 (by rfl) rfl (xs := ([] : List S65)) (inner := []) (ok := fun _ => True) (okp := fun _ => False) (by first | (go_simp; done) | (go_simp; rfl)) (Reps.none _ _) (fun _ hk => hk.elim) trivial HBx.out (below_size HBx.out) (by simp) ?_
            intro y wy ho hb hg hat
            refine hK.out _ _ hb (fun hHeld => ?_)
            refine norm_ ?_ (J211.out v0 v (.bool false) y k _ ⟨⟨hb⟩, ⟨Kd.R_grown2 HV.out rfl hg (fun k hk => by cases hk)⟩, ⟨ho⟩, ⟨(ap_new2 HV.out hat).2⟩, ⟨blk_grown BX.out hg (by simp)⟩, ⟨GX.out⟩⟩)
            show Act.put _ (some 43) _ = _
            simp only [putAll, Act.put, List.setIfInBounds_toArray, List.set_cons_zero, List.set_cons_succ]
      refine join5 5 #[true, true, true, true, false, true, true, false, true, true, false, false, false] (fun v0 v u0 u k => [(39, v0), (42, v)]) (fun v0 v u0 u k wx => Aside0 (Below wN.heap.size wN wx) ∧ Aside0 (Kd.R k65 65 wx wN.heap.size (fun _ => True) v L)) ?_ (fun J200 => ?_)
      · as_aux_lemma =>
          rintro v0 v u0 u k wx ⟨HBx, HV⟩
          refine norm_ (a' := ?_) ?_ ?_
          rotate_left
          · simp only [putAll, Act.put, List.setIfInBounds_toArray, List.set_cons_zero, List.set_cons_succ]
            rfl
          refine two_ (i := 4) (j := 11) (Ni := some 43) (Nj := some 14) #[true, true, true, true, true, true, true, false, true, true, false, false, false] #[true, true, true, true, false, true, true, false, true, true, false, true, false] rfl rfl rfl rfl (two_of HT_.out (by kernel_rfl)) (by decide) (by decide) (fun K hK => ?_) (fun K hK => ?_)
          · refine Kd.R_lit_step k65 (w0 := wN) wN.heap.size 65 (by rfl) rfl (xs := ([] : List S65)) (inner := []) (ok := fun _ => True) (okp := fun _ => False) (by first | (go_simp; done) | (go_simp; rfl)) (Reps.none _ _) (fun _ hk => hk.elim) trivial HBx.out (below_size HBx.out) (by simp) ?_
            intro y wy ho hb hg hat
            refine hK.out _ _ hb (fun hHeld => ?_)
            refine norm_ ?_ (J210.out v0 v (.bool false) y 0 _ ⟨⟨hb⟩, ⟨Kd.R_grown2 HV.out rfl hg (fun k hk => by cases hk)⟩, ⟨ho⟩, ⟨(ap_new2 HV.out hat).2⟩⟩)
            show Act.put _ (some 43) _ = _
            simp only [putAll, Act.put, List.setIfInBounds_toArray, List.set_cons_zero, List.set_cons_succ]
          · refine box_step (N := 14) (cs := #[.slice none 0 0, .slice none 0 0, .int .i64 0]) (t := 58) (by rfl) rfl (by first | (go_simp; done) | (go_simp; rfl)) ?_
            intro g' hg' wy hbox hb
            refine hK.out _ _ (below_step HBx.out hb) (fun hHeld => ?_)
            refine norm_ ?_ (J201.out v0 v (.bool false) (.bool false) g' _ ⟨⟨below_step HBx.out hb⟩, ⟨Kd.R_below HV.out hb⟩, ⟨hbox⟩, ⟨by rw [hg']; exact below_size HBx.out⟩⟩)
            show Act.put _ (some 14) _ = _
            simp only [putAll, Act.put, List.setIfInBounds_toArray, List.set_cons_zero, List.set_cons_succ]
      refine join5 5 #[false, true, true, false, true, true, true, false, true, true, false, true, false] (fun v0 v u0 u k => [(43, u), (14, .pointer (some ⟨k, 0, none⟩))]) (fun v0 v u0 u k wx => Aside0 (Below wN.heap.size wN wx) ∧ Aside0 (Kd.R k65 65 wx wN.heap.size (fun _ => True) u ([] : List S65)) ∧ Aside0 (wx.heap[k]? = some (.cells #[.slice none 0 0, .slice none 0 0, .int .i64 0] 58 (0, 0))) ∧ Aside0 (wN.heap.size ≤ k)) ?_ (fun J011 => ?_)
      · as_aux_lemma =>
          rintro v0 v u0 u k wx ⟨HBx, HU, BX, GX⟩
          refine norm_ (a' := ?_) ?_ ?_
          rotate_left
          · simp only [putAll, Act.put, List.setIfInBounds_toArray, List.set_cons_zero, List.set_cons_succ]
            rfl
          refine one_ (i := 0) (N := some 39) #[true, true, true, false, true, true, true, false, true, true, false, true, false] rfl rfl (one_of HT_.out (by kernel_rfl)) (by decide) (fun K hK => ?_)
          · refine Kd.R_lit_step k65 (w0 := wN) wN.heap.size 65 (by rfl) rfl (xs := ([] : List S65)) (inner := []) (ok := fun _ => True) (okp := fun _ => False) (by first | (go_simp; done) | (go_simp; rfl)) (Reps.none _ _) (fun _ hk => hk.elim) trivial HBx.out (below_size HBx.out) (by simp) ?_
            intro y wy ho hb hg hat
            refine hK.out _ _ hb (fun hHeld => ?_)
            refine norm_ ?_ (J111.out (.bool false) y (.bool false) u k _ ⟨⟨hb⟩, ⟨ho⟩, ⟨Kd.R_grown2 HU.out rfl hg (fun k hk => by cases hk)⟩, ⟨(ap_new2 HU.out hat).1⟩, ⟨blk_grown BX.out hg (by simp)⟩, ⟨GX.out⟩⟩)
            show Act.put _ (some 39) _ = _
            simp only [putAll, Act.put, List.setIfInBounds_toArray, List.set_cons_zero, List.set_cons_succ]
      refine join5 6 #[false, true, true, false, true, true, true, false, true, true, false, false, false] (fun v0 v u0 u k => [(43, u)]) (fun v0 v u0 u k wx => Aside0 (Below wN.heap.size wN wx) ∧ Aside0 (Kd.R k65 65 wx wN.heap.size (fun _ => True) u ([] : List S65))) ?_ (fun J010 => ?_)
      · as_aux_lemma =>
          rintro v0 v u0 u k wx ⟨HBx, HU⟩
          refine norm_ (a' := ?_) ?_ ?_
          rotate_left
          · simp only [putAll, Act.put, List.setIfInBounds_toArray, List.set_cons_zero, List.set_cons_succ]
            rfl
          refine two_ (i := 0) (j := 11) (Ni := some 39) (Nj := some 14) #[true, true, true, false, true, true, true, false, true, true, false, false, false] #[false, true, true, false, true, true, true, false, true, true, false, true, false] rfl rfl rfl rfl (two_of HT_.out (by kernel_rfl)) (by decide) (by decide) (fun K hK => ?_) (fun K hK => ?_)
          · refine Kd.R_lit_step k65 (w0 := wN) wN.heap.size 65 (by rfl) rfl (xs := ([] : List S65)) (inner := []) (ok := fun _ => True) (okp := fun _ => False) (by first | (go_simp; done) | (go_simp; rfl)) (Reps.none _ _) (fun _ hk => hk.elim) trivial HBx.out (below_size HBx.out) (by simp) ?_
            intro y wy ho hb hg hat
            refine hK.out _ _ hb (fun hHeld => ?_)
            refine norm_ ?_ (J110.out (.bool false) y (.bool false) u 0 _ ⟨⟨hb⟩, ⟨ho⟩, ⟨Kd.R_grown2 HU.out rfl hg (fun k hk => by cases hk)⟩, ⟨(ap_new2 HU.out hat).1⟩⟩)
            show Act.put _ (some 39) _ = _
            simp only [putAll, Act.put, List.setIfInBounds_toArray, List.set_cons_zero, List.set_cons_succ]
          · refine box_step (N := 14) (cs := #[.slice none 0 0, .slice none 0 0, .int .i64 0]) (t := 58) (by rfl) rfl (by first | (go_simp; done) | (go_simp; rfl)) ?_
            intro g' hg' wy hbox hb
            refine hK.out _ _ (below_step HBx.out hb) (fun hHeld => ?_)
            refine norm_ ?_ (J011.out (.bool false) (.bool false) (.bool false) u g' _ ⟨⟨below_step HBx.out hb⟩, ⟨Kd.R_below HU.out hb⟩, ⟨hbox⟩, ⟨by rw [hg']; exact below_size HBx.out⟩⟩)
            show Act.put _ (some 14) _ = _
            simp only [putAll, Act.put, List.setIfInBounds_toArray, List.set_cons_zero, List.set_cons_succ]
      refine join5 5 #[true, true, true, false, false, true, true, false, true, true, false, true, false] (fun v0 v u0 u k => [(39, v), (14, .pointer (some ⟨k, 0, none⟩))]) (fun v0 v u0 u k wx => Aside0 (Below wN.heap.size wN wx) ∧ Aside0 (Kd.R k65 65 wx wN.heap.size (fun _ => True) v ([] : List S65)) ∧ Aside0 (wx.heap[k]? = some (.cells #[.slice none 0 0, .slice none 0 0, .int .i64 0] 58 (0, 0))) ∧ Aside0 (wN.heap.size ≤ k)) ?_ (fun J101 => ?_)
      · as_aux_lemma =>
          rintro v0 v u0 u k wx ⟨HBx, HV, BX, GX⟩
          refine norm_ (a' := ?_) ?_ ?_
          rotate_left
          · simp only [putAll, Act.put, List.setIfInBounds_toArray, List.set_cons_zero, List.set_cons_succ]
            rfl
          refine two_ (i := 3) (j := 4) (Ni := some 42) (Nj := some 43) #[true, true, true, true, false, true, true, false, true, true, false, true, false] #[true, true, true, false, true, true, true, false, true, true, false, true, false] rfl rfl rfl rfl (two_of HT_.out (by kernel_rfl)) (by decide) (by decide) (fun K hK => ?_) (fun K hK => ?_)
          · refine Kd.R_append_rows_step k65 (w0 := wN) wN.heap.size rfl (.tmp 39) (.tmp 41) 56 65 (.agg #[.int .i64 0, .int .i64 0, .int .u64 0, .int .u64 0, .int .u8 0, .int .i64 0]) 48 rfl Try.underlying56 info65 rfl (by decide) (by omega) v ([] : List S65) L AL L.length cL (fun _ => True) (fun _ => False) (by simp [Act.eval]) (by simp [Act.eval]) HV.out (Kd.C_below (Kd.R_reads' HO0.out).2.2 HBx.out) (fun x cs hx => by rw [k65_open hx]; exact k65_mkM _ _ _ x) (fun _ hk => hk.elim) (fun _ _ => trivial) HBx.out (below_size HBx.out) (by simp only [List.length_nil]; omega) ?_
            intro y wy ho hb hg hat
            rw [List.nil_append] at ho
            refine hK.out _ _ hb (fun hHeld => ?_)
            refine norm_ ?_ (J201.out v y (.bool false) (.bool false) k _ ⟨⟨hb⟩, ⟨ho⟩, ⟨blk_grown BX.out hg (blk_rowG BX.out HV.out (by decide))⟩, ⟨GX.out⟩⟩)
            show Act.put _ (some 42) _ = _
            simp only [putAll, Act.put, List.setIfInBounds_toArray, List.set_cons_zero, List.set_cons_succ]
          · refine Kd.R_lit_step k65 (w0 := wN) wN.heap.size 65 (by rfl) rfl (xs := ([] : List S65)) (inner := []) (ok := fun _ => True) (okp := fun _ => False) (by first | (go_simp; done) | (go_simp; rfl)) (Reps.none _ _) (fun _ hk => hk.elim) trivial HBx.out (below_size HBx.out) (by simp) ?_
            intro y wy ho hb hg hat
            refine hK.out _ _ hb (fun hHeld => ?_)
            refine norm_ ?_ (J111.out (.bool false) v (.bool false) y k _ ⟨⟨hb⟩, ⟨Kd.R_grown2 HV.out rfl hg (fun k hk => by cases hk)⟩, ⟨ho⟩, ⟨(ap_new2 HV.out hat).2⟩, ⟨blk_grown BX.out hg (by simp)⟩, ⟨GX.out⟩⟩)
            show Act.put _ (some 43) _ = _
            simp only [putAll, Act.put, List.setIfInBounds_toArray, List.set_cons_zero, List.set_cons_succ]
      refine join5 6 #[true, true, true, false, false, true, true, false, true, true, false, false, false] (fun v0 v u0 u k => [(39, v)]) (fun v0 v u0 u k wx => Aside0 (Below wN.heap.size wN wx) ∧ Aside0 (Kd.R k65 65 wx wN.heap.size (fun _ => True) v ([] : List S65))) ?_ (fun J100 => ?_)
      · as_aux_lemma =>
          rintro v0 v u0 u k wx ⟨HBx, HV⟩
          refine norm_ (a' := ?_) ?_ ?_
          rotate_left
          · simp only [putAll, Act.put, List.setIfInBounds_toArray, List.set_cons_zero, List.set_cons_succ]
            rfl
          refine three_ (i := 3) (j := 4) (k := 11) (Ni := some 42) (Nj := some 43) (Nk := some 14) #[true, true, true, true, false, true, true, false, true, true, false, false, false] #[true, true, true, false, true, true, true, false, true, true, false, false, false] #[true, true, true, false, false, true, true, false, true, true, false, true, false] rfl rfl rfl rfl rfl rfl (three_of HT_.out (by kernel_rfl)) (by decide) (by decide) (by decide) (fun K hK => ?_) (fun K hK => ?_) (fun K hK => ?_)
          · refine Kd.R_append_rows_step k65 (w0 := wN) wN.heap.size rfl (.tmp 39) (.tmp 41) 56 65 (.agg #[.int .i64 0, .int .i64 0, .int .u64 0, .int .u64 0, .int .u8 0, .int .i64 0]) 48 rfl Try.underlying56 info65 rfl (by decide) (by omega) v ([] : List S65) L AL L.length cL (fun _ => True) (fun _ => False) (by simp [Act.eval]) (by simp [Act.eval]) HV.out (Kd.C_below (Kd.R_reads' HO0.out).2.2 HBx.out) (fun x cs hx => by rw [k65_open hx]; exact k65_mkM _ _ _ x) (fun _ hk => hk.elim) (fun _ _ => trivial) HBx.out (below_size HBx.out) (by simp only [List.length_nil]; omega) ?_
            intro y wy ho hb hg hat
            rw [List.nil_append] at ho
            refine hK.out _ _ hb (fun hHeld => ?_)
            refine norm_ ?_ (J200.out v y (.bool false) (.bool false) 0 _ ⟨⟨hb⟩, ⟨ho⟩⟩)
            show Act.put _ (some 42) _ = _
            simp only [putAll, Act.put, List.setIfInBounds_toArray, List.set_cons_zero, List.set_cons_succ]
          · refine Kd.R_lit_step k65 (w0 := wN) wN.heap.size 65 (by rfl) rfl (xs := ([] : List S65)) (inner := []) (ok := fun _ => True) (okp := fun _ => False) (by first | (go_simp; done) | (go_simp; rfl)) (Reps.none _ _) (fun _ hk => hk.elim) trivial HBx.out (below_size HBx.out) (by simp) ?_
            intro y wy ho hb hg hat
            refine hK.out _ _ hb (fun hHeld => ?_)
            refine norm_ ?_ (J110.out (.bool false) v (.bool false) y 0 _ ⟨⟨hb⟩, ⟨Kd.R_grown2 HV.out rfl hg (fun k hk => by cases hk)⟩, ⟨ho⟩, ⟨(ap_new2 HV.out hat).2⟩⟩)
            show Act.put _ (some 43) _ = _
            simp only [putAll, Act.put, List.setIfInBounds_toArray, List.set_cons_zero, List.set_cons_succ]
          · refine box_step (N := 14) (cs := #[.slice none 0 0, .slice none 0 0, .int .i64 0]) (t := 58) (by rfl) rfl (by first | (go_simp; done) | (go_simp; rfl)) ?_
            intro g' hg' wy hbox hb
            refine hK.out _ _ (below_step HBx.out hb) (fun hHeld => ?_)
            refine norm_ ?_ (J101.out (.bool false) v (.bool false) (.bool false) g' _ ⟨⟨below_step HBx.out hb⟩, ⟨Kd.R_below HV.out hb⟩, ⟨hbox⟩, ⟨by rw [hg']; exact below_size HBx.out⟩⟩)
            show Act.put _ (some 14) _ = _
            simp only [putAll, Act.put, List.setIfInBounds_toArray, List.set_cons_zero, List.set_cons_succ]
      refine join5 6 #[false, true, true, false, false, true, true, false, true, true, false, true, false] (fun v0 v u0 u k => [(14, .pointer (some ⟨k, 0, none⟩))]) (fun v0 v u0 u k wx => Aside0 (Below wN.heap.size wN wx) ∧ Aside0 (wx.heap[k]? = some (.cells #[.slice none 0 0, .slice none 0 0, .int .i64 0] 58 (0, 0))) ∧ Aside0 (wN.heap.size ≤ k)) ?_ (fun J001 => ?_)
      · as_aux_lemma =>
          rintro v0 v u0 u k wx ⟨HBx, BX, GX⟩
          refine norm_ (a' := ?_) ?_ ?_
          rotate_left
          · simp only [putAll, Act.put, List.setIfInBounds_toArray, List.set_cons_zero, List.set_cons_succ]
            rfl
          refine two_ (i := 0) (j := 4) (Ni := some 39) (Nj := some 43) #[true, true, true, false, false, true, true, false, true, true, false, true, false] #[false, true, true, false, true, true, true, false, true, true, false, true, false] rfl rfl rfl rfl (two_of HT_.out (by kernel_rfl)) (by decide) (by decide) (fun K hK => ?_) (fun K hK => ?_)
          · refine Kd.R_lit_step k65 (w0 := wN) wN.heap.size 65 (by rfl) rfl (xs := ([] : List S65)) (inner := []) (ok := fun _ => True) (okp := fun _ => False) (by first | (go_simp; done) | (go_simp; rfl)) (Reps.none _ _) (fun _ hk => hk.elim) trivial HBx.out (below_size HBx.out) (by simp) ?_
            intro y wy ho hb hg hat
            refine hK.out _ _ hb (fun hHeld => ?_)
            refine norm_ ?_ (J101.out (.bool false) y (.bool false) (.bool false) k _ ⟨⟨hb⟩, ⟨ho⟩, ⟨blk_grown BX.out hg (by simp)⟩, ⟨GX.out⟩⟩)
            show Act.put _ (some 39) _ = _
            simp only [putAll, Act.put, List.setIfInBounds_toArray, List.set_cons_zero, List.set_cons_succ]
          · refine Kd.R_lit_step k65 (w0 := wN) wN.heap.size 65 (by rfl) rfl (xs := ([] : List S65)) (inner := []) (ok := fun _ => True) (okp := fun _ => False) (by first | (go_simp; done) | (go_simp; rfl)) (Reps.none _ _) (fun _ hk => hk.elim) trivial HBx.out (below_size HBx.out) (by simp) ?_
            intro y wy ho hb hg hat
            refine hK.out _ _ hb (fun hHeld => ?_)
            refine norm_ ?_ (J011.out (.bool false) (.bool false) (.bool false) y k _ ⟨⟨hb⟩, ⟨ho⟩, ⟨blk_grown BX.out hg (by simp)⟩, ⟨GX.out⟩⟩)
            show Act.put _ (some 43) _ = _
            simp only [putAll, Act.put, List.setIfInBounds_toArray, List.set_cons_zero, List.set_cons_succ]
      have HBx := Aside0.mk hHeld
      refine three_ (i := 0) (j := 4) (k := 11) (Ni := some 39) (Nj := some 43) (Nk := some 14) #[true, true, true, false, false, true, true, false, true, true, false, false, false] #[false, true, true, false, true, true, true, false, true, true, false, false, false] #[false, true, true, false, false, true, true, false, true, true, false, true, false] rfl rfl rfl rfl rfl rfl (three_of HT_.out (by kernel_rfl)) (by decide) (by decide) (by decide) (fun K hK => ?_) (fun K hK => ?_) (fun K hK => ?_)
      · refine Kd.R_lit_step k65 (w0 := wN) wN.heap.size 65 (by rfl) rfl (xs := ([] : List S65)) (inner := []) (ok := fun _ => True) (okp := fun _ => False) (by first | (go_simp; done) | (go_simp; rfl)) (Reps.none _ _) (fun _ hk => hk.elim) trivial HBx.out (below_size HBx.out) (by simp) ?_
        intro y wy ho hb hg hat
        refine hK.out _ _ hb (fun hHeld => ?_)
        refine norm_ ?_ (J100.out (.bool false) y (.bool false) (.bool false) 0 _ ⟨⟨hb⟩, ⟨ho⟩⟩)
        show Act.put _ (some 39) _ = _
        simp only [putAll, Act.put, List.setIfInBounds_toArray, List.set_cons_zero, List.set_cons_succ]
      · refine Kd.R_lit_step k65 (w0 := wN) wN.heap.size 65 (by rfl) rfl (xs := ([] : List S65)) (inner := []) (ok := fun _ => True) (okp := fun _ => False) (by first | (go_simp; done) | (go_simp; rfl)) (Reps.none _ _) (fun _ hk => hk.elim) trivial HBx.out (below_size HBx.out) (by simp) ?_
        intro y wy ho hb hg hat
        refine hK.out _ _ hb (fun hHeld => ?_)
        refine norm_ ?_ (J010.out (.bool false) (.bool false) (.bool false) y 0 _ ⟨⟨hb⟩, ⟨ho⟩⟩)
        show Act.put _ (some 43) _ = _
        simp only [putAll, Act.put, List.setIfInBounds_toArray, List.set_cons_zero, List.set_cons_succ]
      · refine box_step (N := 14) (cs := #[.slice none 0 0, .slice none 0 0, .int .i64 0]) (t := 58) (by rfl) rfl (by first | (go_simp; done) | (go_simp; rfl)) ?_
        intro g' hg' wy hbox hb
        refine hK.out _ _ (below_step HBx.out hb) (fun hHeld => ?_)
        refine norm_ ?_ (J001.out (.bool false) (.bool false) (.bool false) (.bool false) g' _ ⟨⟨below_step HBx.out hb⟩, ⟨hbox⟩, ⟨by rw [hg']; exact below_size HBx.out⟩⟩)
        show Act.put _ (some 14) _ = _
        simp only [putAll, Act.put, List.setIfInBounds_toArray, List.set_cons_zero, List.set_cons_succ]
      rintro v0 v u0 u gb14 wx ⟨HBx, HV, HU, BX, GX⟩
      refine norm_ (a' := ?_) ?_ ?_
      rotate_left
      · simp only [putAll, Act.put, List.setIfInBounds_toArray, List.set_cons_zero, List.set_cons_succ]
        rfl
      obtain ⟨AK, cK, ev⟩ := Kd.R_slice HV.out
      subst ev
      obtain ⟨AM, cM, ev⟩ := Kd.R_slice HU.out
      subst ev
      have NE_gb7_gb14 := Aside0.mk (show gb7 ≠ gb14 from Nat.ne_of_lt (Nat.lt_of_lt_of_le (blk_lt BK7.out) GX.out))
      have NE_gb8_gb14 := Aside0.mk (show gb8 ≠ gb14 from Nat.ne_of_lt (Nat.lt_of_lt_of_le (blk_lt BK8.out) GX.out))
      have NE_gb12_gb14 := Aside0.mk (show gb12 ≠ gb14 from Nat.ne_of_lt (Nat.lt_of_lt_of_le (blk_lt BK12.out) GX.out))
      have NE_gb13_gb14 := Aside0.mk (show gb13 ≠ gb14 from Nat.ne_of_lt (Nat.lt_of_lt_of_le (blk_lt BK13.out) GX.out))
      have hwN : w.heap.size ≤ wN.heap.size := below_size HB.out
      have GE_gb14 := Aside0.mk (Nat.le_trans hwN GX.out)
      have hb := HBx.out
      replace BK7 := Aside0.mk (blk_below BK7.out hb); replace BK8 := Aside0.mk (blk_below BK8.out hb); replace BK12 := Aside0.mk (blk_below BK12.out hb); replace BK13 := Aside0.mk (blk_below BK13.out hb); replace HO0 := Aside0.mk (Kd.R_below HO0.out hb); replace HO1 := Aside0.mk (Kd.R_below HO1.out hb); replace HP0 := Aside0.mk (Kd.R_below HP0.out hb); replace HP1 := Aside0.mk (Kd.R_below HP1.out hb); replace HB := Aside0.mk (below_step HB.out hb); clear hb
      have HK0 := Aside0.mk (Kd.R_lower HV.out hwN)
      have HK1 := Aside0.mk (Kd.R_lower HU.out hwN)
      clear HV HU
      have BK14 := BX
      clear BX
      refine one_ (i := 12) (N := none) #[true, true, true, true, true, true, true, true, true, true, true, true, true] rfl rfl (one_of HT_.out (by kernel_rfl)) (by decide) (fun K hK => ?_)
      have st12_0 := blk_c BK14.out 0 rfl
      have st12_1 := blk_c BK14.out 1 rfl
      have st12_2 := blk_c BK14.out 2 rfl
      have st12_3 := blk_frozen BK14.out 0
      have st12_4 := blk_frozen BK14.out 1
      have st12_5 := blk_frozen BK14.out 2
      refine skip_ (w1 := ?_) (by rfl) rfl ?_ ?_
      rotate_left
      · go_simp
        rfl
      refine hK.out _ _ (below_set3 HBx.out GX.out _ _ _) (fun hHeld => ?_)
      clear hK K
      clear st12_0 st12_1 st12_2 st12_3 st12_4 st12_5
      refine done_ (done_of HT_.out (by kernel_rfl)) ?_
      clear HBx hHeld
      have bk7_0 := blk_c BK7.out 0 rfl; have bk7_1 := blk_c BK7.out 1 rfl; have bk7_2 := blk_c BK7.out 2 rfl; have bk8_0 := blk_c BK8.out 0 rfl; have bk8_1 := blk_c BK8.out 1 rfl; have bk8_2 := blk_c BK8.out 2 rfl; have bk12_0 := blk_c BK12.out 0 rfl; have bk12_1 := blk_c BK12.out 1 rfl; have bk12_2 := blk_c BK12.out 2 rfl; have bk12_3 := blk_c BK12.out 3 rfl; have bk12_4 := blk_c BK12.out 4 rfl; have bk12_5 := blk_c BK12.out 5 rfl; have bk13_0 := blk_c BK13.out 0 rfl; have bk13_1 := blk_c BK13.out 1 rfl; have bk13_2 := blk_c BK13.out 2 rfl; have bk14_0 := blk_c BK14.out 0 rfl; have bk14_1 := blk_c BK14.out 1 rfl; have bk14_2 := blk_c BK14.out 2 rfl; have bk7_f := fun i => blk_frozen BK7.out i; have bk8_f := fun i => blk_frozen BK8.out i; have bk12_f := fun i => blk_frozen BK12.out i; have bk13_f := fun i => blk_frozen BK13.out i; have bk14_f := fun i => blk_frozen BK14.out i
      clear bk7_0 bk7_1 bk7_2 bk7_f bk8_0 bk8_1 bk8_2 bk8_f bk12_0 bk12_1 bk12_2 bk12_3 bk12_4 bk12_5 bk12_f bk13_0 bk13_1 bk13_2 bk13_f bk14_0 bk14_1 bk14_2 bk14_f
      have s0_HO0 := far_set3 HO0.out (blk_rowG BK14.out HO0.out (by decide)) (.slice AK L.length cK) (.slice AM D.length cM) (.int .i64 g)
      have s0_HO1 := far_set3 HO1.out (blk_rowG BK14.out HO1.out (by decide)) (.slice AK L.length cK) (.slice AM D.length cM) (.int .i64 g)
      have s0_HP0 := far_set3 HP0.out (blk_rowG BK14.out HP0.out (by decide)) (.slice AK L.length cK) (.slice AM D.length cM) (.int .i64 g)
      have s0_HP1 := far_set3 HP1.out (blk_rowG BK14.out HP1.out (by decide)) (.slice AK L.length cK) (.slice AM D.length cM) (.int .i64 g)
      have s0_HK0 := far_set3 HK0.out (blk_rowG BK14.out HK0.out (by decide)) (.slice AK L.length cK) (.slice AM D.length cM) (.int .i64 g)
      have s0_HK1 := far_set3 HK1.out (blk_rowG BK14.out HK1.out (by decide)) (.slice AK L.length cK) (.slice AM D.length cM) (.int .i64 g)
      have s0_BK7 := blk_far3 BK7.out NE_gb7_gb14.out (.slice AK L.length cK) (.slice AM D.length cM) (.int .i64 g)
      have s0_BK8 := blk_far3 BK8.out NE_gb8_gb14.out (.slice AK L.length cK) (.slice AM D.length cM) (.int .i64 g)
      have s0_BK12 := blk_far3 BK12.out NE_gb12_gb14.out (.slice AK L.length cK) (.slice AM D.length cM) (.int .i64 g)
      have s0_BK13 := blk_far3 BK13.out NE_gb13_gb14.out (.slice AK L.length cK) (.slice AM D.length cM) (.int .i64 g)
      have s0_BK14 := blk_put3 BK14.out (.slice AK L.length cK) (.slice AM D.length cM) (.int .i64 g)
      have s0_HB := below_set3 HB.out GE_gb14.out (.slice AK L.length cK) (.slice AM D.length cM) (.int .i64 g)
      have n_BK7 := Aside0.mk s0_BK7
      have n_BK8 := Aside0.mk s0_BK8
      have n_BK12 := Aside0.mk s0_BK12
      have n_BK13 := Aside0.mk s0_BK13
      have n_BK14 := Aside0.mk s0_BK14
      have n_HO0 := Aside0.mk s0_HO0
      have n_HO1 := Aside0.mk s0_HO1
      have n_HP0 := Aside0.mk s0_HP0
      have n_HP1 := Aside0.mk s0_HP1
      have n_HK0 := Aside0.mk s0_HK0
      have n_HK1 := Aside0.mk s0_HK1
      have n_HB := Aside0.mk s0_HB
      clear s0_BK7 s0_BK8 s0_BK12 s0_BK13 s0_BK14 s0_HO0 s0_HO1 s0_HP0 s0_HP1 s0_HK0 s0_HK1 s0_HB
      clear BK7 BK8 BK12 BK13 BK14 HO0 HO1 HP0 HP1 HK0 HK1 HB
      generalize (((wx.setCell ⟨gb14, 0, none⟩ (.slice AK L.length cK)).setCell ⟨gb14, 1, none⟩ (.slice AM D.length cM)).setCell ⟨gb14, 2, none⟩ (.int .i64 g)) = w7 at n_BK7 n_BK8 n_BK12 n_BK13 n_BK14 n_HO0 n_HO1 n_HP0 n_HP1 n_HK0 n_HK1 n_HB ⊢
      have BK7 := n_BK7
      have BK8 := n_BK8
      have BK12 := n_BK12
      have BK13 := n_BK13
      have BK14 := n_BK14
      have HO0 := n_HO0
      have HO1 := n_HO1
      have HP0 := n_HP0
      have HP1 := n_HP1
      have HK0 := n_HK0
      have HK1 := n_HK1
      have HB := n_HB
      clear n_BK7 n_BK8 n_BK12 n_BK13 n_BK14 n_HO0 n_HO1 n_HP0 n_HP1 n_HK0 n_HK1 n_HB
      have bk7_0 := blk_c BK7.out 0 rfl; have bk7_1 := blk_c BK7.out 1 rfl; have bk7_2 := blk_c BK7.out 2 rfl; have bk8_0 := blk_c BK8.out 0 rfl; have bk8_1 := blk_c BK8.out 1 rfl; have bk8_2 := blk_c BK8.out 2 rfl; have bk12_0 := blk_c BK12.out 0 rfl; have bk12_1 := blk_c BK12.out 1 rfl; have bk12_2 := blk_c BK12.out 2 rfl; have bk12_3 := blk_c BK12.out 3 rfl; have bk12_4 := blk_c BK12.out 4 rfl; have bk12_5 := blk_c BK12.out 5 rfl; have bk13_0 := blk_c BK13.out 0 rfl; have bk13_1 := blk_c BK13.out 1 rfl; have bk13_2 := blk_c BK13.out 2 rfl; have bk14_0 := blk_c BK14.out 0 rfl; have bk14_1 := blk_c BK14.out 1 rfl; have bk14_2 := blk_c BK14.out 2 rfl; have bk7_f := fun i => blk_frozen BK7.out i; have bk8_f := fun i => blk_frozen BK8.out i; have bk12_f := fun i => blk_frozen BK12.out i; have bk13_f := fun i => blk_frozen BK13.out i; have bk14_f := fun i => blk_frozen BK14.out i
      go_upto_region 9 with (first | ((with_reducible refine gate_dst (N := 15) rfl ?_); refine box_event ?hg (N := 15) ?hd (cs := #[.slice none 0 0, .slice none 0 0, .int .i64 0]) (t := 58) ?hr ?_; (case hd => rfl); (case hg => rfl); (case hr => first | (go_simp; done) | (go_simp; rfl)); intro gb15 hg w3 hbox hb; have NE_gb7_gb15 := Aside0.mk (show gb7 ≠ gb15 from by rw [hg]; exact Nat.ne_of_lt (blk_lt BK7.out)); have NE_gb8_gb15 := Aside0.mk (show gb8 ≠ gb15 from by rw [hg]; exact Nat.ne_of_lt (blk_lt BK8.out)); have NE_gb12_gb15 := Aside0.mk (show gb12 ≠ gb15 from by rw [hg]; exact Nat.ne_of_lt (blk_lt BK12.out)); have NE_gb13_gb15 := Aside0.mk (show gb13 ≠ gb15 from by rw [hg]; exact Nat.ne_of_lt (blk_lt BK13.out)); have NE_gb14_gb15 := Aside0.mk (show gb14 ≠ gb15 from by rw [hg]; exact Nat.ne_of_lt (blk_lt BK14.out)); have GE_gb15 := Aside0.mk (show w.heap.size ≤ gb15 from by rw [hg]; exact below_size HB.out); clear hg; clear bk7_0 bk7_1 bk7_2 bk7_f bk8_0 bk8_1 bk8_2 bk8_f bk12_0 bk12_1 bk12_2 bk12_3 bk12_4 bk12_5 bk12_f bk13_0 bk13_1 bk13_2 bk13_f bk14_0 bk14_1 bk14_2 bk14_f; replace BK7 := Aside0.mk (blk_below BK7.out hb); replace BK8 := Aside0.mk (blk_below BK8.out hb); replace BK12 := Aside0.mk (blk_below BK12.out hb); replace BK13 := Aside0.mk (blk_below BK13.out hb); replace BK14 := Aside0.mk (blk_below BK14.out hb); replace HO0 := Aside0.mk (Kd.R_below HO0.out hb); replace HO1 := Aside0.mk (Kd.R_below HO1.out hb); replace HP0 := Aside0.mk (Kd.R_below HP0.out hb); replace HP1 := Aside0.mk (Kd.R_below HP1.out hb); replace HK0 := Aside0.mk (Kd.R_below HK0.out hb); replace HK1 := Aside0.mk (Kd.R_below HK1.out hb); replace HB := Aside0.mk (below_step HB.out hb); clear hb; have BK15 := Aside0.mk hbox; clear hbox; have bk7_0 := blk_c BK7.out 0 rfl; have bk7_1 := blk_c BK7.out 1 rfl; have bk7_2 := blk_c BK7.out 2 rfl; have bk8_0 := blk_c BK8.out 0 rfl; have bk8_1 := blk_c BK8.out 1 rfl; have bk8_2 := blk_c BK8.out 2 rfl; have bk12_0 := blk_c BK12.out 0 rfl; have bk12_1 := blk_c BK12.out 1 rfl; have bk12_2 := blk_c BK12.out 2 rfl; have bk12_3 := blk_c BK12.out 3 rfl; have bk12_4 := blk_c BK12.out 4 rfl; have bk12_5 := blk_c BK12.out 5 rfl; have bk13_0 := blk_c BK13.out 0 rfl; have bk13_1 := blk_c BK13.out 1 rfl; have bk13_2 := blk_c BK13.out 2 rfl; have bk14_0 := blk_c BK14.out 0 rfl; have bk14_1 := blk_c BK14.out 1 rfl; have bk14_2 := blk_c BK14.out 2 rfl; have bk15_0 := blk_c BK15.out 0 rfl; have bk15_1 := blk_c BK15.out 1 rfl; have bk15_2 := blk_c BK15.out 2 rfl; have bk7_f := fun i => blk_frozen BK7.out i; have bk8_f := fun i => blk_frozen BK8.out i; have bk12_f := fun i => blk_frozen BK12.out i; have bk13_f := fun i => blk_frozen BK13.out i; have bk14_f := fun i => blk_frozen BK14.out i; have bk15_f := fun i => blk_frozen BK15.out i))
      clear bk7_0 bk7_1 bk7_2 bk7_f bk8_0 bk8_1 bk8_2 bk8_f bk12_0 bk12_1 bk12_2 bk12_3 bk12_4 bk12_5 bk12_f bk13_0 bk13_1 bk13_2 bk13_f bk14_0 bk14_1 bk14_2 bk14_f bk15_0 bk15_1 bk15_2 bk15_f
      have s0_HO0 := far_set3 HO0.out (blk_rowG BK15.out HO0.out (by decide)) (.slice AL L.length cL) (.slice AD D.length cD) (.int .i64 g)
      have s0_HO1 := far_set3 HO1.out (blk_rowG BK15.out HO1.out (by decide)) (.slice AL L.length cL) (.slice AD D.length cD) (.int .i64 g)
      have s0_HP0 := far_set3 HP0.out (blk_rowG BK15.out HP0.out (by decide)) (.slice AL L.length cL) (.slice AD D.length cD) (.int .i64 g)
      have s0_HP1 := far_set3 HP1.out (blk_rowG BK15.out HP1.out (by decide)) (.slice AL L.length cL) (.slice AD D.length cD) (.int .i64 g)
      have s0_HK0 := far_set3 HK0.out (blk_rowG BK15.out HK0.out (by decide)) (.slice AL L.length cL) (.slice AD D.length cD) (.int .i64 g)
      have s0_HK1 := far_set3 HK1.out (blk_rowG BK15.out HK1.out (by decide)) (.slice AL L.length cL) (.slice AD D.length cD) (.int .i64 g)
      have s0_BK7 := blk_far3 BK7.out NE_gb7_gb15.out (.slice AL L.length cL) (.slice AD D.length cD) (.int .i64 g)
      have s0_BK8 := blk_far3 BK8.out NE_gb8_gb15.out (.slice AL L.length cL) (.slice AD D.length cD) (.int .i64 g)
      have s0_BK12 := blk_far3 BK12.out NE_gb12_gb15.out (.slice AL L.length cL) (.slice AD D.length cD) (.int .i64 g)
      have s0_BK13 := blk_far3 BK13.out NE_gb13_gb15.out (.slice AL L.length cL) (.slice AD D.length cD) (.int .i64 g)
      have s0_BK14 := blk_far3 BK14.out NE_gb14_gb15.out (.slice AL L.length cL) (.slice AD D.length cD) (.int .i64 g)
      have s0_BK15 := blk_put3 BK15.out (.slice AL L.length cL) (.slice AD D.length cD) (.int .i64 g)
      have s0_HB := below_set3 HB.out GE_gb15.out (.slice AL L.length cL) (.slice AD D.length cD) (.int .i64 g)
      have n_BK7 := Aside0.mk s0_BK7
      have n_BK8 := Aside0.mk s0_BK8
      have n_BK12 := Aside0.mk s0_BK12
      have n_BK13 := Aside0.mk s0_BK13
      have n_BK14 := Aside0.mk s0_BK14
      have n_BK15 := Aside0.mk s0_BK15
      have n_HO0 := Aside0.mk s0_HO0
      have n_HO1 := Aside0.mk s0_HO1
      have n_HP0 := Aside0.mk s0_HP0
      have n_HP1 := Aside0.mk s0_HP1
      have n_HK0 := Aside0.mk s0_HK0
      have n_HK1 := Aside0.mk s0_HK1
      have n_HB := Aside0.mk s0_HB
      clear s0_BK7 s0_BK8 s0_BK12 s0_BK13 s0_BK14 s0_BK15 s0_HO0 s0_HO1 s0_HP0 s0_HP1 s0_HK0 s0_HK1 s0_HB
      clear BK7 BK8 BK12 BK13 BK14 BK15 HO0 HO1 HP0 HP1 HK0 HK1 HB
      generalize (((w3.setCell ⟨gb15, 0, none⟩ (.slice AL L.length cL)).setCell ⟨gb15, 1, none⟩ (.slice AD D.length cD)).setCell ⟨gb15, 2, none⟩ (.int .i64 g)) = w4 at n_BK7 n_BK8 n_BK12 n_BK13 n_BK14 n_BK15 n_HO0 n_HO1 n_HP0 n_HP1 n_HK0 n_HK1 n_HB ⊢
      have BK7 := n_BK7
      have BK8 := n_BK8
      have BK12 := n_BK12
      have BK13 := n_BK13
      have BK14 := n_BK14
      have BK15 := n_BK15
      have HO0 := n_HO0
      have HO1 := n_HO1
      have HP0 := n_HP0
      have HP1 := n_HP1
      have HK0 := n_HK0
      have HK1 := n_HK1
      have HB := n_HB
      clear n_BK7 n_BK8 n_BK12 n_BK13 n_BK14 n_BK15 n_HO0 n_HO1 n_HP0 n_HP1 n_HK0 n_HK1 n_HB
      have bk7_0 := blk_c BK7.out 0 rfl; have bk7_1 := blk_c BK7.out 1 rfl; have bk7_2 := blk_c BK7.out 2 rfl; have bk8_0 := blk_c BK8.out 0 rfl; have bk8_1 := blk_c BK8.out 1 rfl; have bk8_2 := blk_c BK8.out 2 rfl; have bk12_0 := blk_c BK12.out 0 rfl; have bk12_1 := blk_c BK12.out 1 rfl; have bk12_2 := blk_c BK12.out 2 rfl; have bk12_3 := blk_c BK12.out 3 rfl; have bk12_4 := blk_c BK12.out 4 rfl; have bk12_5 := blk_c BK12.out 5 rfl; have bk13_0 := blk_c BK13.out 0 rfl; have bk13_1 := blk_c BK13.out 1 rfl; have bk13_2 := blk_c BK13.out 2 rfl; have bk14_0 := blk_c BK14.out 0 rfl; have bk14_1 := blk_c BK14.out 1 rfl; have bk14_2 := blk_c BK14.out 2 rfl; have bk15_0 := blk_c BK15.out 0 rfl; have bk15_1 := blk_c BK15.out 1 rfl; have bk15_2 := blk_c BK15.out 2 rfl; have bk7_f := fun i => blk_frozen BK7.out i; have bk8_f := fun i => blk_frozen BK8.out i; have bk12_f := fun i => blk_frozen BK12.out i; have bk13_f := fun i => blk_frozen BK13.out i; have bk14_f := fun i => blk_frozen BK14.out i; have bk15_f := fun i => blk_frozen BK15.out i
      go_upto_block 2 with (first | ((with_reducible refine gate_dst (N := 22) rfl ?_); refine box_event ?hg (N := 22) ?hd (cs := #[.int .i64 0, .int .i64 0, .int .u64 0, .int .u64 0, .int .u8 0, .int .i64 0]) (t := 65) ?hr ?_; (case hd => rfl); (case hg => rfl); (case hr => first | (go_simp; done) | (go_simp; rfl)); intro gb22 hg w3 hbox hb; have NE_gb7_gb22 := Aside0.mk (show gb7 ≠ gb22 from by rw [hg]; exact Nat.ne_of_lt (blk_lt BK7.out)); have NE_gb8_gb22 := Aside0.mk (show gb8 ≠ gb22 from by rw [hg]; exact Nat.ne_of_lt (blk_lt BK8.out)); have NE_gb12_gb22 := Aside0.mk (show gb12 ≠ gb22 from by rw [hg]; exact Nat.ne_of_lt (blk_lt BK12.out)); have NE_gb13_gb22 := Aside0.mk (show gb13 ≠ gb22 from by rw [hg]; exact Nat.ne_of_lt (blk_lt BK13.out)); have NE_gb14_gb22 := Aside0.mk (show gb14 ≠ gb22 from by rw [hg]; exact Nat.ne_of_lt (blk_lt BK14.out)); have NE_gb15_gb22 := Aside0.mk (show gb15 ≠ gb22 from by rw [hg]; exact Nat.ne_of_lt (blk_lt BK15.out)); have X_gb22_HO0 : Aside0 (some gb22 ≠ (.slice AL L.length cL : Value).ownBlock) := ⟨fun e => by have := Kd.R_lt HO0.out gb22 e.symm; rw [hg] at this; exact absurd this (Nat.lt_irrefl _)⟩; have X_gb22_HO1 : Aside0 (some gb22 ≠ (.slice AD D.length cD : Value).ownBlock) := ⟨fun e => by have := Kd.R_lt HO1.out gb22 e.symm; rw [hg] at this; exact absurd this (Nat.lt_irrefl _)⟩; have X_gb22_HP0 : Aside0 (some gb22 ≠ (.slice RL L.length rL : Value).ownBlock) := ⟨fun e => by have := Kd.R_lt HP0.out gb22 e.symm; rw [hg] at this; exact absurd this (Nat.lt_irrefl _)⟩; have X_gb22_HP1 : Aside0 (some gb22 ≠ (.slice RD D.length rD : Value).ownBlock) := ⟨fun e => by have := Kd.R_lt HP1.out gb22 e.symm; rw [hg] at this; exact absurd this (Nat.lt_irrefl _)⟩; have X_gb22_HK0 : Aside0 (some gb22 ≠ (.slice AK L.length cK : Value).ownBlock) := ⟨fun e => by have := Kd.R_lt HK0.out gb22 e.symm; rw [hg] at this; exact absurd this (Nat.lt_irrefl _)⟩; have X_gb22_HK1 : Aside0 (some gb22 ≠ (.slice AM D.length cM : Value).ownBlock) := ⟨fun e => by have := Kd.R_lt HK1.out gb22 e.symm; rw [hg] at this; exact absurd this (Nat.lt_irrefl _)⟩; have GE_gb22 := Aside0.mk (show w.heap.size ≤ gb22 from by rw [hg]; exact below_size HB.out); clear hg; clear bk7_0 bk7_1 bk7_2 bk7_f bk8_0 bk8_1 bk8_2 bk8_f bk12_0 bk12_1 bk12_2 bk12_3 bk12_4 bk12_5 bk12_f bk13_0 bk13_1 bk13_2 bk13_f bk14_0 bk14_1 bk14_2 bk14_f bk15_0 bk15_1 bk15_2 bk15_f; replace BK7 := Aside0.mk (blk_below BK7.out hb); replace BK8 := Aside0.mk (blk_below BK8.out hb); replace BK12 := Aside0.mk (blk_below BK12.out hb); replace BK13 := Aside0.mk (blk_below BK13.out hb); replace BK14 := Aside0.mk (blk_below BK14.out hb); replace BK15 := Aside0.mk (blk_below BK15.out hb); replace HO0 := Aside0.mk (Kd.R_below HO0.out hb); replace HO1 := Aside0.mk (Kd.R_below HO1.out hb); replace HP0 := Aside0.mk (Kd.R_below HP0.out hb); replace HP1 := Aside0.mk (Kd.R_below HP1.out hb); replace HK0 := Aside0.mk (Kd.R_below HK0.out hb); replace HK1 := Aside0.mk (Kd.R_below HK1.out hb); replace HB := Aside0.mk (below_step HB.out hb); clear hb; have BK22 := Aside0.mk hbox; clear hbox; have bk7_0 := blk_c BK7.out 0 rfl; have bk7_1 := blk_c BK7.out 1 rfl; have bk7_2 := blk_c BK7.out 2 rfl; have bk8_0 := blk_c BK8.out 0 rfl; have bk8_1 := blk_c BK8.out 1 rfl; have bk8_2 := blk_c BK8.out 2 rfl; have bk12_0 := blk_c BK12.out 0 rfl; have bk12_1 := blk_c BK12.out 1 rfl; have bk12_2 := blk_c BK12.out 2 rfl; have bk12_3 := blk_c BK12.out 3 rfl; have bk12_4 := blk_c BK12.out 4 rfl; have bk12_5 := blk_c BK12.out 5 rfl; have bk13_0 := blk_c BK13.out 0 rfl; have bk13_1 := blk_c BK13.out 1 rfl; have bk13_2 := blk_c BK13.out 2 rfl; have bk14_0 := blk_c BK14.out 0 rfl; have bk14_1 := blk_c BK14.out 1 rfl; have bk14_2 := blk_c BK14.out 2 rfl; have bk15_0 := blk_c BK15.out 0 rfl; have bk15_1 := blk_c BK15.out 1 rfl; have bk15_2 := blk_c BK15.out 2 rfl; have bk22_0 := blk_c BK22.out 0 rfl; have bk22_1 := blk_c BK22.out 1 rfl; have bk22_2 := blk_c BK22.out 2 rfl; have bk22_3 := blk_c BK22.out 3 rfl; have bk22_4 := blk_c BK22.out 4 rfl; have bk22_5 := blk_c BK22.out 5 rfl; have bk7_f := fun i => blk_frozen BK7.out i; have bk8_f := fun i => blk_frozen BK8.out i; have bk12_f := fun i => blk_frozen BK12.out i; have bk13_f := fun i => blk_frozen BK13.out i; have bk14_f := fun i => blk_frozen BK14.out i; have bk15_f := fun i => blk_frozen BK15.out i; have bk22_f := fun i => blk_frozen BK22.out i) | ((with_reducible refine gate_dst (N := 23) rfl ?_); refine box_event ?hg (N := 23) ?hd (cs := #[.int .i64 0, .int .i64 0, .int .u64 0, .int .u64 0, .int .u8 0, .int .i64 0]) (t := 65) ?hr ?_; (case hd => rfl); (case hg => rfl); (case hr => first | (go_simp; done) | (go_simp; rfl)); intro gb23 hg w3 hbox hb; have NE_gb7_gb23 := Aside0.mk (show gb7 ≠ gb23 from by rw [hg]; exact Nat.ne_of_lt (blk_lt BK7.out)); have NE_gb8_gb23 := Aside0.mk (show gb8 ≠ gb23 from by rw [hg]; exact Nat.ne_of_lt (blk_lt BK8.out)); have NE_gb12_gb23 := Aside0.mk (show gb12 ≠ gb23 from by rw [hg]; exact Nat.ne_of_lt (blk_lt BK12.out)); have NE_gb13_gb23 := Aside0.mk (show gb13 ≠ gb23 from by rw [hg]; exact Nat.ne_of_lt (blk_lt BK13.out)); have NE_gb14_gb23 := Aside0.mk (show gb14 ≠ gb23 from by rw [hg]; exact Nat.ne_of_lt (blk_lt BK14.out)); have NE_gb15_gb23 := Aside0.mk (show gb15 ≠ gb23 from by rw [hg]; exact Nat.ne_of_lt (blk_lt BK15.out)); have NE_gb22_gb23 := Aside0.mk (show gb22 ≠ gb23 from by rw [hg]; exact Nat.ne_of_lt (blk_lt BK22.out)); have X_gb23_HO0 : Aside0 (some gb23 ≠ (.slice AL L.length cL : Value).ownBlock) := ⟨fun e => by have := Kd.R_lt HO0.out gb23 e.symm; rw [hg] at this; exact absurd this (Nat.lt_irrefl _)⟩; have X_gb23_HO1 : Aside0 (some gb23 ≠ (.slice AD D.length cD : Value).ownBlock) := ⟨fun e => by have := Kd.R_lt HO1.out gb23 e.symm; rw [hg] at this; exact absurd this (Nat.lt_irrefl _)⟩; have X_gb23_HP0 : Aside0 (some gb23 ≠ (.slice RL L.length rL : Value).ownBlock) := ⟨fun e => by have := Kd.R_lt HP0.out gb23 e.symm; rw [hg] at this; exact absurd this (Nat.lt_irrefl _)⟩; have X_gb23_HP1 : Aside0 (some gb23 ≠ (.slice RD D.length rD : Value).ownBlock) := ⟨fun e => by have := Kd.R_lt HP1.out gb23 e.symm; rw [hg] at this; exact absurd this (Nat.lt_irrefl _)⟩; have X_gb23_HK0 : Aside0 (some gb23 ≠ (.slice AK L.length cK : Value).ownBlock) := ⟨fun e => by have := Kd.R_lt HK0.out gb23 e.symm; rw [hg] at this; exact absurd this (Nat.lt_irrefl _)⟩; have X_gb23_HK1 : Aside0 (some gb23 ≠ (.slice AM D.length cM : Value).ownBlock) := ⟨fun e => by have := Kd.R_lt HK1.out gb23 e.symm; rw [hg] at this; exact absurd this (Nat.lt_irrefl _)⟩; have GE_gb23 := Aside0.mk (show w.heap.size ≤ gb23 from by rw [hg]; exact below_size HB.out); clear hg; clear bk7_0 bk7_1 bk7_2 bk7_f bk8_0 bk8_1 bk8_2 bk8_f bk12_0 bk12_1 bk12_2 bk12_3 bk12_4 bk12_5 bk12_f bk13_0 bk13_1 bk13_2 bk13_f bk14_0 bk14_1 bk14_2 bk14_f bk15_0 bk15_1 bk15_2 bk15_f bk22_0 bk22_1 bk22_2 bk22_3 bk22_4 bk22_5 bk22_f; replace BK7 := Aside0.mk (blk_below BK7.out hb); replace BK8 := Aside0.mk (blk_below BK8.out hb); replace BK12 := Aside0.mk (blk_below BK12.out hb); replace BK13 := Aside0.mk (blk_below BK13.out hb); replace BK14 := Aside0.mk (blk_below BK14.out hb); replace BK15 := Aside0.mk (blk_below BK15.out hb); replace BK22 := Aside0.mk (blk_below BK22.out hb); replace HO0 := Aside0.mk (Kd.R_below HO0.out hb); replace HO1 := Aside0.mk (Kd.R_below HO1.out hb); replace HP0 := Aside0.mk (Kd.R_below HP0.out hb); replace HP1 := Aside0.mk (Kd.R_below HP1.out hb); replace HK0 := Aside0.mk (Kd.R_below HK0.out hb); replace HK1 := Aside0.mk (Kd.R_below HK1.out hb); replace HB := Aside0.mk (below_step HB.out hb); clear hb; have BK23 := Aside0.mk hbox; clear hbox; have bk7_0 := blk_c BK7.out 0 rfl; have bk7_1 := blk_c BK7.out 1 rfl; have bk7_2 := blk_c BK7.out 2 rfl; have bk8_0 := blk_c BK8.out 0 rfl; have bk8_1 := blk_c BK8.out 1 rfl; have bk8_2 := blk_c BK8.out 2 rfl; have bk12_0 := blk_c BK12.out 0 rfl; have bk12_1 := blk_c BK12.out 1 rfl; have bk12_2 := blk_c BK12.out 2 rfl; have bk12_3 := blk_c BK12.out 3 rfl; have bk12_4 := blk_c BK12.out 4 rfl; have bk12_5 := blk_c BK12.out 5 rfl; have bk13_0 := blk_c BK13.out 0 rfl; have bk13_1 := blk_c BK13.out 1 rfl; have bk13_2 := blk_c BK13.out 2 rfl; have bk14_0 := blk_c BK14.out 0 rfl; have bk14_1 := blk_c BK14.out 1 rfl; have bk14_2 := blk_c BK14.out 2 rfl; have bk15_0 := blk_c BK15.out 0 rfl; have bk15_1 := blk_c BK15.out 1 rfl; have bk15_2 := blk_c BK15.out 2 rfl; have bk22_0 := blk_c BK22.out 0 rfl; have bk22_1 := blk_c BK22.out 1 rfl; have bk22_2 := blk_c BK22.out 2 rfl; have bk22_3 := blk_c BK22.out 3 rfl; have bk22_4 := blk_c BK22.out 4 rfl; have bk22_5 := blk_c BK22.out 5 rfl; have bk23_0 := blk_c BK23.out 0 rfl; have bk23_1 := blk_c BK23.out 1 rfl; have bk23_2 := blk_c BK23.out 2 rfl; have bk23_3 := blk_c BK23.out 3 rfl; have bk23_4 := blk_c BK23.out 4 rfl; have bk23_5 := blk_c BK23.out 5 rfl; have bk7_f := fun i => blk_frozen BK7.out i; have bk8_f := fun i => blk_frozen BK8.out i; have bk12_f := fun i => blk_frozen BK12.out i; have bk13_f := fun i => blk_frozen BK13.out i; have bk14_f := fun i => blk_frozen BK14.out i; have bk15_f := fun i => blk_frozen BK15.out i; have bk22_f := fun i => blk_frozen BK22.out i; have bk23_f := fun i => blk_frozen BK23.out i))
      rename World => w6
      go_cut [9, 10, 16, 17, 18, 19, 20, 21] (fun v9 v10 v16 v17 v18 v19 v20 v21 wx => ∃ (L2 D2 : List S65) (g2 last2 : Int) (bb : Bool) (er : Int) (ts : List Int) (q : S65) (AL2 : Option Addr) (cL2 : Nat) (AD2 : Option Addr) (cD2 : Nat) (RL2 : Option Addr) (rL2 : Nat) (RD2 : Option Addr) (rD2 : Nat) (AX : Option Addr) (cX : Nat) (AY : Option Addr) (cY : Nat), v9 = .int .u64 last2 ∧ v10 = .int .u64 last2 ∧ v16 = .bool bb ∧ v17 = .bool bb ∧ v18 = .int .i64 er ∧ v19 = .int .i64 er ∧ v20 = .slice AX ts.length cX ∧ v21 = .slice AY ts.length cY ∧ Aside0 (InvT (i + 1) L2 D2 g2) ∧ Aside0 (ts.length ≤ 1000) ∧ Aside0 (wx.heap[gb7]? = some (.cells #[.slice AL2 L2.length cL2, .slice AD2 D2.length cD2, .int .i64 g2] 58 (0, 0))) ∧ Aside0 (wx.heap[gb8]? = some (.cells #[.slice RL2 L2.length rL2, .slice RD2 D2.length rD2, .int .i64 g2] 58 (0, 0))) ∧ Aside0 (wx.heap[gb12]? = some (.cells #[.int .u8 o.f0, .int .i64 o.f1, .int .i64 o.f2, .int .i64 o.f3, .int .u64 o.f4, .int .i64 o.f5] 61 (0, 0))) ∧ Aside0 (wx.heap[gb13]? = some (.cells #[.slice RL L.length rL, .slice RD D.length rD, .int .i64 g] 58 (0, 0))) ∧ Aside0 (wx.heap[gb14]? = some (.cells #[.slice AK L.length cK, .slice AM D.length cM, .int .i64 g] 58 (0, 0))) ∧ Aside0 (wx.heap[gb15]? = some (.cells #[.slice AL L.length cL, .slice AD D.length cD, .int .i64 g] 58 (0, 0))) ∧ Aside0 (wx.heap[gb22]? = some (.cells #[.int .i64 q.f0, .int .i64 q.f1, .int .u64 q.f2, .int .u64 q.f3, .int .u8 q.f4, .int .i64 q.f5] 65 (0, 0))) ∧ Aside0 (wx.heap[gb23]? = some (.cells #[.int .i64 q.f0, .int .i64 q.f1, .int .u64 q.f2, .int .u64 q.f3, .int .u8 q.f4, .int .i64 q.f5] 65 (0, 0))) ∧ Aside0 (Kd.R k65 65 wx w.heap.size (fun _ => True) (.slice AL2 L2.length cL2) L2) ∧ Aside0 (Kd.R k65 65 wx w.heap.size (fun _ => True) (.slice AD2 D2.length cD2) D2) ∧ Aside0 (Kd.R k65 65 wx w.heap.size (fun _ => True) (.slice RL2 L2.length rL2) L2) ∧ Aside0 (Kd.R k65 65 wx w.heap.size (fun _ => True) (.slice RD2 D2.length rD2) D2) ∧ Aside0 (Kd.R (Kd.int .i64) 3 wx w.heap.size (fun _ => True) (.slice AX ts.length cX) ts) ∧ Aside0 (Kd.R (Kd.int .i64) 3 wx w.heap.size (fun _ => True) (.slice AY ts.length cY) ts) ∧ Aside0 (Kd.R k65 65 wx w.heap.size (fun _ => True) (.slice AL L.length cL) L) ∧ Aside0 (Kd.R k65 65 wx w.heap.size (fun _ => True) (.slice AD D.length cD) D) ∧ Aside0 (Kd.R k65 65 wx w.heap.size (fun _ => True) (.slice RL L.length rL) L) ∧ Aside0 (Kd.R k65 65 wx w.heap.size (fun _ => True) (.slice RD D.length rD) D) ∧ Aside0 (Kd.R k65 65 wx w.heap.size (fun _ => True) (.slice AK L.length cK) L) ∧ Aside0 (Kd.R k65 65 wx w.heap.size (fun _ => True) (.slice AM D.length cM) D) ∧ Aside0 (Below w.heap.size w wx))
      case first =>
        obtain ⟨jb, hjb⟩ : ∃ jb, decide (o.f0 = 0 ∨ o.f0 = 1 ∨ o.f0 = 2) = jb := ⟨_, rfl⟩
        have HJB := Aside0.mk hjb
        clear hjb
        obtain ⟨b0, hb0⟩ : ∃ b, (o.f0 == 0) = b := ⟨_, rfl⟩
        have HB0 := Aside0.mk hb0
        go_upto_if 69 with (fail)
        clear hb0
        go_cut [69] (fun v69 wx => v69 = .bool jb ∧ w6 = wx)
        case first =>
          as_aux_lemma =>
            cases b0
            case true =>
              have c0 : o.f0 = 0 := beq_iff_eq.1 HB0.out
              have ej : true = jb := by rw [← HJB.out]; exact (decide_eq_true (by omega)).symm
              subst ej
              clear c0
              go_wp2
              go_meet
              case rel => exact ⟨rfl, rfl⟩
            case false =>
              have c0 : o.f0 ≠ 0 := fun e => by have := HB0.out; rw [e] at this; cases this
              by_cases c1 : o.f0 = 1
              · have t1 : (o.f0 == 1) = true := beq_iff_eq.2 c1
                have ej : true = jb := by rw [← HJB.out]; exact (decide_eq_true (by omega)).symm
                subst ej
                clear c1
                go_wp2
                go_meet
                case rel => exact ⟨rfl, rfl⟩
              have t1 : (o.f0 == 1) = false := beq_false_of_ne c1
              by_cases c2 : o.f0 = 2
              · have t2 : (o.f0 == 2) = true := beq_iff_eq.2 c2
                have ej : true = jb := by rw [← HJB.out]; exact (decide_eq_true (by omega)).symm
                subst ej
                clear c2
                go_wp2
                go_meet
                case rel => exact ⟨rfl, rfl⟩
              have t2 : (o.f0 == 2) = false := beq_false_of_ne c2
              have ej : false = jb := by rw [← HJB.out]; exact (decide_eq_false (by omega)).symm
              subst ej
              clear c0 c1 c2
              go_wp2
              go_meet
              case rel => exact ⟨rfl, rfl⟩
        case rest =>
        obtain ⟨rfl, rfl⟩ := hcut
        cases jb
        case false =>
          by_cases c3 : o.f0 = 3
          · have t3 : (o.f0 == 3) = true := beq_iff_eq.2 c3
            clear c3
            as_aux_lemma =>
              have hL : L.length ≤ 1000 := by have := HI.out.len; omega
              have hD : D.length ≤ 1000 := by have := HI.out.len; omega
              obtain ⟨L2, hl2j⟩ : ∃ L2, (giveR L g o.f3 last).1 = L2 := ⟨_, rfl⟩
              obtain ⟨g2, hg2j⟩ : ∃ b, (giveR L g o.f3 last).2.1 = b := ⟨_, rfl⟩
              obtain ⟨la2, hlaj⟩ : ∃ e, (giveR L g o.f3 last).2.2 = e := ⟨_, rfl⟩
              have HLE : Aside0 (L2.length = L.length) := ⟨by rw [← hl2j]; exact giveR_len _ _ _ _⟩
              have E0 := Aside0.mk hl2j
              have E1 := Aside0.mk hg2j
              have E2 := Aside0.mk hlaj
              have INV : Aside0 (InvT (i + 1) L2 D g2) := ⟨by rw [← hl2j, ← hg2j]; exact invT_give HI.out _ _⟩
              clear hl2j hg2j hlaj
              go_upto_region 23 with (first | (go_at_call 44; have hwb := below_size HB.out; (with_reducible refine (pGive_at _ _ L _ _ D g o.f3 last _ (Kd.R_reads' HO0.out).2.2 (Kd.R_reads' HO0.out).2.1 (Kd.R_reads' HO1.out).2.2 (Kd.R_reads' HO1.out).2.1 hL hD HI.out.g0).mono ?_); rintro e w5 ⟨AL2, cL2, AD2, cD2, rfl, h0, h1, hb⟩; rw [E0.out, ← HLE.out] at h0; rw [E1.out, E2.out, show (.slice AL2 L.length cL2 : Value) = .slice AL2 L2.length cL2 by rw [HLE.out]]; clear bk7_0 bk7_1 bk7_2 bk7_f bk8_0 bk8_1 bk8_2 bk8_f bk12_0 bk12_1 bk12_2 bk12_3 bk12_4 bk12_5 bk12_f bk13_0 bk13_1 bk13_2 bk13_f bk14_0 bk14_1 bk14_2 bk14_f bk15_0 bk15_1 bk15_2 bk15_f bk22_0 bk22_1 bk22_2 bk22_3 bk22_4 bk22_5 bk22_f bk23_0 bk23_1 bk23_2 bk23_3 bk23_4 bk23_5 bk23_f; replace BK7 := Aside0.mk (blk_below BK7.out hb); replace BK8 := Aside0.mk (blk_below BK8.out hb); replace BK12 := Aside0.mk (blk_below BK12.out hb); replace BK13 := Aside0.mk (blk_below BK13.out hb); replace BK14 := Aside0.mk (blk_below BK14.out hb); replace BK15 := Aside0.mk (blk_below BK15.out hb); replace BK22 := Aside0.mk (blk_below BK22.out hb); replace BK23 := Aside0.mk (blk_below BK23.out hb); replace HO0 := Aside0.mk (Kd.R_below HO0.out hb); replace HO1 := Aside0.mk (Kd.R_below HO1.out hb); replace HP0 := Aside0.mk (Kd.R_below HP0.out hb); replace HP1 := Aside0.mk (Kd.R_below HP1.out hb); replace HK0 := Aside0.mk (Kd.R_below HK0.out hb); replace HK1 := Aside0.mk (Kd.R_below HK1.out hb); have HN0 := Aside0.mk (Kd.R_lower h0 hwb); have HN1 := Aside0.mk (Kd.R_lower h1 hwb); replace HB := Aside0.mk (below_step HB.out hb); have bk7_0 := blk_c BK7.out 0 rfl; have bk7_1 := blk_c BK7.out 1 rfl; have bk7_2 := blk_c BK7.out 2 rfl; have bk8_0 := blk_c BK8.out 0 rfl; have bk8_1 := blk_c BK8.out 1 rfl; have bk8_2 := blk_c BK8.out 2 rfl; have bk12_0 := blk_c BK12.out 0 rfl; have bk12_1 := blk_c BK12.out 1 rfl; have bk12_2 := blk_c BK12.out 2 rfl; have bk12_3 := blk_c BK12.out 3 rfl; have bk12_4 := blk_c BK12.out 4 rfl; have bk12_5 := blk_c BK12.out 5 rfl; have bk13_0 := blk_c BK13.out 0 rfl; have bk13_1 := blk_c BK13.out 1 rfl; have bk13_2 := blk_c BK13.out 2 rfl; have bk14_0 := blk_c BK14.out 0 rfl; have bk14_1 := blk_c BK14.out 1 rfl; have bk14_2 := blk_c BK14.out 2 rfl; have bk15_0 := blk_c BK15.out 0 rfl; have bk15_1 := blk_c BK15.out 1 rfl; have bk15_2 := blk_c BK15.out 2 rfl; have bk22_0 := blk_c BK22.out 0 rfl; have bk22_1 := blk_c BK22.out 1 rfl; have bk22_2 := blk_c BK22.out 2 rfl; have bk22_3 := blk_c BK22.out 3 rfl; have bk22_4 := blk_c BK22.out 4 rfl; have bk22_5 := blk_c BK22.out 5 rfl; have bk23_0 := blk_c BK23.out 0 rfl; have bk23_1 := blk_c BK23.out 1 rfl; have bk23_2 := blk_c BK23.out 2 rfl; have bk23_3 := blk_c BK23.out 3 rfl; have bk23_4 := blk_c BK23.out 4 rfl; have bk23_5 := blk_c BK23.out 5 rfl; have bk7_f := fun i => blk_frozen BK7.out i; have bk8_f := fun i => blk_frozen BK8.out i; have bk12_f := fun i => blk_frozen BK12.out i; have bk13_f := fun i => blk_frozen BK13.out i; have bk14_f := fun i => blk_frozen BK14.out i; have bk15_f := fun i => blk_frozen BK15.out i; have bk22_f := fun i => blk_frozen BK22.out i; have bk23_f := fun i => blk_frozen BK23.out i; clear h0 h1 hb hwb))
              clear bk7_0 bk7_1 bk7_2 bk7_f bk8_0 bk8_1 bk8_2 bk8_f bk12_0 bk12_1 bk12_2 bk12_3 bk12_4 bk12_5 bk12_f bk13_0 bk13_1 bk13_2 bk13_f bk14_0 bk14_1 bk14_2 bk14_f bk15_0 bk15_1 bk15_2 bk15_f bk22_0 bk22_1 bk22_2 bk22_3 bk22_4 bk22_5 bk22_f bk23_0 bk23_1 bk23_2 bk23_3 bk23_4 bk23_5 bk23_f
              have s0_HO0 := far_set3 HO0.out (blk_rowG BK7.out HO0.out (by decide)) (.slice AL2 L2.length cL2) (.slice AD2 D.length cD2) (.int .i64 g2)
              have s0_HO1 := far_set3 HO1.out (blk_rowG BK7.out HO1.out (by decide)) (.slice AL2 L2.length cL2) (.slice AD2 D.length cD2) (.int .i64 g2)
              have s0_HP0 := far_set3 HP0.out (blk_rowG BK7.out HP0.out (by decide)) (.slice AL2 L2.length cL2) (.slice AD2 D.length cD2) (.int .i64 g2)
              have s0_HP1 := far_set3 HP1.out (blk_rowG BK7.out HP1.out (by decide)) (.slice AL2 L2.length cL2) (.slice AD2 D.length cD2) (.int .i64 g2)
              have s0_HK0 := far_set3 HK0.out (blk_rowG BK7.out HK0.out (by decide)) (.slice AL2 L2.length cL2) (.slice AD2 D.length cD2) (.int .i64 g2)
              have s0_HK1 := far_set3 HK1.out (blk_rowG BK7.out HK1.out (by decide)) (.slice AL2 L2.length cL2) (.slice AD2 D.length cD2) (.int .i64 g2)
              have s0_HN0 := far_set3 HN0.out (blk_rowG BK7.out HN0.out (by decide)) (.slice AL2 L2.length cL2) (.slice AD2 D.length cD2) (.int .i64 g2)
              have s0_HN1 := far_set3 HN1.out (blk_rowG BK7.out HN1.out (by decide)) (.slice AL2 L2.length cL2) (.slice AD2 D.length cD2) (.int .i64 g2)
              have s0_BK7 := blk_put3 BK7.out (.slice AL2 L2.length cL2) (.slice AD2 D.length cD2) (.int .i64 g2)
              have s0_BK8 := blk_far3 BK8.out (Ne.symm NE_gb7_gb8.out) (.slice AL2 L2.length cL2) (.slice AD2 D.length cD2) (.int .i64 g2)
              have s0_BK12 := blk_far3 BK12.out (Ne.symm NE_gb7_gb12.out) (.slice AL2 L2.length cL2) (.slice AD2 D.length cD2) (.int .i64 g2)
              have s0_BK13 := blk_far3 BK13.out (Ne.symm NE_gb7_gb13.out) (.slice AL2 L2.length cL2) (.slice AD2 D.length cD2) (.int .i64 g2)
              have s0_BK14 := blk_far3 BK14.out (Ne.symm NE_gb7_gb14.out) (.slice AL2 L2.length cL2) (.slice AD2 D.length cD2) (.int .i64 g2)
              have s0_BK15 := blk_far3 BK15.out (Ne.symm NE_gb7_gb15.out) (.slice AL2 L2.length cL2) (.slice AD2 D.length cD2) (.int .i64 g2)
              have s0_BK22 := blk_far3 BK22.out (Ne.symm NE_gb7_gb22.out) (.slice AL2 L2.length cL2) (.slice AD2 D.length cD2) (.int .i64 g2)
              have s0_BK23 := blk_far3 BK23.out (Ne.symm NE_gb7_gb23.out) (.slice AL2 L2.length cL2) (.slice AD2 D.length cD2) (.int .i64 g2)
              have s0_HB := below_set3 HB.out GE_gb7.out (.slice AL2 L2.length cL2) (.slice AD2 D.length cD2) (.int .i64 g2)
              have n_BK7 := Aside0.mk s0_BK7
              have n_BK8 := Aside0.mk s0_BK8
              have n_BK12 := Aside0.mk s0_BK12
              have n_BK13 := Aside0.mk s0_BK13
              have n_BK14 := Aside0.mk s0_BK14
              have n_BK15 := Aside0.mk s0_BK15
              have n_BK22 := Aside0.mk s0_BK22
              have n_BK23 := Aside0.mk s0_BK23
              have n_HO0 := Aside0.mk s0_HO0
              have n_HO1 := Aside0.mk s0_HO1
              have n_HP0 := Aside0.mk s0_HP0
              have n_HP1 := Aside0.mk s0_HP1
              have n_HK0 := Aside0.mk s0_HK0
              have n_HK1 := Aside0.mk s0_HK1
              have n_HN0 := Aside0.mk s0_HN0
              have n_HN1 := Aside0.mk s0_HN1
              have n_HB := Aside0.mk s0_HB
              clear s0_BK7 s0_BK8 s0_BK12 s0_BK13 s0_BK14 s0_BK15 s0_BK22 s0_BK23 s0_HO0 s0_HO1 s0_HP0 s0_HP1 s0_HK0 s0_HK1 s0_HN0 s0_HN1 s0_HB
              clear BK7 BK8 BK12 BK13 BK14 BK15 BK22 BK23 HO0 HO1 HP0 HP1 HK0 HK1 HN0 HN1 HB
              generalize (((w5.setCell ⟨gb7, 0, none⟩ (.slice AL2 L2.length cL2)).setCell ⟨gb7, 1, none⟩ (.slice AD2 D.length cD2)).setCell ⟨gb7, 2, none⟩ (.int .i64 g2)) = w6 at n_BK7 n_BK8 n_BK12 n_BK13 n_BK14 n_BK15 n_BK22 n_BK23 n_HO0 n_HO1 n_HP0 n_HP1 n_HK0 n_HK1 n_HN0 n_HN1 n_HB ⊢
              have BK7 := n_BK7
              have BK8 := n_BK8
              have BK12 := n_BK12
              have BK13 := n_BK13
              have BK14 := n_BK14
              have BK15 := n_BK15
              have BK22 := n_BK22
              have BK23 := n_BK23
              have HO0 := n_HO0
              have HO1 := n_HO1
              have HP0 := n_HP0
              have HP1 := n_HP1
              have HK0 := n_HK0
              have HK1 := n_HK1
              have HN0 := n_HN0
              have HN1 := n_HN1
              have HB := n_HB
              clear n_BK7 n_BK8 n_BK12 n_BK13 n_BK14 n_BK15 n_BK22 n_BK23 n_HO0 n_HO1 n_HP0 n_HP1 n_HK0 n_HK1 n_HN0 n_HN1 n_HB
              have bk7_0 := blk_c BK7.out 0 rfl; have bk7_1 := blk_c BK7.out 1 rfl; have bk7_2 := blk_c BK7.out 2 rfl; have bk8_0 := blk_c BK8.out 0 rfl; have bk8_1 := blk_c BK8.out 1 rfl; have bk8_2 := blk_c BK8.out 2 rfl; have bk12_0 := blk_c BK12.out 0 rfl; have bk12_1 := blk_c BK12.out 1 rfl; have bk12_2 := blk_c BK12.out 2 rfl; have bk12_3 := blk_c BK12.out 3 rfl; have bk12_4 := blk_c BK12.out 4 rfl; have bk12_5 := blk_c BK12.out 5 rfl; have bk13_0 := blk_c BK13.out 0 rfl; have bk13_1 := blk_c BK13.out 1 rfl; have bk13_2 := blk_c BK13.out 2 rfl; have bk14_0 := blk_c BK14.out 0 rfl; have bk14_1 := blk_c BK14.out 1 rfl; have bk14_2 := blk_c BK14.out 2 rfl; have bk15_0 := blk_c BK15.out 0 rfl; have bk15_1 := blk_c BK15.out 1 rfl; have bk15_2 := blk_c BK15.out 2 rfl; have bk22_0 := blk_c BK22.out 0 rfl; have bk22_1 := blk_c BK22.out 1 rfl; have bk22_2 := blk_c BK22.out 2 rfl; have bk22_3 := blk_c BK22.out 3 rfl; have bk22_4 := blk_c BK22.out 4 rfl; have bk22_5 := blk_c BK22.out 5 rfl; have bk23_0 := blk_c BK23.out 0 rfl; have bk23_1 := blk_c BK23.out 1 rfl; have bk23_2 := blk_c BK23.out 2 rfl; have bk23_3 := blk_c BK23.out 3 rfl; have bk23_4 := blk_c BK23.out 4 rfl; have bk23_5 := blk_c BK23.out 5 rfl; have bk7_f := fun i => blk_frozen BK7.out i; have bk8_f := fun i => blk_frozen BK8.out i; have bk12_f := fun i => blk_frozen BK12.out i; have bk13_f := fun i => blk_frozen BK13.out i; have bk14_f := fun i => blk_frozen BK14.out i; have bk15_f := fun i => blk_frozen BK15.out i; have bk22_f := fun i => blk_frozen BK22.out i; have bk23_f := fun i => blk_frozen BK23.out i
              go_wp2_with (first | (go_at_call 47; have hwb := below_size HB.out; (with_reducible refine (refGive_at _ _ L _ _ D w.heap.size g o.f3 last _ hwb HP0.out HP1.out hL).mono ?_); rintro e w5 ⟨RL2, rL2, rfl, h0, h1, hb⟩; rw [E0.out, ← HLE.out] at h0; rw [E1.out, E2.out, show (.slice RL2 L.length rL2 : Value) = .slice RL2 L2.length rL2 by rw [HLE.out]]; clear bk7_0 bk7_1 bk7_2 bk7_f bk8_0 bk8_1 bk8_2 bk8_f bk12_0 bk12_1 bk12_2 bk12_3 bk12_4 bk12_5 bk12_f bk13_0 bk13_1 bk13_2 bk13_f bk14_0 bk14_1 bk14_2 bk14_f bk15_0 bk15_1 bk15_2 bk15_f bk22_0 bk22_1 bk22_2 bk22_3 bk22_4 bk22_5 bk22_f bk23_0 bk23_1 bk23_2 bk23_3 bk23_4 bk23_5 bk23_f; replace BK7 := Aside0.mk (blk_below BK7.out hb); replace BK8 := Aside0.mk (blk_below BK8.out hb); replace BK12 := Aside0.mk (blk_below BK12.out hb); replace BK13 := Aside0.mk (blk_below BK13.out hb); replace BK14 := Aside0.mk (blk_below BK14.out hb); replace BK15 := Aside0.mk (blk_below BK15.out hb); replace BK22 := Aside0.mk (blk_below BK22.out hb); replace BK23 := Aside0.mk (blk_below BK23.out hb); replace HO0 := Aside0.mk (Kd.R_below HO0.out hb); replace HO1 := Aside0.mk (Kd.R_below HO1.out hb); replace HP0 := Aside0.mk (Kd.R_below HP0.out hb); replace HP1 := Aside0.mk (Kd.R_below HP1.out hb); replace HK0 := Aside0.mk (Kd.R_below HK0.out hb); replace HK1 := Aside0.mk (Kd.R_below HK1.out hb); replace HN0 := Aside0.mk (Kd.R_below HN0.out hb); replace HN1 := Aside0.mk (Kd.R_below HN1.out hb); have HM0 := Aside0.mk (h0); have HM1 := Aside0.mk (h1); replace HB := Aside0.mk (below_step HB.out hb); have bk7_0 := blk_c BK7.out 0 rfl; have bk7_1 := blk_c BK7.out 1 rfl; have bk7_2 := blk_c BK7.out 2 rfl; have bk8_0 := blk_c BK8.out 0 rfl; have bk8_1 := blk_c BK8.out 1 rfl; have bk8_2 := blk_c BK8.out 2 rfl; have bk12_0 := blk_c BK12.out 0 rfl; have bk12_1 := blk_c BK12.out 1 rfl; have bk12_2 := blk_c BK12.out 2 rfl; have bk12_3 := blk_c BK12.out 3 rfl; have bk12_4 := blk_c BK12.out 4 rfl; have bk12_5 := blk_c BK12.out 5 rfl; have bk13_0 := blk_c BK13.out 0 rfl; have bk13_1 := blk_c BK13.out 1 rfl; have bk13_2 := blk_c BK13.out 2 rfl; have bk14_0 := blk_c BK14.out 0 rfl; have bk14_1 := blk_c BK14.out 1 rfl; have bk14_2 := blk_c BK14.out 2 rfl; have bk15_0 := blk_c BK15.out 0 rfl; have bk15_1 := blk_c BK15.out 1 rfl; have bk15_2 := blk_c BK15.out 2 rfl; have bk22_0 := blk_c BK22.out 0 rfl; have bk22_1 := blk_c BK22.out 1 rfl; have bk22_2 := blk_c BK22.out 2 rfl; have bk22_3 := blk_c BK22.out 3 rfl; have bk22_4 := blk_c BK22.out 4 rfl; have bk22_5 := blk_c BK22.out 5 rfl; have bk23_0 := blk_c BK23.out 0 rfl; have bk23_1 := blk_c BK23.out 1 rfl; have bk23_2 := blk_c BK23.out 2 rfl; have bk23_3 := blk_c BK23.out 3 rfl; have bk23_4 := blk_c BK23.out 4 rfl; have bk23_5 := blk_c BK23.out 5 rfl; have bk7_f := fun i => blk_frozen BK7.out i; have bk8_f := fun i => blk_frozen BK8.out i; have bk12_f := fun i => blk_frozen BK12.out i; have bk13_f := fun i => blk_frozen BK13.out i; have bk14_f := fun i => blk_frozen BK14.out i; have bk15_f := fun i => blk_frozen BK15.out i; have bk22_f := fun i => blk_frozen BK22.out i; have bk23_f := fun i => blk_frozen BK23.out i; clear h0 h1 hb hwb))
              go_meet
              case rel =>
                clear bk7_0 bk7_1 bk7_2 bk7_f bk8_0 bk8_1 bk8_2 bk8_f bk12_0 bk12_1 bk12_2 bk12_3 bk12_4 bk12_5 bk12_f bk13_0 bk13_1 bk13_2 bk13_f bk14_0 bk14_1 bk14_2 bk14_f bk15_0 bk15_1 bk15_2 bk15_f bk22_0 bk22_1 bk22_2 bk22_3 bk22_4 bk22_5 bk22_f bk23_0 bk23_1 bk23_2 bk23_3 bk23_4 bk23_5 bk23_f
                have s0_HO0 := far_set3 HO0.out (blk_rowG BK8.out HO0.out (by decide)) (.slice RL2 L2.length rL2) (.slice RD D.length rD) (.int .i64 g2)
                have s0_HO1 := far_set3 HO1.out (blk_rowG BK8.out HO1.out (by decide)) (.slice RL2 L2.length rL2) (.slice RD D.length rD) (.int .i64 g2)
                have s0_HP0 := far_set3 HP0.out (blk_rowG BK8.out HP0.out (by decide)) (.slice RL2 L2.length rL2) (.slice RD D.length rD) (.int .i64 g2)
                have s0_HP1 := far_set3 HP1.out (blk_rowG BK8.out HP1.out (by decide)) (.slice RL2 L2.length rL2) (.slice RD D.length rD) (.int .i64 g2)
                have s0_HK0 := far_set3 HK0.out (blk_rowG BK8.out HK0.out (by decide)) (.slice RL2 L2.length rL2) (.slice RD D.length rD) (.int .i64 g2)
                have s0_HK1 := far_set3 HK1.out (blk_rowG BK8.out HK1.out (by decide)) (.slice RL2 L2.length rL2) (.slice RD D.length rD) (.int .i64 g2)
                have s0_HN0 := far_set3 HN0.out (blk_rowG BK8.out HN0.out (by decide)) (.slice RL2 L2.length rL2) (.slice RD D.length rD) (.int .i64 g2)
                have s0_HN1 := far_set3 HN1.out (blk_rowG BK8.out HN1.out (by decide)) (.slice RL2 L2.length rL2) (.slice RD D.length rD) (.int .i64 g2)
                have s0_HM0 := far_set3 HM0.out (blk_rowG BK8.out HM0.out (by decide)) (.slice RL2 L2.length rL2) (.slice RD D.length rD) (.int .i64 g2)
                have s0_HM1 := far_set3 HM1.out (blk_rowG BK8.out HM1.out (by decide)) (.slice RL2 L2.length rL2) (.slice RD D.length rD) (.int .i64 g2)
                have s0_BK7 := blk_far3 BK7.out NE_gb7_gb8.out (.slice RL2 L2.length rL2) (.slice RD D.length rD) (.int .i64 g2)
                have s0_BK8 := blk_put3 BK8.out (.slice RL2 L2.length rL2) (.slice RD D.length rD) (.int .i64 g2)
                have s0_BK12 := blk_far3 BK12.out (Ne.symm NE_gb8_gb12.out) (.slice RL2 L2.length rL2) (.slice RD D.length rD) (.int .i64 g2)
                have s0_BK13 := blk_far3 BK13.out (Ne.symm NE_gb8_gb13.out) (.slice RL2 L2.length rL2) (.slice RD D.length rD) (.int .i64 g2)
                have s0_BK14 := blk_far3 BK14.out (Ne.symm NE_gb8_gb14.out) (.slice RL2 L2.length rL2) (.slice RD D.length rD) (.int .i64 g2)
                have s0_BK15 := blk_far3 BK15.out (Ne.symm NE_gb8_gb15.out) (.slice RL2 L2.length rL2) (.slice RD D.length rD) (.int .i64 g2)
                have s0_BK22 := blk_far3 BK22.out (Ne.symm NE_gb8_gb22.out) (.slice RL2 L2.length rL2) (.slice RD D.length rD) (.int .i64 g2)
                have s0_BK23 := blk_far3 BK23.out (Ne.symm NE_gb8_gb23.out) (.slice RL2 L2.length rL2) (.slice RD D.length rD) (.int .i64 g2)
                have s0_HB := below_set3 HB.out GE_gb8.out (.slice RL2 L2.length rL2) (.slice RD D.length rD) (.int .i64 g2)
                have n_BK7 := Aside0.mk s0_BK7
                have n_BK8 := Aside0.mk s0_BK8
                have n_BK12 := Aside0.mk s0_BK12
                have n_BK13 := Aside0.mk s0_BK13
                have n_BK14 := Aside0.mk s0_BK14
                have n_BK15 := Aside0.mk s0_BK15
                have n_BK22 := Aside0.mk s0_BK22
                have n_BK23 := Aside0.mk s0_BK23
                have n_HO0 := Aside0.mk s0_HO0
                have n_HO1 := Aside0.mk s0_HO1
                have n_HP0 := Aside0.mk s0_HP0
                have n_HP1 := Aside0.mk s0_HP1
                have n_HK0 := Aside0.mk s0_HK0
                have n_HK1 := Aside0.mk s0_HK1
                have n_HN0 := Aside0.mk s0_HN0
                have n_HN1 := Aside0.mk s0_HN1
                have n_HM0 := Aside0.mk s0_HM0
                have n_HM1 := Aside0.mk s0_HM1
                have n_HB := Aside0.mk s0_HB
                clear s0_BK7 s0_BK8 s0_BK12 s0_BK13 s0_BK14 s0_BK15 s0_BK22 s0_BK23 s0_HO0 s0_HO1 s0_HP0 s0_HP1 s0_HK0 s0_HK1 s0_HN0 s0_HN1 s0_HM0 s0_HM1 s0_HB
                clear BK7 BK8 BK12 BK13 BK14 BK15 BK22 BK23 HO0 HO1 HP0 HP1 HK0 HK1 HN0 HN1 HM0 HM1 HB
                generalize (((w5.setCell ⟨gb8, 0, none⟩ (.slice RL2 L2.length rL2)).setCell ⟨gb8, 1, none⟩ (.slice RD D.length rD)).setCell ⟨gb8, 2, none⟩ (.int .i64 g2)) = w7 at n_BK7 n_BK8 n_BK12 n_BK13 n_BK14 n_BK15 n_BK22 n_BK23 n_HO0 n_HO1 n_HP0 n_HP1 n_HK0 n_HK1 n_HN0 n_HN1 n_HM0 n_HM1 n_HB ⊢
                have BK7 := n_BK7
                have BK8 := n_BK8
                have BK12 := n_BK12
                have BK13 := n_BK13
                have BK14 := n_BK14
                have BK15 := n_BK15
                have BK22 := n_BK22
                have BK23 := n_BK23
                have HO0 := n_HO0
                have HO1 := n_HO1
                have HP0 := n_HP0
                have HP1 := n_HP1
                have HK0 := n_HK0
                have HK1 := n_HK1
                have HN0 := n_HN0
                have HN1 := n_HN1
                have HM0 := n_HM0
                have HM1 := n_HM1
                have HB := n_HB
                clear n_BK7 n_BK8 n_BK12 n_BK13 n_BK14 n_BK15 n_BK22 n_BK23 n_HO0 n_HO1 n_HP0 n_HP1 n_HK0 n_HK1 n_HN0 n_HN1 n_HM0 n_HM1 n_HB
                have bk7_0 := blk_c BK7.out 0 rfl; have bk7_1 := blk_c BK7.out 1 rfl; have bk7_2 := blk_c BK7.out 2 rfl; have bk8_0 := blk_c BK8.out 0 rfl; have bk8_1 := blk_c BK8.out 1 rfl; have bk8_2 := blk_c BK8.out 2 rfl; have bk12_0 := blk_c BK12.out 0 rfl; have bk12_1 := blk_c BK12.out 1 rfl; have bk12_2 := blk_c BK12.out 2 rfl; have bk12_3 := blk_c BK12.out 3 rfl; have bk12_4 := blk_c BK12.out 4 rfl; have bk12_5 := blk_c BK12.out 5 rfl; have bk13_0 := blk_c BK13.out 0 rfl; have bk13_1 := blk_c BK13.out 1 rfl; have bk13_2 := blk_c BK13.out 2 rfl; have bk14_0 := blk_c BK14.out 0 rfl; have bk14_1 := blk_c BK14.out 1 rfl; have bk14_2 := blk_c BK14.out 2 rfl; have bk15_0 := blk_c BK15.out 0 rfl; have bk15_1 := blk_c BK15.out 1 rfl; have bk15_2 := blk_c BK15.out 2 rfl; have bk22_0 := blk_c BK22.out 0 rfl; have bk22_1 := blk_c BK22.out 1 rfl; have bk22_2 := blk_c BK22.out 2 rfl; have bk22_3 := blk_c BK22.out 3 rfl; have bk22_4 := blk_c BK22.out 4 rfl; have bk22_5 := blk_c BK22.out 5 rfl; have bk23_0 := blk_c BK23.out 0 rfl; have bk23_1 := blk_c BK23.out 1 rfl; have bk23_2 := blk_c BK23.out 2 rfl; have bk23_3 := blk_c BK23.out 3 rfl; have bk23_4 := blk_c BK23.out 4 rfl; have bk23_5 := blk_c BK23.out 5 rfl; have bk7_f := fun i => blk_frozen BK7.out i; have bk8_f := fun i => blk_frozen BK8.out i; have bk12_f := fun i => blk_frozen BK12.out i; have bk13_f := fun i => blk_frozen BK13.out i; have bk14_f := fun i => blk_frozen BK14.out i; have bk15_f := fun i => blk_frozen BK15.out i; have bk22_f := fun i => blk_frozen BK22.out i; have bk23_f := fun i => blk_frozen BK23.out i
                exact ⟨L2, D, g2, la2, false, 0, [], ⟨0, 0, 0, 0, 0, 0⟩, AL2, cL2, AD2, cD2, RL2, rL2, RD, rD, none, 0, none, 0, rfl, rfl, rfl, rfl, rfl, rfl, rfl, rfl, INV, ⟨by simp⟩, BK7, BK8, BK12, BK13, BK14, BK15, BK22, BK23, HN0, HN1, HM0, HM1, ⟨Kd.R_nil _ _ _ _ _⟩, ⟨Kd.R_nil _ _ _ _ _⟩, HO0, HO1, HP0, HP1, HK0, HK1, HB⟩
          have t3 : (o.f0 == 3) = false := beq_false_of_ne c3
          clear c3
          by_cases c4 : o.f0 = 4
          · have t4 : (o.f0 == 4) = true := beq_iff_eq.2 c4
            clear c4
            as_aux_lemma =>
              have hL : L.length ≤ 1000 := by have := HI.out.len; omega
              have hD : D.length ≤ 1000 := by have := HI.out.len; omega
              obtain ⟨L2, hl2j⟩ : ∃ L2, updN sayApply g.toNat L = L2 := ⟨_, rfl⟩
              obtain ⟨ts, htsj⟩ : ∃ b, (L.take g.toNat).map S65.f0 = b := ⟨_, rfl⟩
              have HLE : Aside0 (L2.length = L.length) := ⟨by rw [← hl2j]; exact updN_len _ _ _⟩
              have E0 := Aside0.mk hl2j
              have E1 := Aside0.mk htsj
              have HTL : Aside0 (ts.length ≤ 1000) := ⟨by rw [← htsj, List.length_map, List.length_take]; omega⟩
              have INV : Aside0 (InvT (i + 1) L2 D g) := ⟨by rw [← hl2j]; exact invT_apply HI.out⟩
              clear hl2j htsj
              go_upto_region 26 with (first | (go_at_call 48; have hwb := below_size HB.out; (with_reducible refine (pApply_at _ _ L _ _ D g _ (Kd.R_reads' HO0.out).2.2 (Kd.R_reads' HO0.out).2.1 (Kd.R_reads' HO1.out).2.2 (Kd.R_reads' HO1.out).2.1 hL hD HI.out.g0 HI.out.g1).mono ?_); rintro e w5 ⟨AL2, cL2, AD2, cD2, AX, cX, rfl, h0, h1, h2, hb⟩; rw [E0.out, ← HLE.out] at h0; rw [E1.out] at h2; rw [E1.out, show (.slice AL2 L.length cL2 : Value) = .slice AL2 L2.length cL2 by rw [HLE.out]]; clear bk7_0 bk7_1 bk7_2 bk7_f bk8_0 bk8_1 bk8_2 bk8_f bk12_0 bk12_1 bk12_2 bk12_3 bk12_4 bk12_5 bk12_f bk13_0 bk13_1 bk13_2 bk13_f bk14_0 bk14_1 bk14_2 bk14_f bk15_0 bk15_1 bk15_2 bk15_f bk22_0 bk22_1 bk22_2 bk22_3 bk22_4 bk22_5 bk22_f bk23_0 bk23_1 bk23_2 bk23_3 bk23_4 bk23_5 bk23_f; replace BK7 := Aside0.mk (blk_below BK7.out hb); replace BK8 := Aside0.mk (blk_below BK8.out hb); replace BK12 := Aside0.mk (blk_below BK12.out hb); replace BK13 := Aside0.mk (blk_below BK13.out hb); replace BK14 := Aside0.mk (blk_below BK14.out hb); replace BK15 := Aside0.mk (blk_below BK15.out hb); replace BK22 := Aside0.mk (blk_below BK22.out hb); replace BK23 := Aside0.mk (blk_below BK23.out hb); replace HO0 := Aside0.mk (Kd.R_below HO0.out hb); replace HO1 := Aside0.mk (Kd.R_below HO1.out hb); replace HP0 := Aside0.mk (Kd.R_below HP0.out hb); replace HP1 := Aside0.mk (Kd.R_below HP1.out hb); replace HK0 := Aside0.mk (Kd.R_below HK0.out hb); replace HK1 := Aside0.mk (Kd.R_below HK1.out hb); have HN0 := Aside0.mk (Kd.R_lower h0 hwb); have HN1 := Aside0.mk (Kd.R_lower h1 hwb); have HX := Aside0.mk (Kd.R_lower h2 hwb); replace HB := Aside0.mk (below_step HB.out hb); have bk7_0 := blk_c BK7.out 0 rfl; have bk7_1 := blk_c BK7.out 1 rfl; have bk7_2 := blk_c BK7.out 2 rfl; have bk8_0 := blk_c BK8.out 0 rfl; have bk8_1 := blk_c BK8.out 1 rfl; have bk8_2 := blk_c BK8.out 2 rfl; have bk12_0 := blk_c BK12.out 0 rfl; have bk12_1 := blk_c BK12.out 1 rfl; have bk12_2 := blk_c BK12.out 2 rfl; have bk12_3 := blk_c BK12.out 3 rfl; have bk12_4 := blk_c BK12.out 4 rfl; have bk12_5 := blk_c BK12.out 5 rfl; have bk13_0 := blk_c BK13.out 0 rfl; have bk13_1 := blk_c BK13.out 1 rfl; have bk13_2 := blk_c BK13.out 2 rfl; have bk14_0 := blk_c BK14.out 0 rfl; have bk14_1 := blk_c BK14.out 1 rfl; have bk14_2 := blk_c BK14.out 2 rfl; have bk15_0 := blk_c BK15.out 0 rfl; have bk15_1 := blk_c BK15.out 1 rfl; have bk15_2 := blk_c BK15.out 2 rfl; have bk22_0 := blk_c BK22.out 0 rfl; have bk22_1 := blk_c BK22.out 1 rfl; have bk22_2 := blk_c BK22.out 2 rfl; have bk22_3 := blk_c BK22.out 3 rfl; have bk22_4 := blk_c BK22.out 4 rfl; have bk22_5 := blk_c BK22.out 5 rfl; have bk23_0 := blk_c BK23.out 0 rfl; have bk23_1 := blk_c BK23.out 1 rfl; have bk23_2 := blk_c BK23.out 2 rfl; have bk23_3 := blk_c BK23.out 3 rfl; have bk23_4 := blk_c BK23.out 4 rfl; have bk23_5 := blk_c BK23.out 5 rfl; have bk7_f := fun i => blk_frozen BK7.out i; have bk8_f := fun i => blk_frozen BK8.out i; have bk12_f := fun i => blk_frozen BK12.out i; have bk13_f := fun i => blk_frozen BK13.out i; have bk14_f := fun i => blk_frozen BK14.out i; have bk15_f := fun i => blk_frozen BK15.out i; have bk22_f := fun i => blk_frozen BK22.out i; have bk23_f := fun i => blk_frozen BK23.out i; clear h0 h1 h2 hb hwb))
              clear bk7_0 bk7_1 bk7_2 bk7_f bk8_0 bk8_1 bk8_2 bk8_f bk12_0 bk12_1 bk12_2 bk12_3 bk12_4 bk12_5 bk12_f bk13_0 bk13_1 bk13_2 bk13_f bk14_0 bk14_1 bk14_2 bk14_f bk15_0 bk15_1 bk15_2 bk15_f bk22_0 bk22_1 bk22_2 bk22_3 bk22_4 bk22_5 bk22_f bk23_0 bk23_1 bk23_2 bk23_3 bk23_4 bk23_5 bk23_f
              have s0_HO0 := far_set3 HO0.out (blk_rowG BK7.out HO0.out (by decide)) (.slice AL2 L2.length cL2) (.slice AD2 D.length cD2) (.int .i64 g)
              have s0_HO1 := far_set3 HO1.out (blk_rowG BK7.out HO1.out (by decide)) (.slice AL2 L2.length cL2) (.slice AD2 D.length cD2) (.int .i64 g)
              have s0_HP0 := far_set3 HP0.out (blk_rowG BK7.out HP0.out (by decide)) (.slice AL2 L2.length cL2) (.slice AD2 D.length cD2) (.int .i64 g)
              have s0_HP1 := far_set3 HP1.out (blk_rowG BK7.out HP1.out (by decide)) (.slice AL2 L2.length cL2) (.slice AD2 D.length cD2) (.int .i64 g)
              have s0_HK0 := far_set3 HK0.out (blk_rowG BK7.out HK0.out (by decide)) (.slice AL2 L2.length cL2) (.slice AD2 D.length cD2) (.int .i64 g)
              have s0_HK1 := far_set3 HK1.out (blk_rowG BK7.out HK1.out (by decide)) (.slice AL2 L2.length cL2) (.slice AD2 D.length cD2) (.int .i64 g)
              have s0_HN0 := far_set3 HN0.out (blk_rowG BK7.out HN0.out (by decide)) (.slice AL2 L2.length cL2) (.slice AD2 D.length cD2) (.int .i64 g)
              have s0_HN1 := far_set3 HN1.out (blk_rowG BK7.out HN1.out (by decide)) (.slice AL2 L2.length cL2) (.slice AD2 D.length cD2) (.int .i64 g)
              have s0_HX := far_int3 HX.out (blk_rowG BK7.out HX.out (by decide)) (.slice AL2 L2.length cL2) (.slice AD2 D.length cD2) (.int .i64 g)
              have s0_BK7 := blk_put3 BK7.out (.slice AL2 L2.length cL2) (.slice AD2 D.length cD2) (.int .i64 g)
              have s0_BK8 := blk_far3 BK8.out (Ne.symm NE_gb7_gb8.out) (.slice AL2 L2.length cL2) (.slice AD2 D.length cD2) (.int .i64 g)
              have s0_BK12 := blk_far3 BK12.out (Ne.symm NE_gb7_gb12.out) (.slice AL2 L2.length cL2) (.slice AD2 D.length cD2) (.int .i64 g)
              have s0_BK13 := blk_far3 BK13.out (Ne.symm NE_gb7_gb13.out) (.slice AL2 L2.length cL2) (.slice AD2 D.length cD2) (.int .i64 g)
              have s0_BK14 := blk_far3 BK14.out (Ne.symm NE_gb7_gb14.out) (.slice AL2 L2.length cL2) (.slice AD2 D.length cD2) (.int .i64 g)
              have s0_BK15 := blk_far3 BK15.out (Ne.symm NE_gb7_gb15.out) (.slice AL2 L2.length cL2) (.slice AD2 D.length cD2) (.int .i64 g)
              have s0_BK22 := blk_far3 BK22.out (Ne.symm NE_gb7_gb22.out) (.slice AL2 L2.length cL2) (.slice AD2 D.length cD2) (.int .i64 g)
              have s0_BK23 := blk_far3 BK23.out (Ne.symm NE_gb7_gb23.out) (.slice AL2 L2.length cL2) (.slice AD2 D.length cD2) (.int .i64 g)
              have s0_HB := below_set3 HB.out GE_gb7.out (.slice AL2 L2.length cL2) (.slice AD2 D.length cD2) (.int .i64 g)
              have n_BK7 := Aside0.mk s0_BK7
              have n_BK8 := Aside0.mk s0_BK8
              have n_BK12 := Aside0.mk s0_BK12
              have n_BK13 := Aside0.mk s0_BK13
              have n_BK14 := Aside0.mk s0_BK14
              have n_BK15 := Aside0.mk s0_BK15
              have n_BK22 := Aside0.mk s0_BK22
              have n_BK23 := Aside0.mk s0_BK23
              have n_HO0 := Aside0.mk s0_HO0
              have n_HO1 := Aside0.mk s0_HO1
              have n_HP0 := Aside0.mk s0_HP0
              have n_HP1 := Aside0.mk s0_HP1
              have n_HK0 := Aside0.mk s0_HK0
              have n_HK1 := Aside0.mk s0_HK1
              have n_HN0 := Aside0.mk s0_HN0
              have n_HN1 := Aside0.mk s0_HN1
              have n_HX := Aside0.mk s0_HX
              have n_HB := Aside0.mk s0_HB
              clear s0_BK7 s0_BK8 s0_BK12 s0_BK13 s0_BK14 s0_BK15 s0_BK22 s0_BK23 s0_HO0 s0_HO1 s0_HP0 s0_HP1 s0_HK0 s0_HK1 s0_HN0 s0_HN1 s0_HX s0_HB
              clear BK7 BK8 BK12 BK13 BK14 BK15 BK22 BK23 HO0 HO1 HP0 HP1 HK0 HK1 HN0 HN1 HX HB
              generalize (((w5.setCell ⟨gb7, 0, none⟩ (.slice AL2 L2.length cL2)).setCell ⟨gb7, 1, none⟩ (.slice AD2 D.length cD2)).setCell ⟨gb7, 2, none⟩ (.int .i64 g)) = w6 at n_BK7 n_BK8 n_BK12 n_BK13 n_BK14 n_BK15 n_BK22 n_BK23 n_HO0 n_HO1 n_HP0 n_HP1 n_HK0 n_HK1 n_HN0 n_HN1 n_HX n_HB ⊢
              have BK7 := n_BK7
              have BK8 := n_BK8
              have BK12 := n_BK12
              have BK13 := n_BK13
              have BK14 := n_BK14
              have BK15 := n_BK15
              have BK22 := n_BK22
              have BK23 := n_BK23
              have HO0 := n_HO0
              have HO1 := n_HO1
              have HP0 := n_HP0
              have HP1 := n_HP1
              have HK0 := n_HK0
              have HK1 := n_HK1
              have HN0 := n_HN0
              have HN1 := n_HN1
              have HX := n_HX
              have HB := n_HB
              clear n_BK7 n_BK8 n_BK12 n_BK13 n_BK14 n_BK15 n_BK22 n_BK23 n_HO0 n_HO1 n_HP0 n_HP1 n_HK0 n_HK1 n_HN0 n_HN1 n_HX n_HB
              have bk7_0 := blk_c BK7.out 0 rfl; have bk7_1 := blk_c BK7.out 1 rfl; have bk7_2 := blk_c BK7.out 2 rfl; have bk8_0 := blk_c BK8.out 0 rfl; have bk8_1 := blk_c BK8.out 1 rfl; have bk8_2 := blk_c BK8.out 2 rfl; have bk12_0 := blk_c BK12.out 0 rfl; have bk12_1 := blk_c BK12.out 1 rfl; have bk12_2 := blk_c BK12.out 2 rfl; have bk12_3 := blk_c BK12.out 3 rfl; have bk12_4 := blk_c BK12.out 4 rfl; have bk12_5 := blk_c BK12.out 5 rfl; have bk13_0 := blk_c BK13.out 0 rfl; have bk13_1 := blk_c BK13.out 1 rfl; have bk13_2 := blk_c BK13.out 2 rfl; have bk14_0 := blk_c BK14.out 0 rfl; have bk14_1 := blk_c BK14.out 1 rfl; have bk14_2 := blk_c BK14.out 2 rfl; have bk15_0 := blk_c BK15.out 0 rfl; have bk15_1 := blk_c BK15.out 1 rfl; have bk15_2 := blk_c BK15.out 2 rfl; have bk22_0 := blk_c BK22.out 0 rfl; have bk22_1 := blk_c BK22.out 1 rfl; have bk22_2 := blk_c BK22.out 2 rfl; have bk22_3 := blk_c BK22.out 3 rfl; have bk22_4 := blk_c BK22.out 4 rfl; have bk22_5 := blk_c BK22.out 5 rfl; have bk23_0 := blk_c BK23.out 0 rfl; have bk23_1 := blk_c BK23.out 1 rfl; have bk23_2 := blk_c BK23.out 2 rfl; have bk23_3 := blk_c BK23.out 3 rfl; have bk23_4 := blk_c BK23.out 4 rfl; have bk23_5 := blk_c BK23.out 5 rfl; have bk7_f := fun i => blk_frozen BK7.out i; have bk8_f := fun i => blk_frozen BK8.out i; have bk12_f := fun i => blk_frozen BK12.out i; have bk13_f := fun i => blk_frozen BK13.out i; have bk14_f := fun i => blk_frozen BK14.out i; have bk15_f := fun i => blk_frozen BK15.out i; have bk22_f := fun i => blk_frozen BK22.out i; have bk23_f := fun i => blk_frozen BK23.out i
              go_wp2_with (first | (go_at_call 49; have hwb := below_size HB.out; (with_reducible refine (refApply_at _ _ L _ _ D w.heap.size g _ hwb HP0.out HP1.out hL HI.out.g0 HI.out.g1).mono ?_); rintro e w5 ⟨RL2, rL2, AY, cY, rfl, h0, h1, h2, hb⟩; rw [E0.out, ← HLE.out] at h0; rw [E1.out] at h2; rw [E1.out, show (.slice RL2 L.length rL2 : Value) = .slice RL2 L2.length rL2 by rw [HLE.out]]; clear bk7_0 bk7_1 bk7_2 bk7_f bk8_0 bk8_1 bk8_2 bk8_f bk12_0 bk12_1 bk12_2 bk12_3 bk12_4 bk12_5 bk12_f bk13_0 bk13_1 bk13_2 bk13_f bk14_0 bk14_1 bk14_2 bk14_f bk15_0 bk15_1 bk15_2 bk15_f bk22_0 bk22_1 bk22_2 bk22_3 bk22_4 bk22_5 bk22_f bk23_0 bk23_1 bk23_2 bk23_3 bk23_4 bk23_5 bk23_f; replace BK7 := Aside0.mk (blk_below BK7.out hb); replace BK8 := Aside0.mk (blk_below BK8.out hb); replace BK12 := Aside0.mk (blk_below BK12.out hb); replace BK13 := Aside0.mk (blk_below BK13.out hb); replace BK14 := Aside0.mk (blk_below BK14.out hb); replace BK15 := Aside0.mk (blk_below BK15.out hb); replace BK22 := Aside0.mk (blk_below BK22.out hb); replace BK23 := Aside0.mk (blk_below BK23.out hb); replace HO0 := Aside0.mk (Kd.R_below HO0.out hb); replace HO1 := Aside0.mk (Kd.R_below HO1.out hb); replace HP0 := Aside0.mk (Kd.R_below HP0.out hb); replace HP1 := Aside0.mk (Kd.R_below HP1.out hb); replace HK0 := Aside0.mk (Kd.R_below HK0.out hb); replace HK1 := Aside0.mk (Kd.R_below HK1.out hb); replace HN0 := Aside0.mk (Kd.R_below HN0.out hb); replace HN1 := Aside0.mk (Kd.R_below HN1.out hb); replace HX := Aside0.mk (Kd.R_below HX.out hb); have HM0 := Aside0.mk (h0); have HM1 := Aside0.mk (h1); have HY := Aside0.mk (h2); replace HB := Aside0.mk (below_step HB.out hb); have bk7_0 := blk_c BK7.out 0 rfl; have bk7_1 := blk_c BK7.out 1 rfl; have bk7_2 := blk_c BK7.out 2 rfl; have bk8_0 := blk_c BK8.out 0 rfl; have bk8_1 := blk_c BK8.out 1 rfl; have bk8_2 := blk_c BK8.out 2 rfl; have bk12_0 := blk_c BK12.out 0 rfl; have bk12_1 := blk_c BK12.out 1 rfl; have bk12_2 := blk_c BK12.out 2 rfl; have bk12_3 := blk_c BK12.out 3 rfl; have bk12_4 := blk_c BK12.out 4 rfl; have bk12_5 := blk_c BK12.out 5 rfl; have bk13_0 := blk_c BK13.out 0 rfl; have bk13_1 := blk_c BK13.out 1 rfl; have bk13_2 := blk_c BK13.out 2 rfl; have bk14_0 := blk_c BK14.out 0 rfl; have bk14_1 := blk_c BK14.out 1 rfl; have bk14_2 := blk_c BK14.out 2 rfl; have bk15_0 := blk_c BK15.out 0 rfl; have bk15_1 := blk_c BK15.out 1 rfl; have bk15_2 := blk_c BK15.out 2 rfl; have bk22_0 := blk_c BK22.out 0 rfl; have bk22_1 := blk_c BK22.out 1 rfl; have bk22_2 := blk_c BK22.out 2 rfl; have bk22_3 := blk_c BK22.out 3 rfl; have bk22_4 := blk_c BK22.out 4 rfl; have bk22_5 := blk_c BK22.out 5 rfl; have bk23_0 := blk_c BK23.out 0 rfl; have bk23_1 := blk_c BK23.out 1 rfl; have bk23_2 := blk_c BK23.out 2 rfl; have bk23_3 := blk_c BK23.out 3 rfl; have bk23_4 := blk_c BK23.out 4 rfl; have bk23_5 := blk_c BK23.out 5 rfl; have bk7_f := fun i => blk_frozen BK7.out i; have bk8_f := fun i => blk_frozen BK8.out i; have bk12_f := fun i => blk_frozen BK12.out i; have bk13_f := fun i => blk_frozen BK13.out i; have bk14_f := fun i => blk_frozen BK14.out i; have bk15_f := fun i => blk_frozen BK15.out i; have bk22_f := fun i => blk_frozen BK22.out i; have bk23_f := fun i => blk_frozen BK23.out i; clear h0 h1 h2 hb hwb))
              go_meet
              case rel =>
                clear bk7_0 bk7_1 bk7_2 bk7_f bk8_0 bk8_1 bk8_2 bk8_f bk12_0 bk12_1 bk12_2 bk12_3 bk12_4 bk12_5 bk12_f bk13_0 bk13_1 bk13_2 bk13_f bk14_0 bk14_1 bk14_2 bk14_f bk15_0 bk15_1 bk15_2 bk15_f bk22_0 bk22_1 bk22_2 bk22_3 bk22_4 bk22_5 bk22_f bk23_0 bk23_1 bk23_2 bk23_3 bk23_4 bk23_5 bk23_f
                have s0_HO0 := far_set3 HO0.out (blk_rowG BK8.out HO0.out (by decide)) (.slice RL2 L2.length rL2) (.slice RD D.length rD) (.int .i64 g)
                have s0_HO1 := far_set3 HO1.out (blk_rowG BK8.out HO1.out (by decide)) (.slice RL2 L2.length rL2) (.slice RD D.length rD) (.int .i64 g)
                have s0_HP0 := far_set3 HP0.out (blk_rowG BK8.out HP0.out (by decide)) (.slice RL2 L2.length rL2) (.slice RD D.length rD) (.int .i64 g)
                have s0_HP1 := far_set3 HP1.out (blk_rowG BK8.out HP1.out (by decide)) (.slice RL2 L2.length rL2) (.slice RD D.length rD) (.int .i64 g)
                have s0_HK0 := far_set3 HK0.out (blk_rowG BK8.out HK0.out (by decide)) (.slice RL2 L2.length rL2) (.slice RD D.length rD) (.int .i64 g)
                have s0_HK1 := far_set3 HK1.out (blk_rowG BK8.out HK1.out (by decide)) (.slice RL2 L2.length rL2) (.slice RD D.length rD) (.int .i64 g)
                have s0_HN0 := far_set3 HN0.out (blk_rowG BK8.out HN0.out (by decide)) (.slice RL2 L2.length rL2) (.slice RD D.length rD) (.int .i64 g)
                have s0_HN1 := far_set3 HN1.out (blk_rowG BK8.out HN1.out (by decide)) (.slice RL2 L2.length rL2) (.slice RD D.length rD) (.int .i64 g)
                have s0_HX := far_int3 HX.out (blk_rowG BK8.out HX.out (by decide)) (.slice RL2 L2.length rL2) (.slice RD D.length rD) (.int .i64 g)
                have s0_HM0 := far_set3 HM0.out (blk_rowG BK8.out HM0.out (by decide)) (.slice RL2 L2.length rL2) (.slice RD D.length rD) (.int .i64 g)
                have s0_HM1 := far_set3 HM1.out (blk_rowG BK8.out HM1.out (by decide)) (.slice RL2 L2.length rL2) (.slice RD D.length rD) (.int .i64 g)
                have s0_HY := far_int3 HY.out (blk_rowG BK8.out HY.out (by decide)) (.slice RL2 L2.length rL2) (.slice RD D.length rD) (.int .i64 g)
                have s0_BK7 := blk_far3 BK7.out NE_gb7_gb8.out (.slice RL2 L2.length rL2) (.slice RD D.length rD) (.int .i64 g)
                have s0_BK8 := blk_put3 BK8.out (.slice RL2 L2.length rL2) (.slice RD D.length rD) (.int .i64 g)
                have s0_BK12 := blk_far3 BK12.out (Ne.symm NE_gb8_gb12.out) (.slice RL2 L2.length rL2) (.slice RD D.length rD) (.int .i64 g)
                have s0_BK13 := blk_far3 BK13.out (Ne.symm NE_gb8_gb13.out) (.slice RL2 L2.length rL2) (.slice RD D.length rD) (.int .i64 g)
                have s0_BK14 := blk_far3 BK14.out (Ne.symm NE_gb8_gb14.out) (.slice RL2 L2.length rL2) (.slice RD D.length rD) (.int .i64 g)
                have s0_BK15 := blk_far3 BK15.out (Ne.symm NE_gb8_gb15.out) (.slice RL2 L2.length rL2) (.slice RD D.length rD) (.int .i64 g)
                have s0_BK22 := blk_far3 BK22.out (Ne.symm NE_gb8_gb22.out) (.slice RL2 L2.length rL2) (.slice RD D.length rD) (.int .i64 g)
                have s0_BK23 := blk_far3 BK23.out (Ne.symm NE_gb8_gb23.out) (.slice RL2 L2.length rL2) (.slice RD D.length rD) (.int .i64 g)
                have s0_HB := below_set3 HB.out GE_gb8.out (.slice RL2 L2.length rL2) (.slice RD D.length rD) (.int .i64 g)
                have n_BK7 := Aside0.mk s0_BK7
                have n_BK8 := Aside0.mk s0_BK8
                have n_BK12 := Aside0.mk s0_BK12
                have n_BK13 := Aside0.mk s0_BK13
                have n_BK14 := Aside0.mk s0_BK14
                have n_BK15 := Aside0.mk s0_BK15
                have n_BK22 := Aside0.mk s0_BK22
                have n_BK23 := Aside0.mk s0_BK23
                have n_HO0 := Aside0.mk s0_HO0
                have n_HO1 := Aside0.mk s0_HO1
                have n_HP0 := Aside0.mk s0_HP0
                have n_HP1 := Aside0.mk s0_HP1
                have n_HK0 := Aside0.mk s0_HK0
                have n_HK1 := Aside0.mk s0_HK1
                have n_HN0 := Aside0.mk s0_HN0
                have n_HN1 := Aside0.mk s0_HN1
                have n_HX := Aside0.mk s0_HX
                have n_HM0 := Aside0.mk s0_HM0
                have n_HM1 := Aside0.mk s0_HM1
                have n_HY := Aside0.mk s0_HY
                have n_HB := Aside0.mk s0_HB
                clear s0_BK7 s0_BK8 s0_BK12 s0_BK13 s0_BK14 s0_BK15 s0_BK22 s0_BK23 s0_HO0 s0_HO1 s0_HP0 s0_HP1 s0_HK0 s0_HK1 s0_HN0 s0_HN1 s0_HX s0_HM0 s0_HM1 s0_HY s0_HB
                clear BK7 BK8 BK12 BK13 BK14 BK15 BK22 BK23 HO0 HO1 HP0 HP1 HK0 HK1 HN0 HN1 HX HM0 HM1 HY HB
                generalize (((w5.setCell ⟨gb8, 0, none⟩ (.slice RL2 L2.length rL2)).setCell ⟨gb8, 1, none⟩ (.slice RD D.length rD)).setCell ⟨gb8, 2, none⟩ (.int .i64 g)) = w7 at n_BK7 n_BK8 n_BK12 n_BK13 n_BK14 n_BK15 n_BK22 n_BK23 n_HO0 n_HO1 n_HP0 n_HP1 n_HK0 n_HK1 n_HN0 n_HN1 n_HX n_HM0 n_HM1 n_HY n_HB ⊢
                have BK7 := n_BK7
                have BK8 := n_BK8
                have BK12 := n_BK12
                have BK13 := n_BK13
                have BK14 := n_BK14
                have BK15 := n_BK15
                have BK22 := n_BK22
                have BK23 := n_BK23
                have HO0 := n_HO0
                have HO1 := n_HO1
                have HP0 := n_HP0
                have HP1 := n_HP1
                have HK0 := n_HK0
                have HK1 := n_HK1
                have HN0 := n_HN0
                have HN1 := n_HN1
                have HX := n_HX
                have HM0 := n_HM0
                have HM1 := n_HM1
                have HY := n_HY
                have HB := n_HB
                clear n_BK7 n_BK8 n_BK12 n_BK13 n_BK14 n_BK15 n_BK22 n_BK23 n_HO0 n_HO1 n_HP0 n_HP1 n_HK0 n_HK1 n_HN0 n_HN1 n_HX n_HM0 n_HM1 n_HY n_HB
                have bk7_0 := blk_c BK7.out 0 rfl; have bk7_1 := blk_c BK7.out 1 rfl; have bk7_2 := blk_c BK7.out 2 rfl; have bk8_0 := blk_c BK8.out 0 rfl; have bk8_1 := blk_c BK8.out 1 rfl; have bk8_2 := blk_c BK8.out 2 rfl; have bk12_0 := blk_c BK12.out 0 rfl; have bk12_1 := blk_c BK12.out 1 rfl; have bk12_2 := blk_c BK12.out 2 rfl; have bk12_3 := blk_c BK12.out 3 rfl; have bk12_4 := blk_c BK12.out 4 rfl; have bk12_5 := blk_c BK12.out 5 rfl; have bk13_0 := blk_c BK13.out 0 rfl; have bk13_1 := blk_c BK13.out 1 rfl; have bk13_2 := blk_c BK13.out 2 rfl; have bk14_0 := blk_c BK14.out 0 rfl; have bk14_1 := blk_c BK14.out 1 rfl; have bk14_2 := blk_c BK14.out 2 rfl; have bk15_0 := blk_c BK15.out 0 rfl; have bk15_1 := blk_c BK15.out 1 rfl; have bk15_2 := blk_c BK15.out 2 rfl; have bk22_0 := blk_c BK22.out 0 rfl; have bk22_1 := blk_c BK22.out 1 rfl; have bk22_2 := blk_c BK22.out 2 rfl; have bk22_3 := blk_c BK22.out 3 rfl; have bk22_4 := blk_c BK22.out 4 rfl; have bk22_5 := blk_c BK22.out 5 rfl; have bk23_0 := blk_c BK23.out 0 rfl; have bk23_1 := blk_c BK23.out 1 rfl; have bk23_2 := blk_c BK23.out 2 rfl; have bk23_3 := blk_c BK23.out 3 rfl; have bk23_4 := blk_c BK23.out 4 rfl; have bk23_5 := blk_c BK23.out 5 rfl; have bk7_f := fun i => blk_frozen BK7.out i; have bk8_f := fun i => blk_frozen BK8.out i; have bk12_f := fun i => blk_frozen BK12.out i; have bk13_f := fun i => blk_frozen BK13.out i; have bk14_f := fun i => blk_frozen BK14.out i; have bk15_f := fun i => blk_frozen BK15.out i; have bk22_f := fun i => blk_frozen BK22.out i; have bk23_f := fun i => blk_frozen BK23.out i
                exact ⟨L2, D, g, last, false, 0, ts, ⟨0, 0, 0, 0, 0, 0⟩, AL2, cL2, AD2, cD2, RL2, rL2, RD, rD, AX, cX, AY, cY, rfl, rfl, rfl, rfl, rfl, rfl, rfl, rfl, INV, HTL, BK7, BK8, BK12, BK13, BK14, BK15, BK22, BK23, HN0, HN1, HM0, HM1, HX, HY, HO0, HO1, HP0, HP1, HK0, HK1, HB⟩
          have t4 : (o.f0 == 4) = false := beq_false_of_ne c4
          clear c4
          by_cases c5 : o.f0 = 5
          · have t5 : (o.f0 == 5) = true := beq_iff_eq.2 c5
            clear c5
            as_aux_lemma =>
              have hL : L.length ≤ 1000 := by have := HI.out.len; omega
              have hD : D.length ≤ 1000 := by have := HI.out.len; omega
              obtain ⟨L2, hl2j⟩ : ∃ L2, (endR L D g o.f5).1 = L2 := ⟨_, rfl⟩
              obtain ⟨D2, hd2j⟩ : ∃ D2, (endR L D g o.f5).2.1 = D2 := ⟨_, rfl⟩
              obtain ⟨ts, htsj⟩ : ∃ b, (endR L D g o.f5).2.2 = b := ⟨_, rfl⟩
              have E0 := Aside0.mk hl2j
              have E1 := Aside0.mk hd2j
              have E2 := Aside0.mk htsj
              have HTL : Aside0 (ts.length ≤ 1000) := ⟨by rw [← htsj]; have := (invT_end HI.out o.f5).2; omega⟩
              have INV : Aside0 (InvT (i + 1) L2 D2 0) := ⟨by rw [← hl2j, ← hd2j]; exact (invT_end HI.out _).1⟩
              clear hl2j hd2j htsj
              go_upto_region 29 with (first | (go_at_call 50; have hwb := below_size HB.out; (with_reducible refine (pEnd_at _ _ L _ _ D g o.f5 _ (Kd.R_reads' HO0.out).2.2 (Kd.R_reads' HO0.out).2.1 (Kd.R_reads' HO1.out).2.2 (Kd.R_reads' HO1.out).2.1 hL hD HI.out.g0 HI.out.g1).mono ?_); rintro e w5 ⟨AL2, cL2, AD2, cD2, AX, cX, rfl, h0, h1, h2, hb⟩; rw [E0.out] at h0; rw [E1.out] at h1; rw [E2.out] at h2; rw [E0.out, E1.out, E2.out]; clear bk7_0 bk7_1 bk7_2 bk7_f bk8_0 bk8_1 bk8_2 bk8_f bk12_0 bk12_1 bk12_2 bk12_3 bk12_4 bk12_5 bk12_f bk13_0 bk13_1 bk13_2 bk13_f bk14_0 bk14_1 bk14_2 bk14_f bk15_0 bk15_1 bk15_2 bk15_f bk22_0 bk22_1 bk22_2 bk22_3 bk22_4 bk22_5 bk22_f bk23_0 bk23_1 bk23_2 bk23_3 bk23_4 bk23_5 bk23_f; replace BK7 := Aside0.mk (blk_below BK7.out hb); replace BK8 := Aside0.mk (blk_below BK8.out hb); replace BK12 := Aside0.mk (blk_below BK12.out hb); replace BK13 := Aside0.mk (blk_below BK13.out hb); replace BK14 := Aside0.mk (blk_below BK14.out hb); replace BK15 := Aside0.mk (blk_below BK15.out hb); replace BK22 := Aside0.mk (blk_below BK22.out hb); replace BK23 := Aside0.mk (blk_below BK23.out hb); replace HO0 := Aside0.mk (Kd.R_below HO0.out hb); replace HO1 := Aside0.mk (Kd.R_below HO1.out hb); replace HP0 := Aside0.mk (Kd.R_below HP0.out hb); replace HP1 := Aside0.mk (Kd.R_below HP1.out hb); replace HK0 := Aside0.mk (Kd.R_below HK0.out hb); replace HK1 := Aside0.mk (Kd.R_below HK1.out hb); have HN0 := Aside0.mk (Kd.R_lower h0 hwb); have HN1 := Aside0.mk (Kd.R_lower h1 hwb); have HX := Aside0.mk (Kd.R_lower h2 hwb); replace HB := Aside0.mk (below_step HB.out hb); have bk7_0 := blk_c BK7.out 0 rfl; have bk7_1 := blk_c BK7.out 1 rfl; have bk7_2 := blk_c BK7.out 2 rfl; have bk8_0 := blk_c BK8.out 0 rfl; have bk8_1 := blk_c BK8.out 1 rfl; have bk8_2 := blk_c BK8.out 2 rfl; have bk12_0 := blk_c BK12.out 0 rfl; have bk12_1 := blk_c BK12.out 1 rfl; have bk12_2 := blk_c BK12.out 2 rfl; have bk12_3 := blk_c BK12.out 3 rfl; have bk12_4 := blk_c BK12.out 4 rfl; have bk12_5 := blk_c BK12.out 5 rfl; have bk13_0 := blk_c BK13.out 0 rfl; have bk13_1 := blk_c BK13.out 1 rfl; have bk13_2 := blk_c BK13.out 2 rfl; have bk14_0 := blk_c BK14.out 0 rfl; have bk14_1 := blk_c BK14.out 1 rfl; have bk14_2 := blk_c BK14.out 2 rfl; have bk15_0 := blk_c BK15.out 0 rfl; have bk15_1 := blk_c BK15.out 1 rfl; have bk15_2 := blk_c BK15.out 2 rfl; have bk22_0 := blk_c BK22.out 0 rfl; have bk22_1 := blk_c BK22.out 1 rfl; have bk22_2 := blk_c BK22.out 2 rfl; have bk22_3 := blk_c BK22.out 3 rfl; have bk22_4 := blk_c BK22.out 4 rfl; have bk22_5 := blk_c BK22.out 5 rfl; have bk23_0 := blk_c BK23.out 0 rfl; have bk23_1 := blk_c BK23.out 1 rfl; have bk23_2 := blk_c BK23.out 2 rfl; have bk23_3 := blk_c BK23.out 3 rfl; have bk23_4 := blk_c BK23.out 4 rfl; have bk23_5 := blk_c BK23.out 5 rfl; have bk7_f := fun i => blk_frozen BK7.out i; have bk8_f := fun i => blk_frozen BK8.out i; have bk12_f := fun i => blk_frozen BK12.out i; have bk13_f := fun i => blk_frozen BK13.out i; have bk14_f := fun i => blk_frozen BK14.out i; have bk15_f := fun i => blk_frozen BK15.out i; have bk22_f := fun i => blk_frozen BK22.out i; have bk23_f := fun i => blk_frozen BK23.out i; clear h0 h1 h2 hb hwb))
              clear bk7_0 bk7_1 bk7_2 bk7_f bk8_0 bk8_1 bk8_2 bk8_f bk12_0 bk12_1 bk12_2 bk12_3 bk12_4 bk12_5 bk12_f bk13_0 bk13_1 bk13_2 bk13_f bk14_0 bk14_1 bk14_2 bk14_f bk15_0 bk15_1 bk15_2 bk15_f bk22_0 bk22_1 bk22_2 bk22_3 bk22_4 bk22_5 bk22_f bk23_0 bk23_1 bk23_2 bk23_3 bk23_4 bk23_5 bk23_f
              have s0_HO0 := far_set3 HO0.out (blk_rowG BK7.out HO0.out (by decide)) (.slice AL2 L2.length cL2) (.slice AD2 D2.length cD2) (.int .i64 0)
              have s0_HO1 := far_set3 HO1.out (blk_rowG BK7.out HO1.out (by decide)) (.slice AL2 L2.length cL2) (.slice AD2 D2.length cD2) (.int .i64 0)
              have s0_HP0 := far_set3 HP0.out (blk_rowG BK7.out HP0.out (by decide)) (.slice AL2 L2.length cL2) (.slice AD2 D2.length cD2) (.int .i64 0)
              have s0_HP1 := far_set3 HP1.out (blk_rowG BK7.out HP1.out (by decide)) (.slice AL2 L2.length cL2) (.slice AD2 D2.length cD2) (.int .i64 0)
              have s0_HK0 := far_set3 HK0.out (blk_rowG BK7.out HK0.out (by decide)) (.slice AL2 L2.length cL2) (.slice AD2 D2.length cD2) (.int .i64 0)
              have s0_HK1 := far_set3 HK1.out (blk_rowG BK7.out HK1.out (by decide)) (.slice AL2 L2.length cL2) (.slice AD2 D2.length cD2) (.int .i64 0)
              have s0_HN0 := far_set3 HN0.out (blk_rowG BK7.out HN0.out (by decide)) (.slice AL2 L2.length cL2) (.slice AD2 D2.length cD2) (.int .i64 0)
              have s0_HN1 := far_set3 HN1.out (blk_rowG BK7.out HN1.out (by decide)) (.slice AL2 L2.length cL2) (.slice AD2 D2.length cD2) (.int .i64 0)
              have s0_HX := far_int3 HX.out (blk_rowG BK7.out HX.out (by decide)) (.slice AL2 L2.length cL2) (.slice AD2 D2.length cD2) (.int .i64 0)
              have s0_BK7 := blk_put3 BK7.out (.slice AL2 L2.length cL2) (.slice AD2 D2.length cD2) (.int .i64 0)
              have s0_BK8 := blk_far3 BK8.out (Ne.symm NE_gb7_gb8.out) (.slice AL2 L2.length cL2) (.slice AD2 D2.length cD2) (.int .i64 0)
              have s0_BK12 := blk_far3 BK12.out (Ne.symm NE_gb7_gb12.out) (.slice AL2 L2.length cL2) (.slice AD2 D2.length cD2) (.int .i64 0)
              have s0_BK13 := blk_far3 BK13.out (Ne.symm NE_gb7_gb13.out) (.slice AL2 L2.length cL2) (.slice AD2 D2.length cD2) (.int .i64 0)
              have s0_BK14 := blk_far3 BK14.out (Ne.symm NE_gb7_gb14.out) (.slice AL2 L2.length cL2) (.slice AD2 D2.length cD2) (.int .i64 0)
              have s0_BK15 := blk_far3 BK15.out (Ne.symm NE_gb7_gb15.out) (.slice AL2 L2.length cL2) (.slice AD2 D2.length cD2) (.int .i64 0)
              have s0_BK22 := blk_far3 BK22.out (Ne.symm NE_gb7_gb22.out) (.slice AL2 L2.length cL2) (.slice AD2 D2.length cD2) (.int .i64 0)
              have s0_BK23 := blk_far3 BK23.out (Ne.symm NE_gb7_gb23.out) (.slice AL2 L2.length cL2) (.slice AD2 D2.length cD2) (.int .i64 0)
              have s0_HB := below_set3 HB.out GE_gb7.out (.slice AL2 L2.length cL2) (.slice AD2 D2.length cD2) (.int .i64 0)
              have n_BK7 := Aside0.mk s0_BK7
              have n_BK8 := Aside0.mk s0_BK8
              have n_BK12 := Aside0.mk s0_BK12
              have n_BK13 := Aside0.mk s0_BK13
              have n_BK14 := Aside0.mk s0_BK14
              have n_BK15 := Aside0.mk s0_BK15
              have n_BK22 := Aside0.mk s0_BK22
              have n_BK23 := Aside0.mk s0_BK23
              have n_HO0 := Aside0.mk s0_HO0
              have n_HO1 := Aside0.mk s0_HO1
              have n_HP0 := Aside0.mk s0_HP0
              have n_HP1 := Aside0.mk s0_HP1
              have n_HK0 := Aside0.mk s0_HK0
              have n_HK1 := Aside0.mk s0_HK1
              have n_HN0 := Aside0.mk s0_HN0
              have n_HN1 := Aside0.mk s0_HN1
              have n_HX := Aside0.mk s0_HX
              have n_HB := Aside0.mk s0_HB
              clear s0_BK7 s0_BK8 s0_BK12 s0_BK13 s0_BK14 s0_BK15 s0_BK22 s0_BK23 s0_HO0 s0_HO1 s0_HP0 s0_HP1 s0_HK0 s0_HK1 s0_HN0 s0_HN1 s0_HX s0_HB
              clear BK7 BK8 BK12 BK13 BK14 BK15 BK22 BK23 HO0 HO1 HP0 HP1 HK0 HK1 HN0 HN1 HX HB
              generalize (((w5.setCell ⟨gb7, 0, none⟩ (.slice AL2 L2.length cL2)).setCell ⟨gb7, 1, none⟩ (.slice AD2 D2.length cD2)).setCell ⟨gb7, 2, none⟩ (.int .i64 0)) = w6 at n_BK7 n_BK8 n_BK12 n_BK13 n_BK14 n_BK15 n_BK22 n_BK23 n_HO0 n_HO1 n_HP0 n_HP1 n_HK0 n_HK1 n_HN0 n_HN1 n_HX n_HB ⊢
              have BK7 := n_BK7
              have BK8 := n_BK8
              have BK12 := n_BK12
              have BK13 := n_BK13
              have BK14 := n_BK14
              have BK15 := n_BK15
              have BK22 := n_BK22
              have BK23 := n_BK23
              have HO0 := n_HO0
              have HO1 := n_HO1
              have HP0 := n_HP0
              have HP1 := n_HP1
              have HK0 := n_HK0
              have HK1 := n_HK1
              have HN0 := n_HN0
              have HN1 := n_HN1
              have HX := n_HX
              have HB := n_HB
              clear n_BK7 n_BK8 n_BK12 n_BK13 n_BK14 n_BK15 n_BK22 n_BK23 n_HO0 n_HO1 n_HP0 n_HP1 n_HK0 n_HK1 n_HN0 n_HN1 n_HX n_HB
              have bk7_0 := blk_c BK7.out 0 rfl; have bk7_1 := blk_c BK7.out 1 rfl; have bk7_2 := blk_c BK7.out 2 rfl; have bk8_0 := blk_c BK8.out 0 rfl; have bk8_1 := blk_c BK8.out 1 rfl; have bk8_2 := blk_c BK8.out 2 rfl; have bk12_0 := blk_c BK12.out 0 rfl; have bk12_1 := blk_c BK12.out 1 rfl; have bk12_2 := blk_c BK12.out 2 rfl; have bk12_3 := blk_c BK12.out 3 rfl; have bk12_4 := blk_c BK12.out 4 rfl; have bk12_5 := blk_c BK12.out 5 rfl; have bk13_0 := blk_c BK13.out 0 rfl; have bk13_1 := blk_c BK13.out 1 rfl; have bk13_2 := blk_c BK13.out 2 rfl; have bk14_0 := blk_c BK14.out 0 rfl; have bk14_1 := blk_c BK14.out 1 rfl; have bk14_2 := blk_c BK14.out 2 rfl; have bk15_0 := blk_c BK15.out 0 rfl; have bk15_1 := blk_c BK15.out 1 rfl; have bk15_2 := blk_c BK15.out 2 rfl; have bk22_0 := blk_c BK22.out 0 rfl; have bk22_1 := blk_c BK22.out 1 rfl; have bk22_2 := blk_c BK22.out 2 rfl; have bk22_3 := blk_c BK22.out 3 rfl; have bk22_4 := blk_c BK22.out 4 rfl; have bk22_5 := blk_c BK22.out 5 rfl; have bk23_0 := blk_c BK23.out 0 rfl; have bk23_1 := blk_c BK23.out 1 rfl; have bk23_2 := blk_c BK23.out 2 rfl; have bk23_3 := blk_c BK23.out 3 rfl; have bk23_4 := blk_c BK23.out 4 rfl; have bk23_5 := blk_c BK23.out 5 rfl; have bk7_f := fun i => blk_frozen BK7.out i; have bk8_f := fun i => blk_frozen BK8.out i; have bk12_f := fun i => blk_frozen BK12.out i; have bk13_f := fun i => blk_frozen BK13.out i; have bk14_f := fun i => blk_frozen BK14.out i; have bk15_f := fun i => blk_frozen BK15.out i; have bk22_f := fun i => blk_frozen BK22.out i; have bk23_f := fun i => blk_frozen BK23.out i
              go_wp2_with (first | (go_at_call 51; have hwb := below_size HB.out; (with_reducible refine (refEnd_at _ _ L _ _ D w.heap.size g o.f5 _ hwb HP0.out HP1.out hL hD HI.out.g0 HI.out.g1).mono ?_); rintro e w5 ⟨RL2, rL2, RD2, rD2, AY, cY, rfl, h0, h1, h2, hb⟩; rw [E0.out] at h0; rw [E1.out] at h1; rw [E2.out] at h2; rw [E0.out, E1.out, E2.out]; clear bk7_0 bk7_1 bk7_2 bk7_f bk8_0 bk8_1 bk8_2 bk8_f bk12_0 bk12_1 bk12_2 bk12_3 bk12_4 bk12_5 bk12_f bk13_0 bk13_1 bk13_2 bk13_f bk14_0 bk14_1 bk14_2 bk14_f bk15_0 bk15_1 bk15_2 bk15_f bk22_0 bk22_1 bk22_2 bk22_3 bk22_4 bk22_5 bk22_f bk23_0 bk23_1 bk23_2 bk23_3 bk23_4 bk23_5 bk23_f; replace BK7 := Aside0.mk (blk_below BK7.out hb); replace BK8 := Aside0.mk (blk_below BK8.out hb); replace BK12 := Aside0.mk (blk_below BK12.out hb); replace BK13 := Aside0.mk (blk_below BK13.out hb); replace BK14 := Aside0.mk (blk_below BK14.out hb); replace BK15 := Aside0.mk (blk_below BK15.out hb); replace BK22 := Aside0.mk (blk_below BK22.out hb); replace BK23 := Aside0.mk (blk_below BK23.out hb); replace HO0 := Aside0.mk (Kd.R_below HO0.out hb); replace HO1 := Aside0.mk (Kd.R_below HO1.out hb); replace HP0 := Aside0.mk (Kd.R_below HP0.out hb); replace HP1 := Aside0.mk (Kd.R_below HP1.out hb); replace HK0 := Aside0.mk (Kd.R_below HK0.out hb); replace HK1 := Aside0.mk (Kd.R_below HK1.out hb); replace HN0 := Aside0.mk (Kd.R_below HN0.out hb); replace HN1 := Aside0.mk (Kd.R_below HN1.out hb); replace HX := Aside0.mk (Kd.R_below HX.out hb); have HM0 := Aside0.mk (h0); have HM1 := Aside0.mk (h1); have HY := Aside0.mk (h2); replace HB := Aside0.mk (below_step HB.out hb); have bk7_0 := blk_c BK7.out 0 rfl; have bk7_1 := blk_c BK7.out 1 rfl; have bk7_2 := blk_c BK7.out 2 rfl; have bk8_0 := blk_c BK8.out 0 rfl; have bk8_1 := blk_c BK8.out 1 rfl; have bk8_2 := blk_c BK8.out 2 rfl; have bk12_0 := blk_c BK12.out 0 rfl; have bk12_1 := blk_c BK12.out 1 rfl; have bk12_2 := blk_c BK12.out 2 rfl; have bk12_3 := blk_c BK12.out 3 rfl; have bk12_4 := blk_c BK12.out 4 rfl; have bk12_5 := blk_c BK12.out 5 rfl; have bk13_0 := blk_c BK13.out 0 rfl; have bk13_1 := blk_c BK13.out 1 rfl; have bk13_2 := blk_c BK13.out 2 rfl; have bk14_0 := blk_c BK14.out 0 rfl; have bk14_1 := blk_c BK14.out 1 rfl; have bk14_2 := blk_c BK14.out 2 rfl; have bk15_0 := blk_c BK15.out 0 rfl; have bk15_1 := blk_c BK15.out 1 rfl; have bk15_2 := blk_c BK15.out 2 rfl; have bk22_0 := blk_c BK22.out 0 rfl; have bk22_1 := blk_c BK22.out 1 rfl; have bk22_2 := blk_c BK22.out 2 rfl; have bk22_3 := blk_c BK22.out 3 rfl; have bk22_4 := blk_c BK22.out 4 rfl; have bk22_5 := blk_c BK22.out 5 rfl; have bk23_0 := blk_c BK23.out 0 rfl; have bk23_1 := blk_c BK23.out 1 rfl; have bk23_2 := blk_c BK23.out 2 rfl; have bk23_3 := blk_c BK23.out 3 rfl; have bk23_4 := blk_c BK23.out 4 rfl; have bk23_5 := blk_c BK23.out 5 rfl; have bk7_f := fun i => blk_frozen BK7.out i; have bk8_f := fun i => blk_frozen BK8.out i; have bk12_f := fun i => blk_frozen BK12.out i; have bk13_f := fun i => blk_frozen BK13.out i; have bk14_f := fun i => blk_frozen BK14.out i; have bk15_f := fun i => blk_frozen BK15.out i; have bk22_f := fun i => blk_frozen BK22.out i; have bk23_f := fun i => blk_frozen BK23.out i; clear h0 h1 h2 hb hwb))
              go_meet
              case rel =>
                clear bk7_0 bk7_1 bk7_2 bk7_f bk8_0 bk8_1 bk8_2 bk8_f bk12_0 bk12_1 bk12_2 bk12_3 bk12_4 bk12_5 bk12_f bk13_0 bk13_1 bk13_2 bk13_f bk14_0 bk14_1 bk14_2 bk14_f bk15_0 bk15_1 bk15_2 bk15_f bk22_0 bk22_1 bk22_2 bk22_3 bk22_4 bk22_5 bk22_f bk23_0 bk23_1 bk23_2 bk23_3 bk23_4 bk23_5 bk23_f
                have s0_HO0 := far_set3 HO0.out (blk_rowG BK8.out HO0.out (by decide)) (.slice RL2 L2.length rL2) (.slice RD2 D2.length rD2) (.int .i64 0)
                have s0_HO1 := far_set3 HO1.out (blk_rowG BK8.out HO1.out (by decide)) (.slice RL2 L2.length rL2) (.slice RD2 D2.length rD2) (.int .i64 0)
                have s0_HP0 := far_set3 HP0.out (blk_rowG BK8.out HP0.out (by decide)) (.slice RL2 L2.length rL2) (.slice RD2 D2.length rD2) (.int .i64 0)
                have s0_HP1 := far_set3 HP1.out (blk_rowG BK8.out HP1.out (by decide)) (.slice RL2 L2.length rL2) (.slice RD2 D2.length rD2) (.int .i64 0)
                have s0_HK0 := far_set3 HK0.out (blk_rowG BK8.out HK0.out (by decide)) (.slice RL2 L2.length rL2) (.slice RD2 D2.length rD2) (.int .i64 0)
                have s0_HK1 := far_set3 HK1.out (blk_rowG BK8.out HK1.out (by decide)) (.slice RL2 L2.length rL2) (.slice RD2 D2.length rD2) (.int .i64 0)
                have s0_HN0 := far_set3 HN0.out (blk_rowG BK8.out HN0.out (by decide)) (.slice RL2 L2.length rL2) (.slice RD2 D2.length rD2) (.int .i64 0)
                have s0_HN1 := far_set3 HN1.out (blk_rowG BK8.out HN1.out (by decide)) (.slice RL2 L2.length rL2) (.slice RD2 D2.length rD2) (.int .i64 0)
                have s0_HX := far_int3 HX.out (blk_rowG BK8.out HX.out (by decide)) (.slice RL2 L2.length rL2) (.slice RD2 D2.length rD2) (.int .i64 0)
                have s0_HM0 := far_set3 HM0.out (blk_rowG BK8.out HM0.out (by decide)) (.slice RL2 L2.length rL2) (.slice RD2 D2.length rD2) (.int .i64 0)
                have s0_HM1 := far_set3 HM1.out (blk_rowG BK8.out HM1.out (by decide)) (.slice RL2 L2.length rL2) (.slice RD2 D2.length rD2) (.int .i64 0)
                have s0_HY := far_int3 HY.out (blk_rowG BK8.out HY.out (by decide)) (.slice RL2 L2.length rL2) (.slice RD2 D2.length rD2) (.int .i64 0)
                have s0_BK7 := blk_far3 BK7.out NE_gb7_gb8.out (.slice RL2 L2.length rL2) (.slice RD2 D2.length rD2) (.int .i64 0)
                have s0_BK8 := blk_put3 BK8.out (.slice RL2 L2.length rL2) (.slice RD2 D2.length rD2) (.int .i64 0)
                have s0_BK12 := blk_far3 BK12.out (Ne.symm NE_gb8_gb12.out) (.slice RL2 L2.length rL2) (.slice RD2 D2.length rD2) (.int .i64 0)
                have s0_BK13 := blk_far3 BK13.out (Ne.symm NE_gb8_gb13.out) (.slice RL2 L2.length rL2) (.slice RD2 D2.length rD2) (.int .i64 0)
                have s0_BK14 := blk_far3 BK14.out (Ne.symm NE_gb8_gb14.out) (.slice RL2 L2.length rL2) (.slice RD2 D2.length rD2) (.int .i64 0)
                have s0_BK15 := blk_far3 BK15.out (Ne.symm NE_gb8_gb15.out) (.slice RL2 L2.length rL2) (.slice RD2 D2.length rD2) (.int .i64 0)
                have s0_BK22 := blk_far3 BK22.out (Ne.symm NE_gb8_gb22.out) (.slice RL2 L2.length rL2) (.slice RD2 D2.length rD2) (.int .i64 0)
                have s0_BK23 := blk_far3 BK23.out (Ne.symm NE_gb8_gb23.out) (.slice RL2 L2.length rL2) (.slice RD2 D2.length rD2) (.int .i64 0)
                have s0_HB := below_set3 HB.out GE_gb8.out (.slice RL2 L2.length rL2) (.slice RD2 D2.length rD2) (.int .i64 0)
                have n_BK7 := Aside0.mk s0_BK7
                have n_BK8 := Aside0.mk s0_BK8
                have n_BK12 := Aside0.mk s0_BK12
                have n_BK13 := Aside0.mk s0_BK13
                have n_BK14 := Aside0.mk s0_BK14
                have n_BK15 := Aside0.mk s0_BK15
                have n_BK22 := Aside0.mk s0_BK22
                have n_BK23 := Aside0.mk s0_BK23
                have n_HO0 := Aside0.mk s0_HO0
                have n_HO1 := Aside0.mk s0_HO1
                have n_HP0 := Aside0.mk s0_HP0
                have n_HP1 := Aside0.mk s0_HP1
                have n_HK0 := Aside0.mk s0_HK0
                have n_HK1 := Aside0.mk s0_HK1
                have n_HN0 := Aside0.mk s0_HN0
                have n_HN1 := Aside0.mk s0_HN1
                have n_HX := Aside0.mk s0_HX
                have n_HM0 := Aside0.mk s0_HM0
                have n_HM1 := Aside0.mk s0_HM1
                have n_HY := Aside0.mk s0_HY
                have n_HB := Aside0.mk s0_HB
                clear s0_BK7 s0_BK8 s0_BK12 s0_BK13 s0_BK14 s0_BK15 s0_BK22 s0_BK23 s0_HO0 s0_HO1 s0_HP0 s0_HP1 s0_HK0 s0_HK1 s0_HN0 s0_HN1 s0_HX s0_HM0 s0_HM1 s0_HY s0_HB
                clear BK7 BK8 BK12 BK13 BK14 BK15 BK22 BK23 HO0 HO1 HP0 HP1 HK0 HK1 HN0 HN1 HX HM0 HM1 HY HB
                generalize (((w5.setCell ⟨gb8, 0, none⟩ (.slice RL2 L2.length rL2)).setCell ⟨gb8, 1, none⟩ (.slice RD2 D2.length rD2)).setCell ⟨gb8, 2, none⟩ (.int .i64 0)) = w7 at n_BK7 n_BK8 n_BK12 n_BK13 n_BK14 n_BK15 n_BK22 n_BK23 n_HO0 n_HO1 n_HP0 n_HP1 n_HK0 n_HK1 n_HN0 n_HN1 n_HX n_HM0 n_HM1 n_HY n_HB ⊢
                have BK7 := n_BK7
                have BK8 := n_BK8
                have BK12 := n_BK12
                have BK13 := n_BK13
                have BK14 := n_BK14
                have BK15 := n_BK15
                have BK22 := n_BK22
                have BK23 := n_BK23
                have HO0 := n_HO0
                have HO1 := n_HO1
                have HP0 := n_HP0
                have HP1 := n_HP1
                have HK0 := n_HK0
                have HK1 := n_HK1
                have HN0 := n_HN0
                have HN1 := n_HN1
                have HX := n_HX
                have HM0 := n_HM0
                have HM1 := n_HM1
                have HY := n_HY
                have HB := n_HB
                clear n_BK7 n_BK8 n_BK12 n_BK13 n_BK14 n_BK15 n_BK22 n_BK23 n_HO0 n_HO1 n_HP0 n_HP1 n_HK0 n_HK1 n_HN0 n_HN1 n_HX n_HM0 n_HM1 n_HY n_HB
                have bk7_0 := blk_c BK7.out 0 rfl; have bk7_1 := blk_c BK7.out 1 rfl; have bk7_2 := blk_c BK7.out 2 rfl; have bk8_0 := blk_c BK8.out 0 rfl; have bk8_1 := blk_c BK8.out 1 rfl; have bk8_2 := blk_c BK8.out 2 rfl; have bk12_0 := blk_c BK12.out 0 rfl; have bk12_1 := blk_c BK12.out 1 rfl; have bk12_2 := blk_c BK12.out 2 rfl; have bk12_3 := blk_c BK12.out 3 rfl; have bk12_4 := blk_c BK12.out 4 rfl; have bk12_5 := blk_c BK12.out 5 rfl; have bk13_0 := blk_c BK13.out 0 rfl; have bk13_1 := blk_c BK13.out 1 rfl; have bk13_2 := blk_c BK13.out 2 rfl; have bk14_0 := blk_c BK14.out 0 rfl; have bk14_1 := blk_c BK14.out 1 rfl; have bk14_2 := blk_c BK14.out 2 rfl; have bk15_0 := blk_c BK15.out 0 rfl; have bk15_1 := blk_c BK15.out 1 rfl; have bk15_2 := blk_c BK15.out 2 rfl; have bk22_0 := blk_c BK22.out 0 rfl; have bk22_1 := blk_c BK22.out 1 rfl; have bk22_2 := blk_c BK22.out 2 rfl; have bk22_3 := blk_c BK22.out 3 rfl; have bk22_4 := blk_c BK22.out 4 rfl; have bk22_5 := blk_c BK22.out 5 rfl; have bk23_0 := blk_c BK23.out 0 rfl; have bk23_1 := blk_c BK23.out 1 rfl; have bk23_2 := blk_c BK23.out 2 rfl; have bk23_3 := blk_c BK23.out 3 rfl; have bk23_4 := blk_c BK23.out 4 rfl; have bk23_5 := blk_c BK23.out 5 rfl; have bk7_f := fun i => blk_frozen BK7.out i; have bk8_f := fun i => blk_frozen BK8.out i; have bk12_f := fun i => blk_frozen BK12.out i; have bk13_f := fun i => blk_frozen BK13.out i; have bk14_f := fun i => blk_frozen BK14.out i; have bk15_f := fun i => blk_frozen BK15.out i; have bk22_f := fun i => blk_frozen BK22.out i; have bk23_f := fun i => blk_frozen BK23.out i
                exact ⟨L2, D2, 0, last, false, 0, ts, ⟨0, 0, 0, 0, 0, 0⟩, AL2, cL2, AD2, cD2, RL2, rL2, RD2, rD2, AX, cX, AY, cY, rfl, rfl, rfl, rfl, rfl, rfl, rfl, rfl, INV, HTL, BK7, BK8, BK12, BK13, BK14, BK15, BK22, BK23, HN0, HN1, HM0, HM1, HX, HY, HO0, HO1, HP0, HP1, HK0, HK1, HB⟩
          have t5 : (o.f0 == 5) = false := beq_false_of_ne c5
          clear c5
          by_cases c6 : o.f0 = 6
          · have t6 : (o.f0 == 6) = true := beq_iff_eq.2 c6
            clear c6
            as_aux_lemma =>
              have hL : L.length ≤ 1000 := by have := HI.out.len; omega
              have hD : D.length ≤ 1000 := by have := HI.out.len; omega
              obtain ⟨L2, hl2j⟩ : ∃ L2, L.drop L.length = L2 := ⟨_, rfl⟩
              obtain ⟨D2, hd2j⟩ : ∃ D2, D ++ (L.take L.length).map (sayDone o.f5) = D2 := ⟨_, rfl⟩
              obtain ⟨ts, htsj⟩ : ∃ b, (L.take L.length).map S65.f0 = b := ⟨_, rfl⟩
              have E0 := Aside0.mk hl2j
              have E1 := Aside0.mk hd2j
              have E2 := Aside0.mk htsj
              have HTL : Aside0 (ts.length ≤ 1000) := ⟨by rw [← htsj, List.length_map, List.length_take]; omega⟩
              have INV : Aside0 (InvT (i + 1) L2 D2 0) := ⟨by rw [← hl2j, ← hd2j]; exact invT_fail HI.out _⟩
              clear hl2j hd2j htsj
              go_upto_region 32 with (first | (go_at_call 52; have hwb := below_size HB.out; (with_reducible refine (pFail_at _ _ L _ _ D g o.f5 _ (Kd.R_reads' HO0.out).2.2 (Kd.R_reads' HO0.out).2.1 (Kd.R_reads' HO1.out).2.2 (Kd.R_reads' HO1.out).2.1 hL hD ).mono ?_); rintro e w5 ⟨AL2, cL2, AD2, cD2, AX, cX, rfl, h0, h1, h2, hb⟩; rw [E0.out] at h0; rw [E1.out] at h1; rw [E2.out] at h2; rw [E0.out, E1.out, E2.out]; clear bk7_0 bk7_1 bk7_2 bk7_f bk8_0 bk8_1 bk8_2 bk8_f bk12_0 bk12_1 bk12_2 bk12_3 bk12_4 bk12_5 bk12_f bk13_0 bk13_1 bk13_2 bk13_f bk14_0 bk14_1 bk14_2 bk14_f bk15_0 bk15_1 bk15_2 bk15_f bk22_0 bk22_1 bk22_2 bk22_3 bk22_4 bk22_5 bk22_f bk23_0 bk23_1 bk23_2 bk23_3 bk23_4 bk23_5 bk23_f; replace BK7 := Aside0.mk (blk_below BK7.out hb); replace BK8 := Aside0.mk (blk_below BK8.out hb); replace BK12 := Aside0.mk (blk_below BK12.out hb); replace BK13 := Aside0.mk (blk_below BK13.out hb); replace BK14 := Aside0.mk (blk_below BK14.out hb); replace BK15 := Aside0.mk (blk_below BK15.out hb); replace BK22 := Aside0.mk (blk_below BK22.out hb); replace BK23 := Aside0.mk (blk_below BK23.out hb); replace HO0 := Aside0.mk (Kd.R_below HO0.out hb); replace HO1 := Aside0.mk (Kd.R_below HO1.out hb); replace HP0 := Aside0.mk (Kd.R_below HP0.out hb); replace HP1 := Aside0.mk (Kd.R_below HP1.out hb); replace HK0 := Aside0.mk (Kd.R_below HK0.out hb); replace HK1 := Aside0.mk (Kd.R_below HK1.out hb); have HN0 := Aside0.mk (Kd.R_lower h0 hwb); have HN1 := Aside0.mk (Kd.R_lower h1 hwb); have HX := Aside0.mk (Kd.R_lower h2 hwb); replace HB := Aside0.mk (below_step HB.out hb); have bk7_0 := blk_c BK7.out 0 rfl; have bk7_1 := blk_c BK7.out 1 rfl; have bk7_2 := blk_c BK7.out 2 rfl; have bk8_0 := blk_c BK8.out 0 rfl; have bk8_1 := blk_c BK8.out 1 rfl; have bk8_2 := blk_c BK8.out 2 rfl; have bk12_0 := blk_c BK12.out 0 rfl; have bk12_1 := blk_c BK12.out 1 rfl; have bk12_2 := blk_c BK12.out 2 rfl; have bk12_3 := blk_c BK12.out 3 rfl; have bk12_4 := blk_c BK12.out 4 rfl; have bk12_5 := blk_c BK12.out 5 rfl; have bk13_0 := blk_c BK13.out 0 rfl; have bk13_1 := blk_c BK13.out 1 rfl; have bk13_2 := blk_c BK13.out 2 rfl; have bk14_0 := blk_c BK14.out 0 rfl; have bk14_1 := blk_c BK14.out 1 rfl; have bk14_2 := blk_c BK14.out 2 rfl; have bk15_0 := blk_c BK15.out 0 rfl; have bk15_1 := blk_c BK15.out 1 rfl; have bk15_2 := blk_c BK15.out 2 rfl; have bk22_0 := blk_c BK22.out 0 rfl; have bk22_1 := blk_c BK22.out 1 rfl; have bk22_2 := blk_c BK22.out 2 rfl; have bk22_3 := blk_c BK22.out 3 rfl; have bk22_4 := blk_c BK22.out 4 rfl; have bk22_5 := blk_c BK22.out 5 rfl; have bk23_0 := blk_c BK23.out 0 rfl; have bk23_1 := blk_c BK23.out 1 rfl; have bk23_2 := blk_c BK23.out 2 rfl; have bk23_3 := blk_c BK23.out 3 rfl; have bk23_4 := blk_c BK23.out 4 rfl; have bk23_5 := blk_c BK23.out 5 rfl; have bk7_f := fun i => blk_frozen BK7.out i; have bk8_f := fun i => blk_frozen BK8.out i; have bk12_f := fun i => blk_frozen BK12.out i; have bk13_f := fun i => blk_frozen BK13.out i; have bk14_f := fun i => blk_frozen BK14.out i; have bk15_f := fun i => blk_frozen BK15.out i; have bk22_f := fun i => blk_frozen BK22.out i; have bk23_f := fun i => blk_frozen BK23.out i; clear h0 h1 h2 hb hwb))
              clear bk7_0 bk7_1 bk7_2 bk7_f bk8_0 bk8_1 bk8_2 bk8_f bk12_0 bk12_1 bk12_2 bk12_3 bk12_4 bk12_5 bk12_f bk13_0 bk13_1 bk13_2 bk13_f bk14_0 bk14_1 bk14_2 bk14_f bk15_0 bk15_1 bk15_2 bk15_f bk22_0 bk22_1 bk22_2 bk22_3 bk22_4 bk22_5 bk22_f bk23_0 bk23_1 bk23_2 bk23_3 bk23_4 bk23_5 bk23_f
              have s0_HO0 := far_set3 HO0.out (blk_rowG BK7.out HO0.out (by decide)) (.slice AL2 L2.length cL2) (.slice AD2 D2.length cD2) (.int .i64 0)
              have s0_HO1 := far_set3 HO1.out (blk_rowG BK7.out HO1.out (by decide)) (.slice AL2 L2.length cL2) (.slice AD2 D2.length cD2) (.int .i64 0)
              have s0_HP0 := far_set3 HP0.out (blk_rowG BK7.out HP0.out (by decide)) (.slice AL2 L2.length cL2) (.slice AD2 D2.length cD2) (.int .i64 0)
              have s0_HP1 := far_set3 HP1.out (blk_rowG BK7.out HP1.out (by decide)) (.slice AL2 L2.length cL2) (.slice AD2 D2.length cD2) (.int .i64 0)
              have s0_HK0 := far_set3 HK0.out (blk_rowG BK7.out HK0.out (by decide)) (.slice AL2 L2.length cL2) (.slice AD2 D2.length cD2) (.int .i64 0)
              have s0_HK1 := far_set3 HK1.out (blk_rowG BK7.out HK1.out (by decide)) (.slice AL2 L2.length cL2) (.slice AD2 D2.length cD2) (.int .i64 0)
              have s0_HN0 := far_set3 HN0.out (blk_rowG BK7.out HN0.out (by decide)) (.slice AL2 L2.length cL2) (.slice AD2 D2.length cD2) (.int .i64 0)
              have s0_HN1 := far_set3 HN1.out (blk_rowG BK7.out HN1.out (by decide)) (.slice AL2 L2.length cL2) (.slice AD2 D2.length cD2) (.int .i64 0)
              have s0_HX := far_int3 HX.out (blk_rowG BK7.out HX.out (by decide)) (.slice AL2 L2.length cL2) (.slice AD2 D2.length cD2) (.int .i64 0)
              have s0_BK7 := blk_put3 BK7.out (.slice AL2 L2.length cL2) (.slice AD2 D2.length cD2) (.int .i64 0)
              have s0_BK8 := blk_far3 BK8.out (Ne.symm NE_gb7_gb8.out) (.slice AL2 L2.length cL2) (.slice AD2 D2.length cD2) (.int .i64 0)
              have s0_BK12 := blk_far3 BK12.out (Ne.symm NE_gb7_gb12.out) (.slice AL2 L2.length cL2) (.slice AD2 D2.length cD2) (.int .i64 0)
              have s0_BK13 := blk_far3 BK13.out (Ne.symm NE_gb7_gb13.out) (.slice AL2 L2.length cL2) (.slice AD2 D2.length cD2) (.int .i64 0)
              have s0_BK14 := blk_far3 BK14.out (Ne.symm NE_gb7_gb14.out) (.slice AL2 L2.length cL2) (.slice AD2 D2.length cD2) (.int .i64 0)
              have s0_BK15 := blk_far3 BK15.out (Ne.symm NE_gb7_gb15.out) (.slice AL2 L2.length cL2) (.slice AD2 D2.length cD2) (.int .i64 0)
              have s0_BK22 := blk_far3 BK22.out (Ne.symm NE_gb7_gb22.out) (.slice AL2 L2.length cL2) (.slice AD2 D2.length cD2) (.int .i64 0)
              have s0_BK23 := blk_far3 BK23.out (Ne.symm NE_gb7_gb23.out) (.slice AL2 L2.length cL2) (.slice AD2 D2.length cD2) (.int .i64 0)
              have s0_HB := below_set3 HB.out GE_gb7.out (.slice AL2 L2.length cL2) (.slice AD2 D2.length cD2) (.int .i64 0)
              have n_BK7 := Aside0.mk s0_BK7
              have n_BK8 := Aside0.mk s0_BK8
              have n_BK12 := Aside0.mk s0_BK12
              have n_BK13 := Aside0.mk s0_BK13
              have n_BK14 := Aside0.mk s0_BK14
              have n_BK15 := Aside0.mk s0_BK15
              have n_BK22 := Aside0.mk s0_BK22
              have n_BK23 := Aside0.mk s0_BK23
              have n_HO0 := Aside0.mk s0_HO0
              have n_HO1 := Aside0.mk s0_HO1
              have n_HP0 := Aside0.mk s0_HP0
              have n_HP1 := Aside0.mk s0_HP1
              have n_HK0 := Aside0.mk s0_HK0
              have n_HK1 := Aside0.mk s0_HK1
              have n_HN0 := Aside0.mk s0_HN0
              have n_HN1 := Aside0.mk s0_HN1
              have n_HX := Aside0.mk s0_HX
              have n_HB := Aside0.mk s0_HB
              clear s0_BK7 s0_BK8 s0_BK12 s0_BK13 s0_BK14 s0_BK15 s0_BK22 s0_BK23 s0_HO0 s0_HO1 s0_HP0 s0_HP1 s0_HK0 s0_HK1 s0_HN0 s0_HN1 s0_HX s0_HB
              clear BK7 BK8 BK12 BK13 BK14 BK15 BK22 BK23 HO0 HO1 HP0 HP1 HK0 HK1 HN0 HN1 HX HB
              generalize (((w5.setCell ⟨gb7, 0, none⟩ (.slice AL2 L2.length cL2)).setCell ⟨gb7, 1, none⟩ (.slice AD2 D2.length cD2)).setCell ⟨gb7, 2, none⟩ (.int .i64 0)) = w6 at n_BK7 n_BK8 n_BK12 n_BK13 n_BK14 n_BK15 n_BK22 n_BK23 n_HO0 n_HO1 n_HP0 n_HP1 n_HK0 n_HK1 n_HN0 n_HN1 n_HX n_HB ⊢
              have BK7 := n_BK7
              have BK8 := n_BK8
              have BK12 := n_BK12
              have BK13 := n_BK13
              have BK14 := n_BK14
              have BK15 := n_BK15
              have BK22 := n_BK22
              have BK23 := n_BK23
              have HO0 := n_HO0
              have HO1 := n_HO1
              have HP0 := n_HP0
              have HP1 := n_HP1
              have HK0 := n_HK0
              have HK1 := n_HK1
              have HN0 := n_HN0
              have HN1 := n_HN1
              have HX := n_HX
              have HB := n_HB
              clear n_BK7 n_BK8 n_BK12 n_BK13 n_BK14 n_BK15 n_BK22 n_BK23 n_HO0 n_HO1 n_HP0 n_HP1 n_HK0 n_HK1 n_HN0 n_HN1 n_HX n_HB
              have bk7_0 := blk_c BK7.out 0 rfl; have bk7_1 := blk_c BK7.out 1 rfl; have bk7_2 := blk_c BK7.out 2 rfl; have bk8_0 := blk_c BK8.out 0 rfl; have bk8_1 := blk_c BK8.out 1 rfl; have bk8_2 := blk_c BK8.out 2 rfl; have bk12_0 := blk_c BK12.out 0 rfl; have bk12_1 := blk_c BK12.out 1 rfl; have bk12_2 := blk_c BK12.out 2 rfl; have bk12_3 := blk_c BK12.out 3 rfl; have bk12_4 := blk_c BK12.out 4 rfl; have bk12_5 := blk_c BK12.out 5 rfl; have bk13_0 := blk_c BK13.out 0 rfl; have bk13_1 := blk_c BK13.out 1 rfl; have bk13_2 := blk_c BK13.out 2 rfl; have bk14_0 := blk_c BK14.out 0 rfl; have bk14_1 := blk_c BK14.out 1 rfl; have bk14_2 := blk_c BK14.out 2 rfl; have bk15_0 := blk_c BK15.out 0 rfl; have bk15_1 := blk_c BK15.out 1 rfl; have bk15_2 := blk_c BK15.out 2 rfl; have bk22_0 := blk_c BK22.out 0 rfl; have bk22_1 := blk_c BK22.out 1 rfl; have bk22_2 := blk_c BK22.out 2 rfl; have bk22_3 := blk_c BK22.out 3 rfl; have bk22_4 := blk_c BK22.out 4 rfl; have bk22_5 := blk_c BK22.out 5 rfl; have bk23_0 := blk_c BK23.out 0 rfl; have bk23_1 := blk_c BK23.out 1 rfl; have bk23_2 := blk_c BK23.out 2 rfl; have bk23_3 := blk_c BK23.out 3 rfl; have bk23_4 := blk_c BK23.out 4 rfl; have bk23_5 := blk_c BK23.out 5 rfl; have bk7_f := fun i => blk_frozen BK7.out i; have bk8_f := fun i => blk_frozen BK8.out i; have bk12_f := fun i => blk_frozen BK12.out i; have bk13_f := fun i => blk_frozen BK13.out i; have bk14_f := fun i => blk_frozen BK14.out i; have bk15_f := fun i => blk_frozen BK15.out i; have bk22_f := fun i => blk_frozen BK22.out i; have bk23_f := fun i => blk_frozen BK23.out i
              go_wp2_with (first | (go_at_call 53; have hwb := below_size HB.out; (with_reducible refine (refFail_at _ _ L _ _ D w.heap.size g o.f5 _ hwb HP0.out HP1.out hL hD ).mono ?_); rintro e w5 ⟨RL2, rL2, RD2, rD2, AY, cY, rfl, h0, h1, h2, hb⟩; rw [E0.out] at h0; rw [E1.out] at h1; rw [E2.out] at h2; rw [E0.out, E1.out, E2.out]; clear bk7_0 bk7_1 bk7_2 bk7_f bk8_0 bk8_1 bk8_2 bk8_f bk12_0 bk12_1 bk12_2 bk12_3 bk12_4 bk12_5 bk12_f bk13_0 bk13_1 bk13_2 bk13_f bk14_0 bk14_1 bk14_2 bk14_f bk15_0 bk15_1 bk15_2 bk15_f bk22_0 bk22_1 bk22_2 bk22_3 bk22_4 bk22_5 bk22_f bk23_0 bk23_1 bk23_2 bk23_3 bk23_4 bk23_5 bk23_f; replace BK7 := Aside0.mk (blk_below BK7.out hb); replace BK8 := Aside0.mk (blk_below BK8.out hb); replace BK12 := Aside0.mk (blk_below BK12.out hb); replace BK13 := Aside0.mk (blk_below BK13.out hb); replace BK14 := Aside0.mk (blk_below BK14.out hb); replace BK15 := Aside0.mk (blk_below BK15.out hb); replace BK22 := Aside0.mk (blk_below BK22.out hb); replace BK23 := Aside0.mk (blk_below BK23.out hb); replace HO0 := Aside0.mk (Kd.R_below HO0.out hb); replace HO1 := Aside0.mk (Kd.R_below HO1.out hb); replace HP0 := Aside0.mk (Kd.R_below HP0.out hb); replace HP1 := Aside0.mk (Kd.R_below HP1.out hb); replace HK0 := Aside0.mk (Kd.R_below HK0.out hb); replace HK1 := Aside0.mk (Kd.R_below HK1.out hb); replace HN0 := Aside0.mk (Kd.R_below HN0.out hb); replace HN1 := Aside0.mk (Kd.R_below HN1.out hb); replace HX := Aside0.mk (Kd.R_below HX.out hb); have HM0 := Aside0.mk (h0); have HM1 := Aside0.mk (h1); have HY := Aside0.mk (h2); replace HB := Aside0.mk (below_step HB.out hb); have bk7_0 := blk_c BK7.out 0 rfl; have bk7_1 := blk_c BK7.out 1 rfl; have bk7_2 := blk_c BK7.out 2 rfl; have bk8_0 := blk_c BK8.out 0 rfl; have bk8_1 := blk_c BK8.out 1 rfl; have bk8_2 := blk_c BK8.out 2 rfl; have bk12_0 := blk_c BK12.out 0 rfl; have bk12_1 := blk_c BK12.out 1 rfl; have bk12_2 := blk_c BK12.out 2 rfl; have bk12_3 := blk_c BK12.out 3 rfl; have bk12_4 := blk_c BK12.out 4 rfl; have bk12_5 := blk_c BK12.out 5 rfl; have bk13_0 := blk_c BK13.out 0 rfl; have bk13_1 := blk_c BK13.out 1 rfl; have bk13_2 := blk_c BK13.out 2 rfl; have bk14_0 := blk_c BK14.out 0 rfl; have bk14_1 := blk_c BK14.out 1 rfl; have bk14_2 := blk_c BK14.out 2 rfl; have bk15_0 := blk_c BK15.out 0 rfl; have bk15_1 := blk_c BK15.out 1 rfl; have bk15_2 := blk_c BK15.out 2 rfl; have bk22_0 := blk_c BK22.out 0 rfl; have bk22_1 := blk_c BK22.out 1 rfl; have bk22_2 := blk_c BK22.out 2 rfl; have bk22_3 := blk_c BK22.out 3 rfl; have bk22_4 := blk_c BK22.out 4 rfl; have bk22_5 := blk_c BK22.out 5 rfl; have bk23_0 := blk_c BK23.out 0 rfl; have bk23_1 := blk_c BK23.out 1 rfl; have bk23_2 := blk_c BK23.out 2 rfl; have bk23_3 := blk_c BK23.out 3 rfl; have bk23_4 := blk_c BK23.out 4 rfl; have bk23_5 := blk_c BK23.out 5 rfl; have bk7_f := fun i => blk_frozen BK7.out i; have bk8_f := fun i => blk_frozen BK8.out i; have bk12_f := fun i => blk_frozen BK12.out i; have bk13_f := fun i => blk_frozen BK13.out i; have bk14_f := fun i => blk_frozen BK14.out i; have bk15_f := fun i => blk_frozen BK15.out i; have bk22_f := fun i => blk_frozen BK22.out i; have bk23_f := fun i => blk_frozen BK23.out i; clear h0 h1 h2 hb hwb))
              go_meet
              case rel =>
                clear bk7_0 bk7_1 bk7_2 bk7_f bk8_0 bk8_1 bk8_2 bk8_f bk12_0 bk12_1 bk12_2 bk12_3 bk12_4 bk12_5 bk12_f bk13_0 bk13_1 bk13_2 bk13_f bk14_0 bk14_1 bk14_2 bk14_f bk15_0 bk15_1 bk15_2 bk15_f bk22_0 bk22_1 bk22_2 bk22_3 bk22_4 bk22_5 bk22_f bk23_0 bk23_1 bk23_2 bk23_3 bk23_4 bk23_5 bk23_f
                have s0_HO0 := far_set3 HO0.out (blk_rowG BK8.out HO0.out (by decide)) (.slice RL2 L2.length rL2) (.slice RD2 D2.length rD2) (.int .i64 0)
                have s0_HO1 := far_set3 HO1.out (blk_rowG BK8.out HO1.out (by decide)) (.slice RL2 L2.length rL2) (.slice RD2 D2.length rD2) (.int .i64 0)
                have s0_HP0 := far_set3 HP0.out (blk_rowG BK8.out HP0.out (by decide)) (.slice RL2 L2.length rL2) (.slice RD2 D2.length rD2) (.int .i64 0)
                have s0_HP1 := far_set3 HP1.out (blk_rowG BK8.out HP1.out (by decide)) (.slice RL2 L2.length rL2) (.slice RD2 D2.length rD2) (.int .i64 0)
                have s0_HK0 := far_set3 HK0.out (blk_rowG BK8.out HK0.out (by decide)) (.slice RL2 L2.length rL2) (.slice RD2 D2.length rD2) (.int .i64 0)
                have s0_HK1 := far_set3 HK1.out (blk_rowG BK8.out HK1.out (by decide)) (.slice RL2 L2.length rL2) (.slice RD2 D2.length rD2) (.int .i64 0)
                have s0_HN0 := far_set3 HN0.out (blk_rowG BK8.out HN0.out (by decide)) (.slice RL2 L2.length rL2) (.slice RD2 D2.length rD2) (.int .i64 0)
                have s0_HN1 := far_set3 HN1.out (blk_rowG BK8.out HN1.out (by decide)) (.slice RL2 L2.length rL2) (.slice RD2 D2.length rD2) (.int .i64 0)
                have s0_HX := far_int3 HX.out (blk_rowG BK8.out HX.out (by decide)) (.slice RL2 L2.length rL2) (.slice RD2 D2.length rD2) (.int .i64 0)
                have s0_HM0 := far_set3 HM0.out (blk_rowG BK8.out HM0.out (by decide)) (.slice RL2 L2.length rL2) (.slice RD2 D2.length rD2) (.int .i64 0)
                have s0_HM1 := far_set3 HM1.out (blk_rowG BK8.out HM1.out (by decide)) (.slice RL2 L2.length rL2) (.slice RD2 D2.length rD2) (.int .i64 0)
                have s0_HY := far_int3 HY.out (blk_rowG BK8.out HY.out (by decide)) (.slice RL2 L2.length rL2) (.slice RD2 D2.length rD2) (.int .i64 0)
                have s0_BK7 := blk_far3 BK7.out NE_gb7_gb8.out (.slice RL2 L2.length rL2) (.slice RD2 D2.length rD2) (.int .i64 0)
                have s0_BK8 := blk_put3 BK8.out (.slice RL2 L2.length rL2) (.slice RD2 D2.length rD2) (.int .i64 0)
                have s0_BK12 := blk_far3 BK12.out (Ne.symm NE_gb8_gb12.out) (.slice RL2 L2.length rL2) (.slice RD2 D2.length rD2) (.int .i64 0)
                have s0_BK13 := blk_far3 BK13.out (Ne.symm NE_gb8_gb13.out) (.slice RL2 L2.length rL2) (.slice RD2 D2.length rD2) (.int .i64 0)
                have s0_BK14 := blk_far3 BK14.out (Ne.symm NE_gb8_gb14.out) (.slice RL2 L2.length rL2) (.slice RD2 D2.length rD2) (.int .i64 0)
                have s0_BK15 := blk_far3 BK15.out (Ne.symm NE_gb8_gb15.out) (.slice RL2 L2.length rL2) (.slice RD2 D2.length rD2) (.int .i64 0)
                have s0_BK22 := blk_far3 BK22.out (Ne.symm NE_gb8_gb22.out) (.slice RL2 L2.length rL2) (.slice RD2 D2.length rD2) (.int .i64 0)
                have s0_BK23 := blk_far3 BK23.out (Ne.symm NE_gb8_gb23.out) (.slice RL2 L2.length rL2) (.slice RD2 D2.length rD2) (.int .i64 0)
                have s0_HB := below_set3 HB.out GE_gb8.out (.slice RL2 L2.length rL2) (.slice RD2 D2.length rD2) (.int .i64 0)
                have n_BK7 := Aside0.mk s0_BK7
                have n_BK8 := Aside0.mk s0_BK8
                have n_BK12 := Aside0.mk s0_BK12
                have n_BK13 := Aside0.mk s0_BK13
                have n_BK14 := Aside0.mk s0_BK14
                have n_BK15 := Aside0.mk s0_BK15
                have n_BK22 := Aside0.mk s0_BK22
                have n_BK23 := Aside0.mk s0_BK23
                have n_HO0 := Aside0.mk s0_HO0
                have n_HO1 := Aside0.mk s0_HO1
                have n_HP0 := Aside0.mk s0_HP0
                have n_HP1 := Aside0.mk s0_HP1
                have n_HK0 := Aside0.mk s0_HK0
                have n_HK1 := Aside0.mk s0_HK1
                have n_HN0 := Aside0.mk s0_HN0
                have n_HN1 := Aside0.mk s0_HN1
                have n_HX := Aside0.mk s0_HX
                have n_HM0 := Aside0.mk s0_HM0
                have n_HM1 := Aside0.mk s0_HM1
                have n_HY := Aside0.mk s0_HY
                have n_HB := Aside0.mk s0_HB
                clear s0_BK7 s0_BK8 s0_BK12 s0_BK13 s0_BK14 s0_BK15 s0_BK22 s0_BK23 s0_HO0 s0_HO1 s0_HP0 s0_HP1 s0_HK0 s0_HK1 s0_HN0 s0_HN1 s0_HX s0_HM0 s0_HM1 s0_HY s0_HB
                clear BK7 BK8 BK12 BK13 BK14 BK15 BK22 BK23 HO0 HO1 HP0 HP1 HK0 HK1 HN0 HN1 HX HM0 HM1 HY HB
                generalize (((w5.setCell ⟨gb8, 0, none⟩ (.slice RL2 L2.length rL2)).setCell ⟨gb8, 1, none⟩ (.slice RD2 D2.length rD2)).setCell ⟨gb8, 2, none⟩ (.int .i64 0)) = w7 at n_BK7 n_BK8 n_BK12 n_BK13 n_BK14 n_BK15 n_BK22 n_BK23 n_HO0 n_HO1 n_HP0 n_HP1 n_HK0 n_HK1 n_HN0 n_HN1 n_HX n_HM0 n_HM1 n_HY n_HB ⊢
                have BK7 := n_BK7
                have BK8 := n_BK8
                have BK12 := n_BK12
                have BK13 := n_BK13
                have BK14 := n_BK14
                have BK15 := n_BK15
                have BK22 := n_BK22
                have BK23 := n_BK23
                have HO0 := n_HO0
                have HO1 := n_HO1
                have HP0 := n_HP0
                have HP1 := n_HP1
                have HK0 := n_HK0
                have HK1 := n_HK1
                have HN0 := n_HN0
                have HN1 := n_HN1
                have HX := n_HX
                have HM0 := n_HM0
                have HM1 := n_HM1
                have HY := n_HY
                have HB := n_HB
                clear n_BK7 n_BK8 n_BK12 n_BK13 n_BK14 n_BK15 n_BK22 n_BK23 n_HO0 n_HO1 n_HP0 n_HP1 n_HK0 n_HK1 n_HN0 n_HN1 n_HX n_HM0 n_HM1 n_HY n_HB
                have bk7_0 := blk_c BK7.out 0 rfl; have bk7_1 := blk_c BK7.out 1 rfl; have bk7_2 := blk_c BK7.out 2 rfl; have bk8_0 := blk_c BK8.out 0 rfl; have bk8_1 := blk_c BK8.out 1 rfl; have bk8_2 := blk_c BK8.out 2 rfl; have bk12_0 := blk_c BK12.out 0 rfl; have bk12_1 := blk_c BK12.out 1 rfl; have bk12_2 := blk_c BK12.out 2 rfl; have bk12_3 := blk_c BK12.out 3 rfl; have bk12_4 := blk_c BK12.out 4 rfl; have bk12_5 := blk_c BK12.out 5 rfl; have bk13_0 := blk_c BK13.out 0 rfl; have bk13_1 := blk_c BK13.out 1 rfl; have bk13_2 := blk_c BK13.out 2 rfl; have bk14_0 := blk_c BK14.out 0 rfl; have bk14_1 := blk_c BK14.out 1 rfl; have bk14_2 := blk_c BK14.out 2 rfl; have bk15_0 := blk_c BK15.out 0 rfl; have bk15_1 := blk_c BK15.out 1 rfl; have bk15_2 := blk_c BK15.out 2 rfl; have bk22_0 := blk_c BK22.out 0 rfl; have bk22_1 := blk_c BK22.out 1 rfl; have bk22_2 := blk_c BK22.out 2 rfl; have bk22_3 := blk_c BK22.out 3 rfl; have bk22_4 := blk_c BK22.out 4 rfl; have bk22_5 := blk_c BK22.out 5 rfl; have bk23_0 := blk_c BK23.out 0 rfl; have bk23_1 := blk_c BK23.out 1 rfl; have bk23_2 := blk_c BK23.out 2 rfl; have bk23_3 := blk_c BK23.out 3 rfl; have bk23_4 := blk_c BK23.out 4 rfl; have bk23_5 := blk_c BK23.out 5 rfl; have bk7_f := fun i => blk_frozen BK7.out i; have bk8_f := fun i => blk_frozen BK8.out i; have bk12_f := fun i => blk_frozen BK12.out i; have bk13_f := fun i => blk_frozen BK13.out i; have bk14_f := fun i => blk_frozen BK14.out i; have bk15_f := fun i => blk_frozen BK15.out i; have bk22_f := fun i => blk_frozen BK22.out i; have bk23_f := fun i => blk_frozen BK23.out i
                exact ⟨L2, D2, 0, last, false, 0, ts, ⟨0, 0, 0, 0, 0, 0⟩, AL2, cL2, AD2, cD2, RL2, rL2, RD2, rD2, AX, cX, AY, cY, rfl, rfl, rfl, rfl, rfl, rfl, rfl, rfl, INV, HTL, BK7, BK8, BK12, BK13, BK14, BK15, BK22, BK23, HN0, HN1, HM0, HM1, HX, HY, HO0, HO1, HP0, HP1, HK0, HK1, HB⟩
          have t6 : (o.f0 == 6) = false := beq_false_of_ne c6
          clear c6
          have hL : L.length ≤ 1000 := by have := HI.out.len; omega
          have hD : D.length ≤ 1000 := by have := HI.out.len; omega
          obtain ⟨D2, hd2j⟩ : ∃ D2, (takeR D o.f1).1 = D2 := ⟨_, rfl⟩
          obtain ⟨q, hqj⟩ : ∃ b, (takeR D o.f1).2.1 = b := ⟨_, rfl⟩
          obtain ⟨bb, hbbj⟩ : ∃ b, (takeR D o.f1).2.2 = b := ⟨_, rfl⟩
          have E0 := Aside0.mk hd2j
          have E1 := Aside0.mk hqj
          have E2 := Aside0.mk hbbj
          have INV : Aside0 (InvT (i + 1) L D2 g) := ⟨by rw [← hd2j]; exact invT_take HI.out _⟩
          clear hd2j hqj hbbj
          have n722 := NE_gb7_gb22.out
          have n227 := Ne.symm NE_gb7_gb22.out
          go_upto_region 15 with (first | (go_at_call 54; have hwb := below_size HB.out; (with_reducible refine (pTake_at _ _ L _ _ D g o.f1 _ (Kd.R_reads' HO0.out).2.2 (Kd.R_reads' HO0.out).2.1 (Kd.R_reads' HO1.out).2.2 (Kd.R_reads' HO1.out).2.1 hL hD).mono ?_); rintro e w5 ⟨AL2, cL2, AD2, cD2, rfl, h0, h1, hb⟩; rw [E0.out] at h1; rw [E0.out, E1.out, E2.out]; have X_gb22_HN0 : Aside0 (some gb22 ≠ (.slice AL2 L.length cL2 : Value).ownBlock) := ⟨fun e => by have q1 := Kd.R_base h0 gb22 e.symm; have q2 := blk_lt BK22.out; omega⟩; have X_gb22_HN1 : Aside0 (some gb22 ≠ (.slice AD2 D2.length cD2 : Value).ownBlock) := ⟨fun e => by have q1 := Kd.R_base h1 gb22 e.symm; have q2 := blk_lt BK22.out; omega⟩; have X_gb23_HN0 : Aside0 (some gb23 ≠ (.slice AL2 L.length cL2 : Value).ownBlock) := ⟨fun e => by have q1 := Kd.R_base h0 gb23 e.symm; have q2 := blk_lt BK23.out; omega⟩; have X_gb23_HN1 : Aside0 (some gb23 ≠ (.slice AD2 D2.length cD2 : Value).ownBlock) := ⟨fun e => by have q1 := Kd.R_base h1 gb23 e.symm; have q2 := blk_lt BK23.out; omega⟩; clear bk7_0 bk7_1 bk7_2 bk7_f bk8_0 bk8_1 bk8_2 bk8_f bk12_0 bk12_1 bk12_2 bk12_3 bk12_4 bk12_5 bk12_f bk13_0 bk13_1 bk13_2 bk13_f bk14_0 bk14_1 bk14_2 bk14_f bk15_0 bk15_1 bk15_2 bk15_f bk22_0 bk22_1 bk22_2 bk22_3 bk22_4 bk22_5 bk22_f bk23_0 bk23_1 bk23_2 bk23_3 bk23_4 bk23_5 bk23_f; replace BK7 := Aside0.mk (blk_below BK7.out hb); replace BK8 := Aside0.mk (blk_below BK8.out hb); replace BK12 := Aside0.mk (blk_below BK12.out hb); replace BK13 := Aside0.mk (blk_below BK13.out hb); replace BK14 := Aside0.mk (blk_below BK14.out hb); replace BK15 := Aside0.mk (blk_below BK15.out hb); replace BK22 := Aside0.mk (blk_below BK22.out hb); replace BK23 := Aside0.mk (blk_below BK23.out hb); replace HO0 := Aside0.mk (Kd.R_below HO0.out hb); replace HO1 := Aside0.mk (Kd.R_below HO1.out hb); replace HP0 := Aside0.mk (Kd.R_below HP0.out hb); replace HP1 := Aside0.mk (Kd.R_below HP1.out hb); replace HK0 := Aside0.mk (Kd.R_below HK0.out hb); replace HK1 := Aside0.mk (Kd.R_below HK1.out hb); have HN0 := Aside0.mk (Kd.R_lower h0 hwb); have HN1 := Aside0.mk (Kd.R_lower h1 hwb); replace HB := Aside0.mk (below_step HB.out hb); have bk7_0 := blk_c BK7.out 0 rfl; have bk7_1 := blk_c BK7.out 1 rfl; have bk7_2 := blk_c BK7.out 2 rfl; have bk8_0 := blk_c BK8.out 0 rfl; have bk8_1 := blk_c BK8.out 1 rfl; have bk8_2 := blk_c BK8.out 2 rfl; have bk12_0 := blk_c BK12.out 0 rfl; have bk12_1 := blk_c BK12.out 1 rfl; have bk12_2 := blk_c BK12.out 2 rfl; have bk12_3 := blk_c BK12.out 3 rfl; have bk12_4 := blk_c BK12.out 4 rfl; have bk12_5 := blk_c BK12.out 5 rfl; have bk13_0 := blk_c BK13.out 0 rfl; have bk13_1 := blk_c BK13.out 1 rfl; have bk13_2 := blk_c BK13.out 2 rfl; have bk14_0 := blk_c BK14.out 0 rfl; have bk14_1 := blk_c BK14.out 1 rfl; have bk14_2 := blk_c BK14.out 2 rfl; have bk15_0 := blk_c BK15.out 0 rfl; have bk15_1 := blk_c BK15.out 1 rfl; have bk15_2 := blk_c BK15.out 2 rfl; have bk22_0 := blk_c BK22.out 0 rfl; have bk22_1 := blk_c BK22.out 1 rfl; have bk22_2 := blk_c BK22.out 2 rfl; have bk22_3 := blk_c BK22.out 3 rfl; have bk22_4 := blk_c BK22.out 4 rfl; have bk22_5 := blk_c BK22.out 5 rfl; have bk23_0 := blk_c BK23.out 0 rfl; have bk23_1 := blk_c BK23.out 1 rfl; have bk23_2 := blk_c BK23.out 2 rfl; have bk23_3 := blk_c BK23.out 3 rfl; have bk23_4 := blk_c BK23.out 4 rfl; have bk23_5 := blk_c BK23.out 5 rfl; have bk7_f := fun i => blk_frozen BK7.out i; have bk8_f := fun i => blk_frozen BK8.out i; have bk12_f := fun i => blk_frozen BK12.out i; have bk13_f := fun i => blk_frozen BK13.out i; have bk14_f := fun i => blk_frozen BK14.out i; have bk15_f := fun i => blk_frozen BK15.out i; have bk22_f := fun i => blk_frozen BK22.out i; have bk23_f := fun i => blk_frozen BK23.out i; clear h0 h1 hb hwb))
          clear n722 n227
          clear bk7_0 bk7_1 bk7_2 bk7_f bk8_0 bk8_1 bk8_2 bk8_f bk12_0 bk12_1 bk12_2 bk12_3 bk12_4 bk12_5 bk12_f bk13_0 bk13_1 bk13_2 bk13_f bk14_0 bk14_1 bk14_2 bk14_f bk15_0 bk15_1 bk15_2 bk15_f bk22_0 bk22_1 bk22_2 bk22_3 bk22_4 bk22_5 bk22_f bk23_0 bk23_1 bk23_2 bk23_3 bk23_4 bk23_5 bk23_f
          have s0_HO0 := far_set3 HO0.out (blk_rowG BK7.out HO0.out (by decide)) (.slice AL2 L.length cL2) (.slice AD2 D2.length cD2) (.int .i64 g)
          have s0_HO1 := far_set3 HO1.out (blk_rowG BK7.out HO1.out (by decide)) (.slice AL2 L.length cL2) (.slice AD2 D2.length cD2) (.int .i64 g)
          have s0_HP0 := far_set3 HP0.out (blk_rowG BK7.out HP0.out (by decide)) (.slice AL2 L.length cL2) (.slice AD2 D2.length cD2) (.int .i64 g)
          have s0_HP1 := far_set3 HP1.out (blk_rowG BK7.out HP1.out (by decide)) (.slice AL2 L.length cL2) (.slice AD2 D2.length cD2) (.int .i64 g)
          have s0_HK0 := far_set3 HK0.out (blk_rowG BK7.out HK0.out (by decide)) (.slice AL2 L.length cL2) (.slice AD2 D2.length cD2) (.int .i64 g)
          have s0_HK1 := far_set3 HK1.out (blk_rowG BK7.out HK1.out (by decide)) (.slice AL2 L.length cL2) (.slice AD2 D2.length cD2) (.int .i64 g)
          have s0_HN0 := far_set3 HN0.out (blk_rowG BK7.out HN0.out (by decide)) (.slice AL2 L.length cL2) (.slice AD2 D2.length cD2) (.int .i64 g)
          have s0_HN1 := far_set3 HN1.out (blk_rowG BK7.out HN1.out (by decide)) (.slice AL2 L.length cL2) (.slice AD2 D2.length cD2) (.int .i64 g)
          have s0_BK7 := blk_put3 BK7.out (.slice AL2 L.length cL2) (.slice AD2 D2.length cD2) (.int .i64 g)
          have s0_BK8 := blk_far3 BK8.out (Ne.symm NE_gb7_gb8.out) (.slice AL2 L.length cL2) (.slice AD2 D2.length cD2) (.int .i64 g)
          have s0_BK12 := blk_far3 BK12.out (Ne.symm NE_gb7_gb12.out) (.slice AL2 L.length cL2) (.slice AD2 D2.length cD2) (.int .i64 g)
          have s0_BK13 := blk_far3 BK13.out (Ne.symm NE_gb7_gb13.out) (.slice AL2 L.length cL2) (.slice AD2 D2.length cD2) (.int .i64 g)
          have s0_BK14 := blk_far3 BK14.out (Ne.symm NE_gb7_gb14.out) (.slice AL2 L.length cL2) (.slice AD2 D2.length cD2) (.int .i64 g)
          have s0_BK15 := blk_far3 BK15.out (Ne.symm NE_gb7_gb15.out) (.slice AL2 L.length cL2) (.slice AD2 D2.length cD2) (.int .i64 g)
          have s0_BK22 := blk_far3 BK22.out (Ne.symm NE_gb7_gb22.out) (.slice AL2 L.length cL2) (.slice AD2 D2.length cD2) (.int .i64 g)
          have s0_BK23 := blk_far3 BK23.out (Ne.symm NE_gb7_gb23.out) (.slice AL2 L.length cL2) (.slice AD2 D2.length cD2) (.int .i64 g)
          have s0_HB := below_set3 HB.out GE_gb7.out (.slice AL2 L.length cL2) (.slice AD2 D2.length cD2) (.int .i64 g)
          have s1_HO0 := far_set6 s0_HO0 (X_gb22_HO0.out) (.int .i64 q.f0) (.int .i64 q.f1) (.int .u64 q.f2) (.int .u64 q.f3) (.int .u8 q.f4) (.int .i64 q.f5)
          have s1_HO1 := far_set6 s0_HO1 (X_gb22_HO1.out) (.int .i64 q.f0) (.int .i64 q.f1) (.int .u64 q.f2) (.int .u64 q.f3) (.int .u8 q.f4) (.int .i64 q.f5)
          have s1_HP0 := far_set6 s0_HP0 (X_gb22_HP0.out) (.int .i64 q.f0) (.int .i64 q.f1) (.int .u64 q.f2) (.int .u64 q.f3) (.int .u8 q.f4) (.int .i64 q.f5)
          have s1_HP1 := far_set6 s0_HP1 (X_gb22_HP1.out) (.int .i64 q.f0) (.int .i64 q.f1) (.int .u64 q.f2) (.int .u64 q.f3) (.int .u8 q.f4) (.int .i64 q.f5)
          have s1_HK0 := far_set6 s0_HK0 (X_gb22_HK0.out) (.int .i64 q.f0) (.int .i64 q.f1) (.int .u64 q.f2) (.int .u64 q.f3) (.int .u8 q.f4) (.int .i64 q.f5)
          have s1_HK1 := far_set6 s0_HK1 (X_gb22_HK1.out) (.int .i64 q.f0) (.int .i64 q.f1) (.int .u64 q.f2) (.int .u64 q.f3) (.int .u8 q.f4) (.int .i64 q.f5)
          have s1_HN0 := far_set6 s0_HN0 (X_gb22_HN0.out) (.int .i64 q.f0) (.int .i64 q.f1) (.int .u64 q.f2) (.int .u64 q.f3) (.int .u8 q.f4) (.int .i64 q.f5)
          have s1_HN1 := far_set6 s0_HN1 (X_gb22_HN1.out) (.int .i64 q.f0) (.int .i64 q.f1) (.int .u64 q.f2) (.int .u64 q.f3) (.int .u8 q.f4) (.int .i64 q.f5)
          have s1_BK7 := blk_far6 s0_BK7 NE_gb7_gb22.out (.int .i64 q.f0) (.int .i64 q.f1) (.int .u64 q.f2) (.int .u64 q.f3) (.int .u8 q.f4) (.int .i64 q.f5)
          have s1_BK8 := blk_far6 s0_BK8 NE_gb8_gb22.out (.int .i64 q.f0) (.int .i64 q.f1) (.int .u64 q.f2) (.int .u64 q.f3) (.int .u8 q.f4) (.int .i64 q.f5)
          have s1_BK12 := blk_far6 s0_BK12 NE_gb12_gb22.out (.int .i64 q.f0) (.int .i64 q.f1) (.int .u64 q.f2) (.int .u64 q.f3) (.int .u8 q.f4) (.int .i64 q.f5)
          have s1_BK13 := blk_far6 s0_BK13 NE_gb13_gb22.out (.int .i64 q.f0) (.int .i64 q.f1) (.int .u64 q.f2) (.int .u64 q.f3) (.int .u8 q.f4) (.int .i64 q.f5)
          have s1_BK14 := blk_far6 s0_BK14 NE_gb14_gb22.out (.int .i64 q.f0) (.int .i64 q.f1) (.int .u64 q.f2) (.int .u64 q.f3) (.int .u8 q.f4) (.int .i64 q.f5)
          have s1_BK15 := blk_far6 s0_BK15 NE_gb15_gb22.out (.int .i64 q.f0) (.int .i64 q.f1) (.int .u64 q.f2) (.int .u64 q.f3) (.int .u8 q.f4) (.int .i64 q.f5)
          have s1_BK22 := blk_put6 s0_BK22 (.int .i64 q.f0) (.int .i64 q.f1) (.int .u64 q.f2) (.int .u64 q.f3) (.int .u8 q.f4) (.int .i64 q.f5)
          have s1_BK23 := blk_far6 s0_BK23 (Ne.symm NE_gb22_gb23.out) (.int .i64 q.f0) (.int .i64 q.f1) (.int .u64 q.f2) (.int .u64 q.f3) (.int .u8 q.f4) (.int .i64 q.f5)
          have s1_HB := below_set6 s0_HB GE_gb22.out (.int .i64 q.f0) (.int .i64 q.f1) (.int .u64 q.f2) (.int .u64 q.f3) (.int .u8 q.f4) (.int .i64 q.f5)
          have n_BK7 := Aside0.mk s1_BK7
          have n_BK8 := Aside0.mk s1_BK8
          have n_BK12 := Aside0.mk s1_BK12
          have n_BK13 := Aside0.mk s1_BK13
          have n_BK14 := Aside0.mk s1_BK14
          have n_BK15 := Aside0.mk s1_BK15
          have n_BK22 := Aside0.mk s1_BK22
          have n_BK23 := Aside0.mk s1_BK23
          have n_HO0 := Aside0.mk s1_HO0
          have n_HO1 := Aside0.mk s1_HO1
          have n_HP0 := Aside0.mk s1_HP0
          have n_HP1 := Aside0.mk s1_HP1
          have n_HK0 := Aside0.mk s1_HK0
          have n_HK1 := Aside0.mk s1_HK1
          have n_HN0 := Aside0.mk s1_HN0
          have n_HN1 := Aside0.mk s1_HN1
          have n_HB := Aside0.mk s1_HB
          clear s0_BK7 s0_BK8 s0_BK12 s0_BK13 s0_BK14 s0_BK15 s0_BK22 s0_BK23 s0_HO0 s0_HO1 s0_HP0 s0_HP1 s0_HK0 s0_HK1 s0_HN0 s0_HN1 s0_HB
          clear s1_BK7 s1_BK8 s1_BK12 s1_BK13 s1_BK14 s1_BK15 s1_BK22 s1_BK23 s1_HO0 s1_HO1 s1_HP0 s1_HP1 s1_HK0 s1_HK1 s1_HN0 s1_HN1 s1_HB
          clear BK7 BK8 BK12 BK13 BK14 BK15 BK22 BK23 HO0 HO1 HP0 HP1 HK0 HK1 HN0 HN1 HB
          generalize (((((((((w5.setCell ⟨gb7, 0, none⟩ (.slice AL2 L.length cL2)).setCell ⟨gb7, 1, none⟩ (.slice AD2 D2.length cD2)).setCell ⟨gb7, 2, none⟩ (.int .i64 g)).setCell ⟨gb22, 0, none⟩ (.int .i64 q.f0)).setCell ⟨gb22, 1, none⟩ (.int .i64 q.f1)).setCell ⟨gb22, 2, none⟩ (.int .u64 q.f2)).setCell ⟨gb22, 3, none⟩ (.int .u64 q.f3)).setCell ⟨gb22, 4, none⟩ (.int .u8 q.f4)).setCell ⟨gb22, 5, none⟩ (.int .i64 q.f5)) = w6 at n_BK7 n_BK8 n_BK12 n_BK13 n_BK14 n_BK15 n_BK22 n_BK23 n_HO0 n_HO1 n_HP0 n_HP1 n_HK0 n_HK1 n_HN0 n_HN1 n_HB ⊢
          have BK7 := n_BK7
          have BK8 := n_BK8
          have BK12 := n_BK12
          have BK13 := n_BK13
          have BK14 := n_BK14
          have BK15 := n_BK15
          have BK22 := n_BK22
          have BK23 := n_BK23
          have HO0 := n_HO0
          have HO1 := n_HO1
          have HP0 := n_HP0
          have HP1 := n_HP1
          have HK0 := n_HK0
          have HK1 := n_HK1
          have HN0 := n_HN0
          have HN1 := n_HN1
          have HB := n_HB
          clear n_BK7 n_BK8 n_BK12 n_BK13 n_BK14 n_BK15 n_BK22 n_BK23 n_HO0 n_HO1 n_HP0 n_HP1 n_HK0 n_HK1 n_HN0 n_HN1 n_HB
          have bk7_0 := blk_c BK7.out 0 rfl; have bk7_1 := blk_c BK7.out 1 rfl; have bk7_2 := blk_c BK7.out 2 rfl; have bk8_0 := blk_c BK8.out 0 rfl; have bk8_1 := blk_c BK8.out 1 rfl; have bk8_2 := blk_c BK8.out 2 rfl; have bk12_0 := blk_c BK12.out 0 rfl; have bk12_1 := blk_c BK12.out 1 rfl; have bk12_2 := blk_c BK12.out 2 rfl; have bk12_3 := blk_c BK12.out 3 rfl; have bk12_4 := blk_c BK12.out 4 rfl; have bk12_5 := blk_c BK12.out 5 rfl; have bk13_0 := blk_c BK13.out 0 rfl; have bk13_1 := blk_c BK13.out 1 rfl; have bk13_2 := blk_c BK13.out 2 rfl; have bk14_0 := blk_c BK14.out 0 rfl; have bk14_1 := blk_c BK14.out 1 rfl; have bk14_2 := blk_c BK14.out 2 rfl; have bk15_0 := blk_c BK15.out 0 rfl; have bk15_1 := blk_c BK15.out 1 rfl; have bk15_2 := blk_c BK15.out 2 rfl; have bk22_0 := blk_c BK22.out 0 rfl; have bk22_1 := blk_c BK22.out 1 rfl; have bk22_2 := blk_c BK22.out 2 rfl; have bk22_3 := blk_c BK22.out 3 rfl; have bk22_4 := blk_c BK22.out 4 rfl; have bk22_5 := blk_c BK22.out 5 rfl; have bk23_0 := blk_c BK23.out 0 rfl; have bk23_1 := blk_c BK23.out 1 rfl; have bk23_2 := blk_c BK23.out 2 rfl; have bk23_3 := blk_c BK23.out 3 rfl; have bk23_4 := blk_c BK23.out 4 rfl; have bk23_5 := blk_c BK23.out 5 rfl; have bk7_f := fun i => blk_frozen BK7.out i; have bk8_f := fun i => blk_frozen BK8.out i; have bk12_f := fun i => blk_frozen BK12.out i; have bk13_f := fun i => blk_frozen BK13.out i; have bk14_f := fun i => blk_frozen BK14.out i; have bk15_f := fun i => blk_frozen BK15.out i; have bk22_f := fun i => blk_frozen BK22.out i; have bk23_f := fun i => blk_frozen BK23.out i
          have n823 := NE_gb8_gb23.out
          have n238 := Ne.symm NE_gb8_gb23.out
          go_wp2_with (first | (go_at_call 55; have hwb := below_size HB.out; (with_reducible refine (refTake_at _ _ L _ _ D w.heap.size g o.f1 _ hwb HP0.out HP1.out hL hD).mono ?_); rintro e w5 ⟨RD2, rD2, rfl, h0, h1, ho, hb⟩; rw [E0.out] at h1 ho; rw [E0.out, E1.out, E2.out]; have X_gb23_HM0 : Aside0 (some gb23 ≠ (.slice RL L.length rL : Value).ownBlock) := X_gb23_HP0; have X_gb23_HM1 : Aside0 (some gb23 ≠ (.slice RD2 D2.length rD2 : Value).ownBlock) := ⟨fun e => by rcases ho gb23 e.symm with q1 | q1; exact X_gb23_HP1.out q1.symm; have q2 := blk_lt BK23.out; omega⟩; clear bk7_0 bk7_1 bk7_2 bk7_f bk8_0 bk8_1 bk8_2 bk8_f bk12_0 bk12_1 bk12_2 bk12_3 bk12_4 bk12_5 bk12_f bk13_0 bk13_1 bk13_2 bk13_f bk14_0 bk14_1 bk14_2 bk14_f bk15_0 bk15_1 bk15_2 bk15_f bk22_0 bk22_1 bk22_2 bk22_3 bk22_4 bk22_5 bk22_f bk23_0 bk23_1 bk23_2 bk23_3 bk23_4 bk23_5 bk23_f; replace BK7 := Aside0.mk (blk_below BK7.out hb); replace BK8 := Aside0.mk (blk_below BK8.out hb); replace BK12 := Aside0.mk (blk_below BK12.out hb); replace BK13 := Aside0.mk (blk_below BK13.out hb); replace BK14 := Aside0.mk (blk_below BK14.out hb); replace BK15 := Aside0.mk (blk_below BK15.out hb); replace BK22 := Aside0.mk (blk_below BK22.out hb); replace BK23 := Aside0.mk (blk_below BK23.out hb); replace HO0 := Aside0.mk (Kd.R_below HO0.out hb); replace HO1 := Aside0.mk (Kd.R_below HO1.out hb); replace HP0 := Aside0.mk (Kd.R_below HP0.out hb); replace HP1 := Aside0.mk (Kd.R_below HP1.out hb); replace HK0 := Aside0.mk (Kd.R_below HK0.out hb); replace HK1 := Aside0.mk (Kd.R_below HK1.out hb); replace HN0 := Aside0.mk (Kd.R_below HN0.out hb); replace HN1 := Aside0.mk (Kd.R_below HN1.out hb); have HM0 := Aside0.mk (h0); have HM1 := Aside0.mk (h1); replace HB := Aside0.mk (below_step HB.out hb); have bk7_0 := blk_c BK7.out 0 rfl; have bk7_1 := blk_c BK7.out 1 rfl; have bk7_2 := blk_c BK7.out 2 rfl; have bk8_0 := blk_c BK8.out 0 rfl; have bk8_1 := blk_c BK8.out 1 rfl; have bk8_2 := blk_c BK8.out 2 rfl; have bk12_0 := blk_c BK12.out 0 rfl; have bk12_1 := blk_c BK12.out 1 rfl; have bk12_2 := blk_c BK12.out 2 rfl; have bk12_3 := blk_c BK12.out 3 rfl; have bk12_4 := blk_c BK12.out 4 rfl; have bk12_5 := blk_c BK12.out 5 rfl; have bk13_0 := blk_c BK13.out 0 rfl; have bk13_1 := blk_c BK13.out 1 rfl; have bk13_2 := blk_c BK13.out 2 rfl; have bk14_0 := blk_c BK14.out 0 rfl; have bk14_1 := blk_c BK14.out 1 rfl; have bk14_2 := blk_c BK14.out 2 rfl; have bk15_0 := blk_c BK15.out 0 rfl; have bk15_1 := blk_c BK15.out 1 rfl; have bk15_2 := blk_c BK15.out 2 rfl; have bk22_0 := blk_c BK22.out 0 rfl; have bk22_1 := blk_c BK22.out 1 rfl; have bk22_2 := blk_c BK22.out 2 rfl; have bk22_3 := blk_c BK22.out 3 rfl; have bk22_4 := blk_c BK22.out 4 rfl; have bk22_5 := blk_c BK22.out 5 rfl; have bk23_0 := blk_c BK23.out 0 rfl; have bk23_1 := blk_c BK23.out 1 rfl; have bk23_2 := blk_c BK23.out 2 rfl; have bk23_3 := blk_c BK23.out 3 rfl; have bk23_4 := blk_c BK23.out 4 rfl; have bk23_5 := blk_c BK23.out 5 rfl; have bk7_f := fun i => blk_frozen BK7.out i; have bk8_f := fun i => blk_frozen BK8.out i; have bk12_f := fun i => blk_frozen BK12.out i; have bk13_f := fun i => blk_frozen BK13.out i; have bk14_f := fun i => blk_frozen BK14.out i; have bk15_f := fun i => blk_frozen BK15.out i; have bk22_f := fun i => blk_frozen BK22.out i; have bk23_f := fun i => blk_frozen BK23.out i; clear h0 h1 ho hb hwb))
          clear n823 n238
          go_meet
          case rel =>
            as_aux_lemma =>
              clear bk7_0 bk7_1 bk7_2 bk7_f bk8_0 bk8_1 bk8_2 bk8_f bk12_0 bk12_1 bk12_2 bk12_3 bk12_4 bk12_5 bk12_f bk13_0 bk13_1 bk13_2 bk13_f bk14_0 bk14_1 bk14_2 bk14_f bk15_0 bk15_1 bk15_2 bk15_f bk22_0 bk22_1 bk22_2 bk22_3 bk22_4 bk22_5 bk22_f bk23_0 bk23_1 bk23_2 bk23_3 bk23_4 bk23_5 bk23_f
              have s0_HO0 := far_set3 HO0.out (blk_rowG BK8.out HO0.out (by decide)) (.slice RL L.length rL) (.slice RD2 D2.length rD2) (.int .i64 g)
              have s0_HO1 := far_set3 HO1.out (blk_rowG BK8.out HO1.out (by decide)) (.slice RL L.length rL) (.slice RD2 D2.length rD2) (.int .i64 g)
              have s0_HP0 := far_set3 HP0.out (blk_rowG BK8.out HP0.out (by decide)) (.slice RL L.length rL) (.slice RD2 D2.length rD2) (.int .i64 g)
              have s0_HP1 := far_set3 HP1.out (blk_rowG BK8.out HP1.out (by decide)) (.slice RL L.length rL) (.slice RD2 D2.length rD2) (.int .i64 g)
              have s0_HK0 := far_set3 HK0.out (blk_rowG BK8.out HK0.out (by decide)) (.slice RL L.length rL) (.slice RD2 D2.length rD2) (.int .i64 g)
              have s0_HK1 := far_set3 HK1.out (blk_rowG BK8.out HK1.out (by decide)) (.slice RL L.length rL) (.slice RD2 D2.length rD2) (.int .i64 g)
              have s0_HN0 := far_set3 HN0.out (blk_rowG BK8.out HN0.out (by decide)) (.slice RL L.length rL) (.slice RD2 D2.length rD2) (.int .i64 g)
              have s0_HN1 := far_set3 HN1.out (blk_rowG BK8.out HN1.out (by decide)) (.slice RL L.length rL) (.slice RD2 D2.length rD2) (.int .i64 g)
              have s0_HM0 := far_set3 HM0.out (blk_rowG BK8.out HM0.out (by decide)) (.slice RL L.length rL) (.slice RD2 D2.length rD2) (.int .i64 g)
              have s0_HM1 := far_set3 HM1.out (blk_rowG BK8.out HM1.out (by decide)) (.slice RL L.length rL) (.slice RD2 D2.length rD2) (.int .i64 g)
              have s0_BK7 := blk_far3 BK7.out NE_gb7_gb8.out (.slice RL L.length rL) (.slice RD2 D2.length rD2) (.int .i64 g)
              have s0_BK8 := blk_put3 BK8.out (.slice RL L.length rL) (.slice RD2 D2.length rD2) (.int .i64 g)
              have s0_BK12 := blk_far3 BK12.out (Ne.symm NE_gb8_gb12.out) (.slice RL L.length rL) (.slice RD2 D2.length rD2) (.int .i64 g)
              have s0_BK13 := blk_far3 BK13.out (Ne.symm NE_gb8_gb13.out) (.slice RL L.length rL) (.slice RD2 D2.length rD2) (.int .i64 g)
              have s0_BK14 := blk_far3 BK14.out (Ne.symm NE_gb8_gb14.out) (.slice RL L.length rL) (.slice RD2 D2.length rD2) (.int .i64 g)
              have s0_BK15 := blk_far3 BK15.out (Ne.symm NE_gb8_gb15.out) (.slice RL L.length rL) (.slice RD2 D2.length rD2) (.int .i64 g)
              have s0_BK22 := blk_far3 BK22.out (Ne.symm NE_gb8_gb22.out) (.slice RL L.length rL) (.slice RD2 D2.length rD2) (.int .i64 g)
              have s0_BK23 := blk_far3 BK23.out (Ne.symm NE_gb8_gb23.out) (.slice RL L.length rL) (.slice RD2 D2.length rD2) (.int .i64 g)
              have s0_HB := below_set3 HB.out GE_gb8.out (.slice RL L.length rL) (.slice RD2 D2.length rD2) (.int .i64 g)
              have s1_HO0 := far_set6 s0_HO0 (X_gb23_HO0.out) (.int .i64 q.f0) (.int .i64 q.f1) (.int .u64 q.f2) (.int .u64 q.f3) (.int .u8 q.f4) (.int .i64 q.f5)
              have s1_HO1 := far_set6 s0_HO1 (X_gb23_HO1.out) (.int .i64 q.f0) (.int .i64 q.f1) (.int .u64 q.f2) (.int .u64 q.f3) (.int .u8 q.f4) (.int .i64 q.f5)
              have s1_HP0 := far_set6 s0_HP0 (X_gb23_HP0.out) (.int .i64 q.f0) (.int .i64 q.f1) (.int .u64 q.f2) (.int .u64 q.f3) (.int .u8 q.f4) (.int .i64 q.f5)
              have s1_HP1 := far_set6 s0_HP1 (X_gb23_HP1.out) (.int .i64 q.f0) (.int .i64 q.f1) (.int .u64 q.f2) (.int .u64 q.f3) (.int .u8 q.f4) (.int .i64 q.f5)
              have s1_HK0 := far_set6 s0_HK0 (X_gb23_HK0.out) (.int .i64 q.f0) (.int .i64 q.f1) (.int .u64 q.f2) (.int .u64 q.f3) (.int .u8 q.f4) (.int .i64 q.f5)
              have s1_HK1 := far_set6 s0_HK1 (X_gb23_HK1.out) (.int .i64 q.f0) (.int .i64 q.f1) (.int .u64 q.f2) (.int .u64 q.f3) (.int .u8 q.f4) (.int .i64 q.f5)
              have s1_HN0 := far_set6 s0_HN0 (X_gb23_HN0.out) (.int .i64 q.f0) (.int .i64 q.f1) (.int .u64 q.f2) (.int .u64 q.f3) (.int .u8 q.f4) (.int .i64 q.f5)
              have s1_HN1 := far_set6 s0_HN1 (X_gb23_HN1.out) (.int .i64 q.f0) (.int .i64 q.f1) (.int .u64 q.f2) (.int .u64 q.f3) (.int .u8 q.f4) (.int .i64 q.f5)
              have s1_HM0 := far_set6 s0_HM0 (X_gb23_HM0.out) (.int .i64 q.f0) (.int .i64 q.f1) (.int .u64 q.f2) (.int .u64 q.f3) (.int .u8 q.f4) (.int .i64 q.f5)
              have s1_HM1 := far_set6 s0_HM1 (X_gb23_HM1.out) (.int .i64 q.f0) (.int .i64 q.f1) (.int .u64 q.f2) (.int .u64 q.f3) (.int .u8 q.f4) (.int .i64 q.f5)
              have s1_BK7 := blk_far6 s0_BK7 NE_gb7_gb23.out (.int .i64 q.f0) (.int .i64 q.f1) (.int .u64 q.f2) (.int .u64 q.f3) (.int .u8 q.f4) (.int .i64 q.f5)
              have s1_BK8 := blk_far6 s0_BK8 NE_gb8_gb23.out (.int .i64 q.f0) (.int .i64 q.f1) (.int .u64 q.f2) (.int .u64 q.f3) (.int .u8 q.f4) (.int .i64 q.f5)
              have s1_BK12 := blk_far6 s0_BK12 NE_gb12_gb23.out (.int .i64 q.f0) (.int .i64 q.f1) (.int .u64 q.f2) (.int .u64 q.f3) (.int .u8 q.f4) (.int .i64 q.f5)
              have s1_BK13 := blk_far6 s0_BK13 NE_gb13_gb23.out (.int .i64 q.f0) (.int .i64 q.f1) (.int .u64 q.f2) (.int .u64 q.f3) (.int .u8 q.f4) (.int .i64 q.f5)
              have s1_BK14 := blk_far6 s0_BK14 NE_gb14_gb23.out (.int .i64 q.f0) (.int .i64 q.f1) (.int .u64 q.f2) (.int .u64 q.f3) (.int .u8 q.f4) (.int .i64 q.f5)
              have s1_BK15 := blk_far6 s0_BK15 NE_gb15_gb23.out (.int .i64 q.f0) (.int .i64 q.f1) (.int .u64 q.f2) (.int .u64 q.f3) (.int .u8 q.f4) (.int .i64 q.f5)
              have s1_BK22 := blk_far6 s0_BK22 NE_gb22_gb23.out (.int .i64 q.f0) (.int .i64 q.f1) (.int .u64 q.f2) (.int .u64 q.f3) (.int .u8 q.f4) (.int .i64 q.f5)
              have s1_BK23 := blk_put6 s0_BK23 (.int .i64 q.f0) (.int .i64 q.f1) (.int .u64 q.f2) (.int .u64 q.f3) (.int .u8 q.f4) (.int .i64 q.f5)
              have s1_HB := below_set6 s0_HB GE_gb23.out (.int .i64 q.f0) (.int .i64 q.f1) (.int .u64 q.f2) (.int .u64 q.f3) (.int .u8 q.f4) (.int .i64 q.f5)
              have n_BK7 := Aside0.mk s1_BK7
              have n_BK8 := Aside0.mk s1_BK8
              have n_BK12 := Aside0.mk s1_BK12
              have n_BK13 := Aside0.mk s1_BK13
              have n_BK14 := Aside0.mk s1_BK14
              have n_BK15 := Aside0.mk s1_BK15
              have n_BK22 := Aside0.mk s1_BK22
              have n_BK23 := Aside0.mk s1_BK23
              have n_HO0 := Aside0.mk s1_HO0
              have n_HO1 := Aside0.mk s1_HO1
              have n_HP0 := Aside0.mk s1_HP0
              have n_HP1 := Aside0.mk s1_HP1
              have n_HK0 := Aside0.mk s1_HK0
              have n_HK1 := Aside0.mk s1_HK1
              have n_HN0 := Aside0.mk s1_HN0
              have n_HN1 := Aside0.mk s1_HN1
              have n_HM0 := Aside0.mk s1_HM0
              have n_HM1 := Aside0.mk s1_HM1
              have n_HB := Aside0.mk s1_HB
              clear s0_BK7 s0_BK8 s0_BK12 s0_BK13 s0_BK14 s0_BK15 s0_BK22 s0_BK23 s0_HO0 s0_HO1 s0_HP0 s0_HP1 s0_HK0 s0_HK1 s0_HN0 s0_HN1 s0_HM0 s0_HM1 s0_HB
              clear s1_BK7 s1_BK8 s1_BK12 s1_BK13 s1_BK14 s1_BK15 s1_BK22 s1_BK23 s1_HO0 s1_HO1 s1_HP0 s1_HP1 s1_HK0 s1_HK1 s1_HN0 s1_HN1 s1_HM0 s1_HM1 s1_HB
              clear BK7 BK8 BK12 BK13 BK14 BK15 BK22 BK23 HO0 HO1 HP0 HP1 HK0 HK1 HN0 HN1 HM0 HM1 HB
              generalize (((((((((w5.setCell ⟨gb8, 0, none⟩ (.slice RL L.length rL)).setCell ⟨gb8, 1, none⟩ (.slice RD2 D2.length rD2)).setCell ⟨gb8, 2, none⟩ (.int .i64 g)).setCell ⟨gb23, 0, none⟩ (.int .i64 q.f0)).setCell ⟨gb23, 1, none⟩ (.int .i64 q.f1)).setCell ⟨gb23, 2, none⟩ (.int .u64 q.f2)).setCell ⟨gb23, 3, none⟩ (.int .u64 q.f3)).setCell ⟨gb23, 4, none⟩ (.int .u8 q.f4)).setCell ⟨gb23, 5, none⟩ (.int .i64 q.f5)) = w7 at n_BK7 n_BK8 n_BK12 n_BK13 n_BK14 n_BK15 n_BK22 n_BK23 n_HO0 n_HO1 n_HP0 n_HP1 n_HK0 n_HK1 n_HN0 n_HN1 n_HM0 n_HM1 n_HB ⊢
              have BK7 := n_BK7
              have BK8 := n_BK8
              have BK12 := n_BK12
              have BK13 := n_BK13
              have BK14 := n_BK14
              have BK15 := n_BK15
              have BK22 := n_BK22
              have BK23 := n_BK23
              have HO0 := n_HO0
              have HO1 := n_HO1
              have HP0 := n_HP0
              have HP1 := n_HP1
              have HK0 := n_HK0
              have HK1 := n_HK1
              have HN0 := n_HN0
              have HN1 := n_HN1
              have HM0 := n_HM0
              have HM1 := n_HM1
              have HB := n_HB
              clear n_BK7 n_BK8 n_BK12 n_BK13 n_BK14 n_BK15 n_BK22 n_BK23 n_HO0 n_HO1 n_HP0 n_HP1 n_HK0 n_HK1 n_HN0 n_HN1 n_HM0 n_HM1 n_HB
              have bk7_0 := blk_c BK7.out 0 rfl; have bk7_1 := blk_c BK7.out 1 rfl; have bk7_2 := blk_c BK7.out 2 rfl; have bk8_0 := blk_c BK8.out 0 rfl; have bk8_1 := blk_c BK8.out 1 rfl; have bk8_2 := blk_c BK8.out 2 rfl; have bk12_0 := blk_c BK12.out 0 rfl; have bk12_1 := blk_c BK12.out 1 rfl; have bk12_2 := blk_c BK12.out 2 rfl; have bk12_3 := blk_c BK12.out 3 rfl; have bk12_4 := blk_c BK12.out 4 rfl; have bk12_5 := blk_c BK12.out 5 rfl; have bk13_0 := blk_c BK13.out 0 rfl; have bk13_1 := blk_c BK13.out 1 rfl; have bk13_2 := blk_c BK13.out 2 rfl; have bk14_0 := blk_c BK14.out 0 rfl; have bk14_1 := blk_c BK14.out 1 rfl; have bk14_2 := blk_c BK14.out 2 rfl; have bk15_0 := blk_c BK15.out 0 rfl; have bk15_1 := blk_c BK15.out 1 rfl; have bk15_2 := blk_c BK15.out 2 rfl; have bk22_0 := blk_c BK22.out 0 rfl; have bk22_1 := blk_c BK22.out 1 rfl; have bk22_2 := blk_c BK22.out 2 rfl; have bk22_3 := blk_c BK22.out 3 rfl; have bk22_4 := blk_c BK22.out 4 rfl; have bk22_5 := blk_c BK22.out 5 rfl; have bk23_0 := blk_c BK23.out 0 rfl; have bk23_1 := blk_c BK23.out 1 rfl; have bk23_2 := blk_c BK23.out 2 rfl; have bk23_3 := blk_c BK23.out 3 rfl; have bk23_4 := blk_c BK23.out 4 rfl; have bk23_5 := blk_c BK23.out 5 rfl; have bk7_f := fun i => blk_frozen BK7.out i; have bk8_f := fun i => blk_frozen BK8.out i; have bk12_f := fun i => blk_frozen BK12.out i; have bk13_f := fun i => blk_frozen BK13.out i; have bk14_f := fun i => blk_frozen BK14.out i; have bk15_f := fun i => blk_frozen BK15.out i; have bk22_f := fun i => blk_frozen BK22.out i; have bk23_f := fun i => blk_frozen BK23.out i
              exact ⟨L, D2, g, last, bb, 0, [], q, AL2, cL2, AD2, cD2, RL, rL, RD2, rD2, none, 0, none, 0, rfl, rfl, rfl, rfl, rfl, rfl, rfl, rfl, INV, ⟨by simp⟩, BK7, BK8, BK12, BK13, BK14, BK15, BK22, BK23, HN0, HN1, HM0, HM1, ⟨Kd.R_nil _ _ _ _ _⟩, ⟨Kd.R_nil _ _ _ _ _⟩, HO0, HO1, HP0, HP1, HK0, HK1, HB⟩
        case true =>
          as_aux_lemma =>
            have hL : L.length ≤ 1000 := by have := HI.out.len; omega
            have hD : D.length ≤ 1000 := by have := HI.out.len; omega
            obtain ⟨L2, hl2j⟩ : ∃ L2, (joinR L D o.f1 o.f2 o.f4).1 = L2 := ⟨_, rfl⟩
            obtain ⟨bb, hbbj⟩ : ∃ b, (joinR L D o.f1 o.f2 o.f4).2.1 = b := ⟨_, rfl⟩
            obtain ⟨er, herj⟩ : ∃ e, (joinR L D o.f1 o.f2 o.f4).2.2 = e := ⟨_, rfl⟩
            have E0 := Aside0.mk hl2j
            have E1 := Aside0.mk hbbj
            have E2 := Aside0.mk herj
            have INV : Aside0 (InvT (i + 1) L2 D g) := ⟨by rw [← hl2j]; exact invT_join HI.out _ _ _⟩
            clear hl2j hbbj herj
            go_upto_region 20 with (first | (go_at_call 45; have hwb := below_size HB.out; (with_reducible refine (pJoin_at _ _ L _ _ D g o.f1 o.f2 o.f4 _ (Kd.R_reads' HO0.out).2.2 (Kd.R_reads' HO0.out).2.1 (Kd.R_reads' HO1.out).2.2 (Kd.R_reads' HO1.out).2.1 hL hD).mono ?_); rintro e w5 ⟨AL2, cL2, AD2, cD2, rfl, h0, h1, hb⟩; rw [E0.out] at h0; rw [E0.out, E1.out, E2.out]; clear bk7_0 bk7_1 bk7_2 bk7_f bk8_0 bk8_1 bk8_2 bk8_f bk12_0 bk12_1 bk12_2 bk12_3 bk12_4 bk12_5 bk12_f bk13_0 bk13_1 bk13_2 bk13_f bk14_0 bk14_1 bk14_2 bk14_f bk15_0 bk15_1 bk15_2 bk15_f bk22_0 bk22_1 bk22_2 bk22_3 bk22_4 bk22_5 bk22_f bk23_0 bk23_1 bk23_2 bk23_3 bk23_4 bk23_5 bk23_f; replace BK7 := Aside0.mk (blk_below BK7.out hb); replace BK8 := Aside0.mk (blk_below BK8.out hb); replace BK12 := Aside0.mk (blk_below BK12.out hb); replace BK13 := Aside0.mk (blk_below BK13.out hb); replace BK14 := Aside0.mk (blk_below BK14.out hb); replace BK15 := Aside0.mk (blk_below BK15.out hb); replace BK22 := Aside0.mk (blk_below BK22.out hb); replace BK23 := Aside0.mk (blk_below BK23.out hb); replace HO0 := Aside0.mk (Kd.R_below HO0.out hb); replace HO1 := Aside0.mk (Kd.R_below HO1.out hb); replace HP0 := Aside0.mk (Kd.R_below HP0.out hb); replace HP1 := Aside0.mk (Kd.R_below HP1.out hb); replace HK0 := Aside0.mk (Kd.R_below HK0.out hb); replace HK1 := Aside0.mk (Kd.R_below HK1.out hb); have HN0 := Aside0.mk (Kd.R_lower h0 hwb); have HN1 := Aside0.mk (Kd.R_lower h1 hwb); replace HB := Aside0.mk (below_step HB.out hb); have bk7_0 := blk_c BK7.out 0 rfl; have bk7_1 := blk_c BK7.out 1 rfl; have bk7_2 := blk_c BK7.out 2 rfl; have bk8_0 := blk_c BK8.out 0 rfl; have bk8_1 := blk_c BK8.out 1 rfl; have bk8_2 := blk_c BK8.out 2 rfl; have bk12_0 := blk_c BK12.out 0 rfl; have bk12_1 := blk_c BK12.out 1 rfl; have bk12_2 := blk_c BK12.out 2 rfl; have bk12_3 := blk_c BK12.out 3 rfl; have bk12_4 := blk_c BK12.out 4 rfl; have bk12_5 := blk_c BK12.out 5 rfl; have bk13_0 := blk_c BK13.out 0 rfl; have bk13_1 := blk_c BK13.out 1 rfl; have bk13_2 := blk_c BK13.out 2 rfl; have bk14_0 := blk_c BK14.out 0 rfl; have bk14_1 := blk_c BK14.out 1 rfl; have bk14_2 := blk_c BK14.out 2 rfl; have bk15_0 := blk_c BK15.out 0 rfl; have bk15_1 := blk_c BK15.out 1 rfl; have bk15_2 := blk_c BK15.out 2 rfl; have bk22_0 := blk_c BK22.out 0 rfl; have bk22_1 := blk_c BK22.out 1 rfl; have bk22_2 := blk_c BK22.out 2 rfl; have bk22_3 := blk_c BK22.out 3 rfl; have bk22_4 := blk_c BK22.out 4 rfl; have bk22_5 := blk_c BK22.out 5 rfl; have bk23_0 := blk_c BK23.out 0 rfl; have bk23_1 := blk_c BK23.out 1 rfl; have bk23_2 := blk_c BK23.out 2 rfl; have bk23_3 := blk_c BK23.out 3 rfl; have bk23_4 := blk_c BK23.out 4 rfl; have bk23_5 := blk_c BK23.out 5 rfl; have bk7_f := fun i => blk_frozen BK7.out i; have bk8_f := fun i => blk_frozen BK8.out i; have bk12_f := fun i => blk_frozen BK12.out i; have bk13_f := fun i => blk_frozen BK13.out i; have bk14_f := fun i => blk_frozen BK14.out i; have bk15_f := fun i => blk_frozen BK15.out i; have bk22_f := fun i => blk_frozen BK22.out i; have bk23_f := fun i => blk_frozen BK23.out i; clear h0 h1 hb hwb))
            clear bk7_0 bk7_1 bk7_2 bk7_f bk8_0 bk8_1 bk8_2 bk8_f bk12_0 bk12_1 bk12_2 bk12_3 bk12_4 bk12_5 bk12_f bk13_0 bk13_1 bk13_2 bk13_f bk14_0 bk14_1 bk14_2 bk14_f bk15_0 bk15_1 bk15_2 bk15_f bk22_0 bk22_1 bk22_2 bk22_3 bk22_4 bk22_5 bk22_f bk23_0 bk23_1 bk23_2 bk23_3 bk23_4 bk23_5 bk23_f
            have s0_HO0 := far_set3 HO0.out (blk_rowG BK7.out HO0.out (by decide)) (.slice AL2 L2.length cL2) (.slice AD2 D.length cD2) (.int .i64 g)
            have s0_HO1 := far_set3 HO1.out (blk_rowG BK7.out HO1.out (by decide)) (.slice AL2 L2.length cL2) (.slice AD2 D.length cD2) (.int .i64 g)
            have s0_HP0 := far_set3 HP0.out (blk_rowG BK7.out HP0.out (by decide)) (.slice AL2 L2.length cL2) (.slice AD2 D.length cD2) (.int .i64 g)
            have s0_HP1 := far_set3 HP1.out (blk_rowG BK7.out HP1.out (by decide)) (.slice AL2 L2.length cL2) (.slice AD2 D.length cD2) (.int .i64 g)
            have s0_HK0 := far_set3 HK0.out (blk_rowG BK7.out HK0.out (by decide)) (.slice AL2 L2.length cL2) (.slice AD2 D.length cD2) (.int .i64 g)
            have s0_HK1 := far_set3 HK1.out (blk_rowG BK7.out HK1.out (by decide)) (.slice AL2 L2.length cL2) (.slice AD2 D.length cD2) (.int .i64 g)
            have s0_HN0 := far_set3 HN0.out (blk_rowG BK7.out HN0.out (by decide)) (.slice AL2 L2.length cL2) (.slice AD2 D.length cD2) (.int .i64 g)
            have s0_HN1 := far_set3 HN1.out (blk_rowG BK7.out HN1.out (by decide)) (.slice AL2 L2.length cL2) (.slice AD2 D.length cD2) (.int .i64 g)
            have s0_BK7 := blk_put3 BK7.out (.slice AL2 L2.length cL2) (.slice AD2 D.length cD2) (.int .i64 g)
            have s0_BK8 := blk_far3 BK8.out (Ne.symm NE_gb7_gb8.out) (.slice AL2 L2.length cL2) (.slice AD2 D.length cD2) (.int .i64 g)
            have s0_BK12 := blk_far3 BK12.out (Ne.symm NE_gb7_gb12.out) (.slice AL2 L2.length cL2) (.slice AD2 D.length cD2) (.int .i64 g)
            have s0_BK13 := blk_far3 BK13.out (Ne.symm NE_gb7_gb13.out) (.slice AL2 L2.length cL2) (.slice AD2 D.length cD2) (.int .i64 g)
            have s0_BK14 := blk_far3 BK14.out (Ne.symm NE_gb7_gb14.out) (.slice AL2 L2.length cL2) (.slice AD2 D.length cD2) (.int .i64 g)
            have s0_BK15 := blk_far3 BK15.out (Ne.symm NE_gb7_gb15.out) (.slice AL2 L2.length cL2) (.slice AD2 D.length cD2) (.int .i64 g)
            have s0_BK22 := blk_far3 BK22.out (Ne.symm NE_gb7_gb22.out) (.slice AL2 L2.length cL2) (.slice AD2 D.length cD2) (.int .i64 g)
            have s0_BK23 := blk_far3 BK23.out (Ne.symm NE_gb7_gb23.out) (.slice AL2 L2.length cL2) (.slice AD2 D.length cD2) (.int .i64 g)
            have s0_HB := below_set3 HB.out GE_gb7.out (.slice AL2 L2.length cL2) (.slice AD2 D.length cD2) (.int .i64 g)
            have n_BK7 := Aside0.mk s0_BK7
            have n_BK8 := Aside0.mk s0_BK8
            have n_BK12 := Aside0.mk s0_BK12
            have n_BK13 := Aside0.mk s0_BK13
            have n_BK14 := Aside0.mk s0_BK14
            have n_BK15 := Aside0.mk s0_BK15
            have n_BK22 := Aside0.mk s0_BK22
            have n_BK23 := Aside0.mk s0_BK23
            have n_HO0 := Aside0.mk s0_HO0
            have n_HO1 := Aside0.mk s0_HO1
            have n_HP0 := Aside0.mk s0_HP0
            have n_HP1 := Aside0.mk s0_HP1
            have n_HK0 := Aside0.mk s0_HK0
            have n_HK1 := Aside0.mk s0_HK1
            have n_HN0 := Aside0.mk s0_HN0
            have n_HN1 := Aside0.mk s0_HN1
            have n_HB := Aside0.mk s0_HB
            clear s0_BK7 s0_BK8 s0_BK12 s0_BK13 s0_BK14 s0_BK15 s0_BK22 s0_BK23 s0_HO0 s0_HO1 s0_HP0 s0_HP1 s0_HK0 s0_HK1 s0_HN0 s0_HN1 s0_HB
            clear BK7 BK8 BK12 BK13 BK14 BK15 BK22 BK23 HO0 HO1 HP0 HP1 HK0 HK1 HN0 HN1 HB
            generalize (((w5.setCell ⟨gb7, 0, none⟩ (.slice AL2 L2.length cL2)).setCell ⟨gb7, 1, none⟩ (.slice AD2 D.length cD2)).setCell ⟨gb7, 2, none⟩ (.int .i64 g)) = w6 at n_BK7 n_BK8 n_BK12 n_BK13 n_BK14 n_BK15 n_BK22 n_BK23 n_HO0 n_HO1 n_HP0 n_HP1 n_HK0 n_HK1 n_HN0 n_HN1 n_HB ⊢
            have BK7 := n_BK7
            have BK8 := n_BK8
            have BK12 := n_BK12
            have BK13 := n_BK13
            have BK14 := n_BK14
            have BK15 := n_BK15
            have BK22 := n_BK22
            have BK23 := n_BK23
            have HO0 := n_HO0
            have HO1 := n_HO1
            have HP0 := n_HP0
            have HP1 := n_HP1
            have HK0 := n_HK0
            have HK1 := n_HK1
            have HN0 := n_HN0
            have HN1 := n_HN1
            have HB := n_HB
            clear n_BK7 n_BK8 n_BK12 n_BK13 n_BK14 n_BK15 n_BK22 n_BK23 n_HO0 n_HO1 n_HP0 n_HP1 n_HK0 n_HK1 n_HN0 n_HN1 n_HB
            have bk7_0 := blk_c BK7.out 0 rfl; have bk7_1 := blk_c BK7.out 1 rfl; have bk7_2 := blk_c BK7.out 2 rfl; have bk8_0 := blk_c BK8.out 0 rfl; have bk8_1 := blk_c BK8.out 1 rfl; have bk8_2 := blk_c BK8.out 2 rfl; have bk12_0 := blk_c BK12.out 0 rfl; have bk12_1 := blk_c BK12.out 1 rfl; have bk12_2 := blk_c BK12.out 2 rfl; have bk12_3 := blk_c BK12.out 3 rfl; have bk12_4 := blk_c BK12.out 4 rfl; have bk12_5 := blk_c BK12.out 5 rfl; have bk13_0 := blk_c BK13.out 0 rfl; have bk13_1 := blk_c BK13.out 1 rfl; have bk13_2 := blk_c BK13.out 2 rfl; have bk14_0 := blk_c BK14.out 0 rfl; have bk14_1 := blk_c BK14.out 1 rfl; have bk14_2 := blk_c BK14.out 2 rfl; have bk15_0 := blk_c BK15.out 0 rfl; have bk15_1 := blk_c BK15.out 1 rfl; have bk15_2 := blk_c BK15.out 2 rfl; have bk22_0 := blk_c BK22.out 0 rfl; have bk22_1 := blk_c BK22.out 1 rfl; have bk22_2 := blk_c BK22.out 2 rfl; have bk22_3 := blk_c BK22.out 3 rfl; have bk22_4 := blk_c BK22.out 4 rfl; have bk22_5 := blk_c BK22.out 5 rfl; have bk23_0 := blk_c BK23.out 0 rfl; have bk23_1 := blk_c BK23.out 1 rfl; have bk23_2 := blk_c BK23.out 2 rfl; have bk23_3 := blk_c BK23.out 3 rfl; have bk23_4 := blk_c BK23.out 4 rfl; have bk23_5 := blk_c BK23.out 5 rfl; have bk7_f := fun i => blk_frozen BK7.out i; have bk8_f := fun i => blk_frozen BK8.out i; have bk12_f := fun i => blk_frozen BK12.out i; have bk13_f := fun i => blk_frozen BK13.out i; have bk14_f := fun i => blk_frozen BK14.out i; have bk15_f := fun i => blk_frozen BK15.out i; have bk22_f := fun i => blk_frozen BK22.out i; have bk23_f := fun i => blk_frozen BK23.out i
            go_wp2_with (first | (go_at_call 46; have hwb := below_size HB.out; (with_reducible refine (refJoin_at _ _ L _ _ D w.heap.size g o.f1 o.f2 o.f4 _ hwb HP0.out HP1.out (by omega) (by omega)).mono ?_); rintro e w5 ⟨RL2, rL2, rfl, h0, h1, hb⟩; rw [E0.out] at h0; rw [E0.out, E1.out, E2.out]; clear bk7_0 bk7_1 bk7_2 bk7_f bk8_0 bk8_1 bk8_2 bk8_f bk12_0 bk12_1 bk12_2 bk12_3 bk12_4 bk12_5 bk12_f bk13_0 bk13_1 bk13_2 bk13_f bk14_0 bk14_1 bk14_2 bk14_f bk15_0 bk15_1 bk15_2 bk15_f bk22_0 bk22_1 bk22_2 bk22_3 bk22_4 bk22_5 bk22_f bk23_0 bk23_1 bk23_2 bk23_3 bk23_4 bk23_5 bk23_f; replace BK7 := Aside0.mk (blk_below BK7.out hb); replace BK8 := Aside0.mk (blk_below BK8.out hb); replace BK12 := Aside0.mk (blk_below BK12.out hb); replace BK13 := Aside0.mk (blk_below BK13.out hb); replace BK14 := Aside0.mk (blk_below BK14.out hb); replace BK15 := Aside0.mk (blk_below BK15.out hb); replace BK22 := Aside0.mk (blk_below BK22.out hb); replace BK23 := Aside0.mk (blk_below BK23.out hb); replace HO0 := Aside0.mk (Kd.R_below HO0.out hb); replace HO1 := Aside0.mk (Kd.R_below HO1.out hb); replace HP0 := Aside0.mk (Kd.R_below HP0.out hb); replace HP1 := Aside0.mk (Kd.R_below HP1.out hb); replace HK0 := Aside0.mk (Kd.R_below HK0.out hb); replace HK1 := Aside0.mk (Kd.R_below HK1.out hb); replace HN0 := Aside0.mk (Kd.R_below HN0.out hb); replace HN1 := Aside0.mk (Kd.R_below HN1.out hb); have HM0 := Aside0.mk (h0); have HM1 := Aside0.mk (h1); replace HB := Aside0.mk (below_step HB.out hb); have bk7_0 := blk_c BK7.out 0 rfl; have bk7_1 := blk_c BK7.out 1 rfl; have bk7_2 := blk_c BK7.out 2 rfl; have bk8_0 := blk_c BK8.out 0 rfl; have bk8_1 := blk_c BK8.out 1 rfl; have bk8_2 := blk_c BK8.out 2 rfl; have bk12_0 := blk_c BK12.out 0 rfl; have bk12_1 := blk_c BK12.out 1 rfl; have bk12_2 := blk_c BK12.out 2 rfl; have bk12_3 := blk_c BK12.out 3 rfl; have bk12_4 := blk_c BK12.out 4 rfl; have bk12_5 := blk_c BK12.out 5 rfl; have bk13_0 := blk_c BK13.out 0 rfl; have bk13_1 := blk_c BK13.out 1 rfl; have bk13_2 := blk_c BK13.out 2 rfl; have bk14_0 := blk_c BK14.out 0 rfl; have bk14_1 := blk_c BK14.out 1 rfl; have bk14_2 := blk_c BK14.out 2 rfl; have bk15_0 := blk_c BK15.out 0 rfl; have bk15_1 := blk_c BK15.out 1 rfl; have bk15_2 := blk_c BK15.out 2 rfl; have bk22_0 := blk_c BK22.out 0 rfl; have bk22_1 := blk_c BK22.out 1 rfl; have bk22_2 := blk_c BK22.out 2 rfl; have bk22_3 := blk_c BK22.out 3 rfl; have bk22_4 := blk_c BK22.out 4 rfl; have bk22_5 := blk_c BK22.out 5 rfl; have bk23_0 := blk_c BK23.out 0 rfl; have bk23_1 := blk_c BK23.out 1 rfl; have bk23_2 := blk_c BK23.out 2 rfl; have bk23_3 := blk_c BK23.out 3 rfl; have bk23_4 := blk_c BK23.out 4 rfl; have bk23_5 := blk_c BK23.out 5 rfl; have bk7_f := fun i => blk_frozen BK7.out i; have bk8_f := fun i => blk_frozen BK8.out i; have bk12_f := fun i => blk_frozen BK12.out i; have bk13_f := fun i => blk_frozen BK13.out i; have bk14_f := fun i => blk_frozen BK14.out i; have bk15_f := fun i => blk_frozen BK15.out i; have bk22_f := fun i => blk_frozen BK22.out i; have bk23_f := fun i => blk_frozen BK23.out i; clear h0 h1 hb hwb))
            go_meet
            case rel =>
              clear bk7_0 bk7_1 bk7_2 bk7_f bk8_0 bk8_1 bk8_2 bk8_f bk12_0 bk12_1 bk12_2 bk12_3 bk12_4 bk12_5 bk12_f bk13_0 bk13_1 bk13_2 bk13_f bk14_0 bk14_1 bk14_2 bk14_f bk15_0 bk15_1 bk15_2 bk15_f bk22_0 bk22_1 bk22_2 bk22_3 bk22_4 bk22_5 bk22_f bk23_0 bk23_1 bk23_2 bk23_3 bk23_4 bk23_5 bk23_f
              have s0_HO0 := far_set3 HO0.out (blk_rowG BK8.out HO0.out (by decide)) (.slice RL2 L2.length rL2) (.slice RD D.length rD) (.int .i64 g)
              have s0_HO1 := far_set3 HO1.out (blk_rowG BK8.out HO1.out (by decide)) (.slice RL2 L2.length rL2) (.slice RD D.length rD) (.int .i64 g)
              have s0_HP0 := far_set3 HP0.out (blk_rowG BK8.out HP0.out (by decide)) (.slice RL2 L2.length rL2) (.slice RD D.length rD) (.int .i64 g)
              have s0_HP1 := far_set3 HP1.out (blk_rowG BK8.out HP1.out (by decide)) (.slice RL2 L2.length rL2) (.slice RD D.length rD) (.int .i64 g)
              have s0_HK0 := far_set3 HK0.out (blk_rowG BK8.out HK0.out (by decide)) (.slice RL2 L2.length rL2) (.slice RD D.length rD) (.int .i64 g)
              have s0_HK1 := far_set3 HK1.out (blk_rowG BK8.out HK1.out (by decide)) (.slice RL2 L2.length rL2) (.slice RD D.length rD) (.int .i64 g)
              have s0_HN0 := far_set3 HN0.out (blk_rowG BK8.out HN0.out (by decide)) (.slice RL2 L2.length rL2) (.slice RD D.length rD) (.int .i64 g)
              have s0_HN1 := far_set3 HN1.out (blk_rowG BK8.out HN1.out (by decide)) (.slice RL2 L2.length rL2) (.slice RD D.length rD) (.int .i64 g)
              have s0_HM0 := far_set3 HM0.out (blk_rowG BK8.out HM0.out (by decide)) (.slice RL2 L2.length rL2) (.slice RD D.length rD) (.int .i64 g)
              have s0_HM1 := far_set3 HM1.out (blk_rowG BK8.out HM1.out (by decide)) (.slice RL2 L2.length rL2) (.slice RD D.length rD) (.int .i64 g)
              have s0_BK7 := blk_far3 BK7.out NE_gb7_gb8.out (.slice RL2 L2.length rL2) (.slice RD D.length rD) (.int .i64 g)
              have s0_BK8 := blk_put3 BK8.out (.slice RL2 L2.length rL2) (.slice RD D.length rD) (.int .i64 g)
              have s0_BK12 := blk_far3 BK12.out (Ne.symm NE_gb8_gb12.out) (.slice RL2 L2.length rL2) (.slice RD D.length rD) (.int .i64 g)
              have s0_BK13 := blk_far3 BK13.out (Ne.symm NE_gb8_gb13.out) (.slice RL2 L2.length rL2) (.slice RD D.length rD) (.int .i64 g)
              have s0_BK14 := blk_far3 BK14.out (Ne.symm NE_gb8_gb14.out) (.slice RL2 L2.length rL2) (.slice RD D.length rD) (.int .i64 g)
              have s0_BK15 := blk_far3 BK15.out (Ne.symm NE_gb8_gb15.out) (.slice RL2 L2.length rL2) (.slice RD D.length rD) (.int .i64 g)
              have s0_BK22 := blk_far3 BK22.out (Ne.symm NE_gb8_gb22.out) (.slice RL2 L2.length rL2) (.slice RD D.length rD) (.int .i64 g)
              have s0_BK23 := blk_far3 BK23.out (Ne.symm NE_gb8_gb23.out) (.slice RL2 L2.length rL2) (.slice RD D.length rD) (.int .i64 g)
              have s0_HB := below_set3 HB.out GE_gb8.out (.slice RL2 L2.length rL2) (.slice RD D.length rD) (.int .i64 g)
              have n_BK7 := Aside0.mk s0_BK7
              have n_BK8 := Aside0.mk s0_BK8
              have n_BK12 := Aside0.mk s0_BK12
              have n_BK13 := Aside0.mk s0_BK13
              have n_BK14 := Aside0.mk s0_BK14
              have n_BK15 := Aside0.mk s0_BK15
              have n_BK22 := Aside0.mk s0_BK22
              have n_BK23 := Aside0.mk s0_BK23
              have n_HO0 := Aside0.mk s0_HO0
              have n_HO1 := Aside0.mk s0_HO1
              have n_HP0 := Aside0.mk s0_HP0
              have n_HP1 := Aside0.mk s0_HP1
              have n_HK0 := Aside0.mk s0_HK0
              have n_HK1 := Aside0.mk s0_HK1
              have n_HN0 := Aside0.mk s0_HN0
              have n_HN1 := Aside0.mk s0_HN1
              have n_HM0 := Aside0.mk s0_HM0
              have n_HM1 := Aside0.mk s0_HM1
              have n_HB := Aside0.mk s0_HB
              clear s0_BK7 s0_BK8 s0_BK12 s0_BK13 s0_BK14 s0_BK15 s0_BK22 s0_BK23 s0_HO0 s0_HO1 s0_HP0 s0_HP1 s0_HK0 s0_HK1 s0_HN0 s0_HN1 s0_HM0 s0_HM1 s0_HB
              clear BK7 BK8 BK12 BK13 BK14 BK15 BK22 BK23 HO0 HO1 HP0 HP1 HK0 HK1 HN0 HN1 HM0 HM1 HB
              generalize (((w5.setCell ⟨gb8, 0, none⟩ (.slice RL2 L2.length rL2)).setCell ⟨gb8, 1, none⟩ (.slice RD D.length rD)).setCell ⟨gb8, 2, none⟩ (.int .i64 g)) = w7 at n_BK7 n_BK8 n_BK12 n_BK13 n_BK14 n_BK15 n_BK22 n_BK23 n_HO0 n_HO1 n_HP0 n_HP1 n_HK0 n_HK1 n_HN0 n_HN1 n_HM0 n_HM1 n_HB ⊢
              have BK7 := n_BK7
              have BK8 := n_BK8
              have BK12 := n_BK12
              have BK13 := n_BK13
              have BK14 := n_BK14
              have BK15 := n_BK15
              have BK22 := n_BK22
              have BK23 := n_BK23
              have HO0 := n_HO0
              have HO1 := n_HO1
              have HP0 := n_HP0
              have HP1 := n_HP1
              have HK0 := n_HK0
              have HK1 := n_HK1
              have HN0 := n_HN0
              have HN1 := n_HN1
              have HM0 := n_HM0
              have HM1 := n_HM1
              have HB := n_HB
              clear n_BK7 n_BK8 n_BK12 n_BK13 n_BK14 n_BK15 n_BK22 n_BK23 n_HO0 n_HO1 n_HP0 n_HP1 n_HK0 n_HK1 n_HN0 n_HN1 n_HM0 n_HM1 n_HB
              have bk7_0 := blk_c BK7.out 0 rfl; have bk7_1 := blk_c BK7.out 1 rfl; have bk7_2 := blk_c BK7.out 2 rfl; have bk8_0 := blk_c BK8.out 0 rfl; have bk8_1 := blk_c BK8.out 1 rfl; have bk8_2 := blk_c BK8.out 2 rfl; have bk12_0 := blk_c BK12.out 0 rfl; have bk12_1 := blk_c BK12.out 1 rfl; have bk12_2 := blk_c BK12.out 2 rfl; have bk12_3 := blk_c BK12.out 3 rfl; have bk12_4 := blk_c BK12.out 4 rfl; have bk12_5 := blk_c BK12.out 5 rfl; have bk13_0 := blk_c BK13.out 0 rfl; have bk13_1 := blk_c BK13.out 1 rfl; have bk13_2 := blk_c BK13.out 2 rfl; have bk14_0 := blk_c BK14.out 0 rfl; have bk14_1 := blk_c BK14.out 1 rfl; have bk14_2 := blk_c BK14.out 2 rfl; have bk15_0 := blk_c BK15.out 0 rfl; have bk15_1 := blk_c BK15.out 1 rfl; have bk15_2 := blk_c BK15.out 2 rfl; have bk22_0 := blk_c BK22.out 0 rfl; have bk22_1 := blk_c BK22.out 1 rfl; have bk22_2 := blk_c BK22.out 2 rfl; have bk22_3 := blk_c BK22.out 3 rfl; have bk22_4 := blk_c BK22.out 4 rfl; have bk22_5 := blk_c BK22.out 5 rfl; have bk23_0 := blk_c BK23.out 0 rfl; have bk23_1 := blk_c BK23.out 1 rfl; have bk23_2 := blk_c BK23.out 2 rfl; have bk23_3 := blk_c BK23.out 3 rfl; have bk23_4 := blk_c BK23.out 4 rfl; have bk23_5 := blk_c BK23.out 5 rfl; have bk7_f := fun i => blk_frozen BK7.out i; have bk8_f := fun i => blk_frozen BK8.out i; have bk12_f := fun i => blk_frozen BK12.out i; have bk13_f := fun i => blk_frozen BK13.out i; have bk14_f := fun i => blk_frozen BK14.out i; have bk15_f := fun i => blk_frozen BK15.out i; have bk22_f := fun i => blk_frozen BK22.out i; have bk23_f := fun i => blk_frozen BK23.out i
              exact ⟨L2, D, g, last, bb, er, [], ⟨0, 0, 0, 0, 0, 0⟩, AL2, cL2, AD2, cD2, RL2, rL2, RD, rD, none, 0, none, 0, rfl, rfl, rfl, rfl, rfl, rfl, rfl, rfl, INV, ⟨by simp⟩, BK7, BK8, BK12, BK13, BK14, BK15, BK22, BK23, HN0, HN1, HM0, HM1, ⟨Kd.R_nil _ _ _ _ _⟩, ⟨Kd.R_nil _ _ _ _ _⟩, HO0, HO1, HP0, HP1, HK0, HK1, HB⟩
      case rest =>
      clear bk7_0 bk7_1 bk7_2 bk7_f bk8_0 bk8_1 bk8_2 bk8_f bk12_0 bk12_1 bk12_2 bk12_3 bk12_4 bk12_5 bk12_f bk13_0 bk13_1 bk13_2 bk13_f bk14_0 bk14_1 bk14_2 bk14_f bk15_0 bk15_1 bk15_2 bk15_f bk22_0 bk22_1 bk22_2 bk22_3 bk22_4 bk22_5 bk22_f bk23_0 bk23_1 bk23_2 bk23_3 bk23_4 bk23_5 bk23_f
      clear HI BK7 BK8 BK12 BK13 BK14 BK15 BK22 BK23 HO0 HO1 HP0 HP1 HK0 HK1 HB
      obtain ⟨L2, D2, g2, last2, bb, er, ts, q, AL2, cL2, AD2, cD2, RL2, rL2, RD2, rD2, AX, cX, AY, cY, rfl, rfl, rfl, rfl, rfl, rfl, rfl, rfl, INV, HTL, BK7, BK8, BK12, BK13, BK14, BK15, BK22, BK23, HN0, HN1, HM0, HM1, HX, HY, HO0, HO1, HP0, HP1, HK0, HK1, HB⟩ := hcut
      rename World => w7
      have bk7_0 := blk_c BK7.out 0 rfl; have bk7_1 := blk_c BK7.out 1 rfl; have bk7_2 := blk_c BK7.out 2 rfl; have bk8_0 := blk_c BK8.out 0 rfl; have bk8_1 := blk_c BK8.out 1 rfl; have bk8_2 := blk_c BK8.out 2 rfl; have bk12_0 := blk_c BK12.out 0 rfl; have bk12_1 := blk_c BK12.out 1 rfl; have bk12_2 := blk_c BK12.out 2 rfl; have bk12_3 := blk_c BK12.out 3 rfl; have bk12_4 := blk_c BK12.out 4 rfl; have bk12_5 := blk_c BK12.out 5 rfl; have bk13_0 := blk_c BK13.out 0 rfl; have bk13_1 := blk_c BK13.out 1 rfl; have bk13_2 := blk_c BK13.out 2 rfl; have bk14_0 := blk_c BK14.out 0 rfl; have bk14_1 := blk_c BK14.out 1 rfl; have bk14_2 := blk_c BK14.out 2 rfl; have bk15_0 := blk_c BK15.out 0 rfl; have bk15_1 := blk_c BK15.out 1 rfl; have bk15_2 := blk_c BK15.out 2 rfl; have bk22_0 := blk_c BK22.out 0 rfl; have bk22_1 := blk_c BK22.out 1 rfl; have bk22_2 := blk_c BK22.out 2 rfl; have bk22_3 := blk_c BK22.out 3 rfl; have bk22_4 := blk_c BK22.out 4 rfl; have bk22_5 := blk_c BK22.out 5 rfl; have bk23_0 := blk_c BK23.out 0 rfl; have bk23_1 := blk_c BK23.out 1 rfl; have bk23_2 := blk_c BK23.out 2 rfl; have bk23_3 := blk_c BK23.out 3 rfl; have bk23_4 := blk_c BK23.out 4 rfl; have bk23_5 := blk_c BK23.out 5 rfl; have bk7_f := fun i => blk_frozen BK7.out i; have bk8_f := fun i => blk_frozen BK8.out i; have bk12_f := fun i => blk_frozen BK12.out i; have bk13_f := fun i => blk_frozen BK13.out i; have bk14_f := fun i => blk_frozen BK14.out i; have bk15_f := fun i => blk_frozen BK15.out i; have bk22_f := fun i => blk_frozen BK22.out i; have bk23_f := fun i => blk_frozen BK23.out i
      obtain ⟨q4, b4, hq4⟩ : ∃ (q : S65) (b : Bool), ofP L2 D2 o.f1 = (q, b) := ⟨_, _, rfl⟩
      have Q4 := Aside0.mk hq4
      clear hq4
      have hL2 : L2.length ≤ 1000 := by have := INV.out.len; omega
      have hD2 : D2.length ≤ 1000 := by have := INV.out.len; omega
      go_upto_region 34 with (first | (go_at_call 42; (with_reducible refine (pOf_at _ _ L2 _ _ D2 g2 o.f1 _ (Kd.R_reads' HN0.out).2.2 (Kd.R_reads' HN0.out).2.1 (Kd.R_reads' HN1.out).2.2 (Kd.R_reads' HN1.out).2.1).mono ?_); rw [Q4.out]; rintro e w5 ⟨rfl, hb⟩; have hsz := below_size HB.out; clear bk7_0 bk7_1 bk7_2 bk7_f bk8_0 bk8_1 bk8_2 bk8_f bk12_0 bk12_1 bk12_2 bk12_3 bk12_4 bk12_5 bk12_f bk13_0 bk13_1 bk13_2 bk13_f bk14_0 bk14_1 bk14_2 bk14_f bk15_0 bk15_1 bk15_2 bk15_f bk22_0 bk22_1 bk22_2 bk22_3 bk22_4 bk22_5 bk22_f bk23_0 bk23_1 bk23_2 bk23_3 bk23_4 bk23_5 bk23_f; replace BK7 := Aside0.mk (blk_below BK7.out hb); replace BK8 := Aside0.mk (blk_below BK8.out hb); replace BK12 := Aside0.mk (blk_below BK12.out hb); replace BK13 := Aside0.mk (blk_below BK13.out hb); replace BK14 := Aside0.mk (blk_below BK14.out hb); replace BK15 := Aside0.mk (blk_below BK15.out hb); replace BK22 := Aside0.mk (blk_below BK22.out hb); replace BK23 := Aside0.mk (blk_below BK23.out hb); replace HN0 := Aside0.mk (Kd.R_below HN0.out hb); replace HN1 := Aside0.mk (Kd.R_below HN1.out hb); replace HM0 := Aside0.mk (Kd.R_below HM0.out hb); replace HM1 := Aside0.mk (Kd.R_below HM1.out hb); replace HX := Aside0.mk (Kd.R_below HX.out hb); replace HY := Aside0.mk (Kd.R_below HY.out hb); replace HO0 := Aside0.mk (Kd.R_below HO0.out hb); replace HO1 := Aside0.mk (Kd.R_below HO1.out hb); replace HP0 := Aside0.mk (Kd.R_below HP0.out hb); replace HP1 := Aside0.mk (Kd.R_below HP1.out hb); replace HK0 := Aside0.mk (Kd.R_below HK0.out hb); replace HK1 := Aside0.mk (Kd.R_below HK1.out hb); replace HB := Aside0.mk (below_step HB.out hb); clear hb; clear hsz; have bk7_0 := blk_c BK7.out 0 rfl; have bk7_1 := blk_c BK7.out 1 rfl; have bk7_2 := blk_c BK7.out 2 rfl; have bk8_0 := blk_c BK8.out 0 rfl; have bk8_1 := blk_c BK8.out 1 rfl; have bk8_2 := blk_c BK8.out 2 rfl; have bk12_0 := blk_c BK12.out 0 rfl; have bk12_1 := blk_c BK12.out 1 rfl; have bk12_2 := blk_c BK12.out 2 rfl; have bk12_3 := blk_c BK12.out 3 rfl; have bk12_4 := blk_c BK12.out 4 rfl; have bk12_5 := blk_c BK12.out 5 rfl; have bk13_0 := blk_c BK13.out 0 rfl; have bk13_1 := blk_c BK13.out 1 rfl; have bk13_2 := blk_c BK13.out 2 rfl; have bk14_0 := blk_c BK14.out 0 rfl; have bk14_1 := blk_c BK14.out 1 rfl; have bk14_2 := blk_c BK14.out 2 rfl; have bk15_0 := blk_c BK15.out 0 rfl; have bk15_1 := blk_c BK15.out 1 rfl; have bk15_2 := blk_c BK15.out 2 rfl; have bk22_0 := blk_c BK22.out 0 rfl; have bk22_1 := blk_c BK22.out 1 rfl; have bk22_2 := blk_c BK22.out 2 rfl; have bk22_3 := blk_c BK22.out 3 rfl; have bk22_4 := blk_c BK22.out 4 rfl; have bk22_5 := blk_c BK22.out 5 rfl; have bk23_0 := blk_c BK23.out 0 rfl; have bk23_1 := blk_c BK23.out 1 rfl; have bk23_2 := blk_c BK23.out 2 rfl; have bk23_3 := blk_c BK23.out 3 rfl; have bk23_4 := blk_c BK23.out 4 rfl; have bk23_5 := blk_c BK23.out 5 rfl; have bk7_f := fun i => blk_frozen BK7.out i; have bk8_f := fun i => blk_frozen BK8.out i; have bk12_f := fun i => blk_frozen BK12.out i; have bk13_f := fun i => blk_frozen BK13.out i; have bk14_f := fun i => blk_frozen BK14.out i; have bk15_f := fun i => blk_frozen BK15.out i; have bk22_f := fun i => blk_frozen BK22.out i; have bk23_f := fun i => blk_frozen BK23.out i) | ((with_reducible refine gate_dst (N := 24) rfl ?_); refine box_event ?hg (N := 24) ?hd (cs := #[.int .i64 0, .int .i64 0, .int .u64 0, .int .u64 0, .int .u8 0, .int .i64 0]) (t := 65) ?hr ?_; (case hd => rfl); (case hg => rfl); (case hr => first | (go_simp; done) | (go_simp; rfl)); intro gb24 hg w3 hbox hb; have NE_gb7_gb24 := Aside0.mk (show gb7 ≠ gb24 from by rw [hg]; exact Nat.ne_of_lt (blk_lt BK7.out)); have NE_gb8_gb24 := Aside0.mk (show gb8 ≠ gb24 from by rw [hg]; exact Nat.ne_of_lt (blk_lt BK8.out)); have NE_gb12_gb24 := Aside0.mk (show gb12 ≠ gb24 from by rw [hg]; exact Nat.ne_of_lt (blk_lt BK12.out)); have NE_gb13_gb24 := Aside0.mk (show gb13 ≠ gb24 from by rw [hg]; exact Nat.ne_of_lt (blk_lt BK13.out)); have NE_gb14_gb24 := Aside0.mk (show gb14 ≠ gb24 from by rw [hg]; exact Nat.ne_of_lt (blk_lt BK14.out)); have NE_gb15_gb24 := Aside0.mk (show gb15 ≠ gb24 from by rw [hg]; exact Nat.ne_of_lt (blk_lt BK15.out)); have NE_gb22_gb24 := Aside0.mk (show gb22 ≠ gb24 from by rw [hg]; exact Nat.ne_of_lt (blk_lt BK22.out)); have NE_gb23_gb24 := Aside0.mk (show gb23 ≠ gb24 from by rw [hg]; exact Nat.ne_of_lt (blk_lt BK23.out)); have X_gb24_HN0 : Aside0 (some gb24 ≠ (.slice AL2 L2.length cL2 : Value).ownBlock) := ⟨fun e => by have := Kd.R_lt HN0.out gb24 e.symm; rw [hg] at this; exact absurd this (Nat.lt_irrefl _)⟩; have X_gb24_HN1 : Aside0 (some gb24 ≠ (.slice AD2 D2.length cD2 : Value).ownBlock) := ⟨fun e => by have := Kd.R_lt HN1.out gb24 e.symm; rw [hg] at this; exact absurd this (Nat.lt_irrefl _)⟩; have X_gb24_HM0 : Aside0 (some gb24 ≠ (.slice RL2 L2.length rL2 : Value).ownBlock) := ⟨fun e => by have := Kd.R_lt HM0.out gb24 e.symm; rw [hg] at this; exact absurd this (Nat.lt_irrefl _)⟩; have X_gb24_HM1 : Aside0 (some gb24 ≠ (.slice RD2 D2.length rD2 : Value).ownBlock) := ⟨fun e => by have := Kd.R_lt HM1.out gb24 e.symm; rw [hg] at this; exact absurd this (Nat.lt_irrefl _)⟩; have X_gb24_HO0 : Aside0 (some gb24 ≠ (.slice AL L.length cL : Value).ownBlock) := ⟨fun e => by have := Kd.R_lt HO0.out gb24 e.symm; rw [hg] at this; exact absurd this (Nat.lt_irrefl _)⟩; have X_gb24_HO1 : Aside0 (some gb24 ≠ (.slice AD D.length cD : Value).ownBlock) := ⟨fun e => by have := Kd.R_lt HO1.out gb24 e.symm; rw [hg] at this; exact absurd this (Nat.lt_irrefl _)⟩; have X_gb24_HP0 : Aside0 (some gb24 ≠ (.slice RL L.length rL : Value).ownBlock) := ⟨fun e => by have := Kd.R_lt HP0.out gb24 e.symm; rw [hg] at this; exact absurd this (Nat.lt_irrefl _)⟩; have X_gb24_HP1 : Aside0 (some gb24 ≠ (.slice RD D.length rD : Value).ownBlock) := ⟨fun e => by have := Kd.R_lt HP1.out gb24 e.symm; rw [hg] at this; exact absurd this (Nat.lt_irrefl _)⟩; have X_gb24_HK0 : Aside0 (some gb24 ≠ (.slice AK L.length cK : Value).ownBlock) := ⟨fun e => by have := Kd.R_lt HK0.out gb24 e.symm; rw [hg] at this; exact absurd this (Nat.lt_irrefl _)⟩; have X_gb24_HK1 : Aside0 (some gb24 ≠ (.slice AM D.length cM : Value).ownBlock) := ⟨fun e => by have := Kd.R_lt HK1.out gb24 e.symm; rw [hg] at this; exact absurd this (Nat.lt_irrefl _)⟩; have GE_gb24 := Aside0.mk (show w.heap.size ≤ gb24 from by rw [hg]; exact below_size HB.out); clear hg; clear bk7_0 bk7_1 bk7_2 bk7_f bk8_0 bk8_1 bk8_2 bk8_f bk12_0 bk12_1 bk12_2 bk12_3 bk12_4 bk12_5 bk12_f bk13_0 bk13_1 bk13_2 bk13_f bk14_0 bk14_1 bk14_2 bk14_f bk15_0 bk15_1 bk15_2 bk15_f bk22_0 bk22_1 bk22_2 bk22_3 bk22_4 bk22_5 bk22_f bk23_0 bk23_1 bk23_2 bk23_3 bk23_4 bk23_5 bk23_f; replace BK7 := Aside0.mk (blk_below BK7.out hb); replace BK8 := Aside0.mk (blk_below BK8.out hb); replace BK12 := Aside0.mk (blk_below BK12.out hb); replace BK13 := Aside0.mk (blk_below BK13.out hb); replace BK14 := Aside0.mk (blk_below BK14.out hb); replace BK15 := Aside0.mk (blk_below BK15.out hb); replace BK22 := Aside0.mk (blk_below BK22.out hb); replace BK23 := Aside0.mk (blk_below BK23.out hb); replace HN0 := Aside0.mk (Kd.R_below HN0.out hb); replace HN1 := Aside0.mk (Kd.R_below HN1.out hb); replace HM0 := Aside0.mk (Kd.R_below HM0.out hb); replace HM1 := Aside0.mk (Kd.R_below HM1.out hb); replace HX := Aside0.mk (Kd.R_below HX.out hb); replace HY := Aside0.mk (Kd.R_below HY.out hb); replace HO0 := Aside0.mk (Kd.R_below HO0.out hb); replace HO1 := Aside0.mk (Kd.R_below HO1.out hb); replace HP0 := Aside0.mk (Kd.R_below HP0.out hb); replace HP1 := Aside0.mk (Kd.R_below HP1.out hb); replace HK0 := Aside0.mk (Kd.R_below HK0.out hb); replace HK1 := Aside0.mk (Kd.R_below HK1.out hb); replace HB := Aside0.mk (below_step HB.out hb); clear hb; have BK24 := Aside0.mk hbox; clear hbox; have bk7_0 := blk_c BK7.out 0 rfl; have bk7_1 := blk_c BK7.out 1 rfl; have bk7_2 := blk_c BK7.out 2 rfl; have bk8_0 := blk_c BK8.out 0 rfl; have bk8_1 := blk_c BK8.out 1 rfl; have bk8_2 := blk_c BK8.out 2 rfl; have bk12_0 := blk_c BK12.out 0 rfl; have bk12_1 := blk_c BK12.out 1 rfl; have bk12_2 := blk_c BK12.out 2 rfl; have bk12_3 := blk_c BK12.out 3 rfl; have bk12_4 := blk_c BK12.out 4 rfl; have bk12_5 := blk_c BK12.out 5 rfl; have bk13_0 := blk_c BK13.out 0 rfl; have bk13_1 := blk_c BK13.out 1 rfl; have bk13_2 := blk_c BK13.out 2 rfl; have bk14_0 := blk_c BK14.out 0 rfl; have bk14_1 := blk_c BK14.out 1 rfl; have bk14_2 := blk_c BK14.out 2 rfl; have bk15_0 := blk_c BK15.out 0 rfl; have bk15_1 := blk_c BK15.out 1 rfl; have bk15_2 := blk_c BK15.out 2 rfl; have bk22_0 := blk_c BK22.out 0 rfl; have bk22_1 := blk_c BK22.out 1 rfl; have bk22_2 := blk_c BK22.out 2 rfl; have bk22_3 := blk_c BK22.out 3 rfl; have bk22_4 := blk_c BK22.out 4 rfl; have bk22_5 := blk_c BK22.out 5 rfl; have bk23_0 := blk_c BK23.out 0 rfl; have bk23_1 := blk_c BK23.out 1 rfl; have bk23_2 := blk_c BK23.out 2 rfl; have bk23_3 := blk_c BK23.out 3 rfl; have bk23_4 := blk_c BK23.out 4 rfl; have bk23_5 := blk_c BK23.out 5 rfl; have bk24_0 := blk_c BK24.out 0 rfl; have bk24_1 := blk_c BK24.out 1 rfl; have bk24_2 := blk_c BK24.out 2 rfl; have bk24_3 := blk_c BK24.out 3 rfl; have bk24_4 := blk_c BK24.out 4 rfl; have bk24_5 := blk_c BK24.out 5 rfl; have bk7_f := fun i => blk_frozen BK7.out i; have bk8_f := fun i => blk_frozen BK8.out i; have bk12_f := fun i => blk_frozen BK12.out i; have bk13_f := fun i => blk_frozen BK13.out i; have bk14_f := fun i => blk_frozen BK14.out i; have bk15_f := fun i => blk_frozen BK15.out i; have bk22_f := fun i => blk_frozen BK22.out i; have bk23_f := fun i => blk_frozen BK23.out i; have bk24_f := fun i => blk_frozen BK24.out i))
      clear bk7_0 bk7_1 bk7_2 bk7_f bk8_0 bk8_1 bk8_2 bk8_f bk12_0 bk12_1 bk12_2 bk12_3 bk12_4 bk12_5 bk12_f bk13_0 bk13_1 bk13_2 bk13_f bk14_0 bk14_1 bk14_2 bk14_f bk15_0 bk15_1 bk15_2 bk15_f bk22_0 bk22_1 bk22_2 bk22_3 bk22_4 bk22_5 bk22_f bk23_0 bk23_1 bk23_2 bk23_3 bk23_4 bk23_5 bk23_f bk24_0 bk24_1 bk24_2 bk24_3 bk24_4 bk24_5 bk24_f
      have s0_HN0 := far_set6 HN0.out (X_gb24_HN0.out) (.int .i64 q4.f0) (.int .i64 q4.f1) (.int .u64 q4.f2) (.int .u64 q4.f3) (.int .u8 q4.f4) (.int .i64 q4.f5)
      have s0_HN1 := far_set6 HN1.out (X_gb24_HN1.out) (.int .i64 q4.f0) (.int .i64 q4.f1) (.int .u64 q4.f2) (.int .u64 q4.f3) (.int .u8 q4.f4) (.int .i64 q4.f5)
      have s0_HM0 := far_set6 HM0.out (X_gb24_HM0.out) (.int .i64 q4.f0) (.int .i64 q4.f1) (.int .u64 q4.f2) (.int .u64 q4.f3) (.int .u8 q4.f4) (.int .i64 q4.f5)
      have s0_HM1 := far_set6 HM1.out (X_gb24_HM1.out) (.int .i64 q4.f0) (.int .i64 q4.f1) (.int .u64 q4.f2) (.int .u64 q4.f3) (.int .u8 q4.f4) (.int .i64 q4.f5)
      have s0_HX := far_int6 HX.out (blk_rowG BK24.out HX.out (by decide)) (.int .i64 q4.f0) (.int .i64 q4.f1) (.int .u64 q4.f2) (.int .u64 q4.f3) (.int .u8 q4.f4) (.int .i64 q4.f5)
      have s0_HY := far_int6 HY.out (blk_rowG BK24.out HY.out (by decide)) (.int .i64 q4.f0) (.int .i64 q4.f1) (.int .u64 q4.f2) (.int .u64 q4.f3) (.int .u8 q4.f4) (.int .i64 q4.f5)
      have s0_HO0 := far_set6 HO0.out (X_gb24_HO0.out) (.int .i64 q4.f0) (.int .i64 q4.f1) (.int .u64 q4.f2) (.int .u64 q4.f3) (.int .u8 q4.f4) (.int .i64 q4.f5)
      have s0_HO1 := far_set6 HO1.out (X_gb24_HO1.out) (.int .i64 q4.f0) (.int .i64 q4.f1) (.int .u64 q4.f2) (.int .u64 q4.f3) (.int .u8 q4.f4) (.int .i64 q4.f5)
      have s0_HP0 := far_set6 HP0.out (X_gb24_HP0.out) (.int .i64 q4.f0) (.int .i64 q4.f1) (.int .u64 q4.f2) (.int .u64 q4.f3) (.int .u8 q4.f4) (.int .i64 q4.f5)
      have s0_HP1 := far_set6 HP1.out (X_gb24_HP1.out) (.int .i64 q4.f0) (.int .i64 q4.f1) (.int .u64 q4.f2) (.int .u64 q4.f3) (.int .u8 q4.f4) (.int .i64 q4.f5)
      have s0_HK0 := far_set6 HK0.out (X_gb24_HK0.out) (.int .i64 q4.f0) (.int .i64 q4.f1) (.int .u64 q4.f2) (.int .u64 q4.f3) (.int .u8 q4.f4) (.int .i64 q4.f5)
      have s0_HK1 := far_set6 HK1.out (X_gb24_HK1.out) (.int .i64 q4.f0) (.int .i64 q4.f1) (.int .u64 q4.f2) (.int .u64 q4.f3) (.int .u8 q4.f4) (.int .i64 q4.f5)
      have s0_BK7 := blk_far6 BK7.out NE_gb7_gb24.out (.int .i64 q4.f0) (.int .i64 q4.f1) (.int .u64 q4.f2) (.int .u64 q4.f3) (.int .u8 q4.f4) (.int .i64 q4.f5)
      have s0_BK8 := blk_far6 BK8.out NE_gb8_gb24.out (.int .i64 q4.f0) (.int .i64 q4.f1) (.int .u64 q4.f2) (.int .u64 q4.f3) (.int .u8 q4.f4) (.int .i64 q4.f5)
      have s0_BK12 := blk_far6 BK12.out NE_gb12_gb24.out (.int .i64 q4.f0) (.int .i64 q4.f1) (.int .u64 q4.f2) (.int .u64 q4.f3) (.int .u8 q4.f4) (.int .i64 q4.f5)
      have s0_BK13 := blk_far6 BK13.out NE_gb13_gb24.out (.int .i64 q4.f0) (.int .i64 q4.f1) (.int .u64 q4.f2) (.int .u64 q4.f3) (.int .u8 q4.f4) (.int .i64 q4.f5)
      have s0_BK14 := blk_far6 BK14.out NE_gb14_gb24.out (.int .i64 q4.f0) (.int .i64 q4.f1) (.int .u64 q4.f2) (.int .u64 q4.f3) (.int .u8 q4.f4) (.int .i64 q4.f5)
      have s0_BK15 := blk_far6 BK15.out NE_gb15_gb24.out (.int .i64 q4.f0) (.int .i64 q4.f1) (.int .u64 q4.f2) (.int .u64 q4.f3) (.int .u8 q4.f4) (.int .i64 q4.f5)
      have s0_BK22 := blk_far6 BK22.out NE_gb22_gb24.out (.int .i64 q4.f0) (.int .i64 q4.f1) (.int .u64 q4.f2) (.int .u64 q4.f3) (.int .u8 q4.f4) (.int .i64 q4.f5)
      have s0_BK23 := blk_far6 BK23.out NE_gb23_gb24.out (.int .i64 q4.f0) (.int .i64 q4.f1) (.int .u64 q4.f2) (.int .u64 q4.f3) (.int .u8 q4.f4) (.int .i64 q4.f5)
      have s0_BK24 := blk_put6 BK24.out (.int .i64 q4.f0) (.int .i64 q4.f1) (.int .u64 q4.f2) (.int .u64 q4.f3) (.int .u8 q4.f4) (.int .i64 q4.f5)
      have s0_HB := below_set6 HB.out GE_gb24.out (.int .i64 q4.f0) (.int .i64 q4.f1) (.int .u64 q4.f2) (.int .u64 q4.f3) (.int .u8 q4.f4) (.int .i64 q4.f5)
      have n_BK7 := Aside0.mk s0_BK7
      have n_BK8 := Aside0.mk s0_BK8
      have n_BK12 := Aside0.mk s0_BK12
      have n_BK13 := Aside0.mk s0_BK13
      have n_BK14 := Aside0.mk s0_BK14
      have n_BK15 := Aside0.mk s0_BK15
      have n_BK22 := Aside0.mk s0_BK22
      have n_BK23 := Aside0.mk s0_BK23
      have n_BK24 := Aside0.mk s0_BK24
      have n_HN0 := Aside0.mk s0_HN0
      have n_HN1 := Aside0.mk s0_HN1
      have n_HM0 := Aside0.mk s0_HM0
      have n_HM1 := Aside0.mk s0_HM1
      have n_HX := Aside0.mk s0_HX
      have n_HY := Aside0.mk s0_HY
      have n_HO0 := Aside0.mk s0_HO0
      have n_HO1 := Aside0.mk s0_HO1
      have n_HP0 := Aside0.mk s0_HP0
      have n_HP1 := Aside0.mk s0_HP1
      have n_HK0 := Aside0.mk s0_HK0
      have n_HK1 := Aside0.mk s0_HK1
      have n_HB := Aside0.mk s0_HB
      clear s0_BK7 s0_BK8 s0_BK12 s0_BK13 s0_BK14 s0_BK15 s0_BK22 s0_BK23 s0_BK24 s0_HN0 s0_HN1 s0_HM0 s0_HM1 s0_HX s0_HY s0_HO0 s0_HO1 s0_HP0 s0_HP1 s0_HK0 s0_HK1 s0_HB
      clear BK7 BK8 BK12 BK13 BK14 BK15 BK22 BK23 BK24 HN0 HN1 HM0 HM1 HX HY HO0 HO1 HP0 HP1 HK0 HK1 HB
      generalize ((((((w3.setCell ⟨gb24, 0, none⟩ (.int .i64 q4.f0)).setCell ⟨gb24, 1, none⟩ (.int .i64 q4.f1)).setCell ⟨gb24, 2, none⟩ (.int .u64 q4.f2)).setCell ⟨gb24, 3, none⟩ (.int .u64 q4.f3)).setCell ⟨gb24, 4, none⟩ (.int .u8 q4.f4)).setCell ⟨gb24, 5, none⟩ (.int .i64 q4.f5)) = w4 at n_BK7 n_BK8 n_BK12 n_BK13 n_BK14 n_BK15 n_BK22 n_BK23 n_BK24 n_HN0 n_HN1 n_HM0 n_HM1 n_HX n_HY n_HO0 n_HO1 n_HP0 n_HP1 n_HK0 n_HK1 n_HB ⊢
      have BK7 := n_BK7
      have BK8 := n_BK8
      have BK12 := n_BK12
      have BK13 := n_BK13
      have BK14 := n_BK14
      have BK15 := n_BK15
      have BK22 := n_BK22
      have BK23 := n_BK23
      have BK24 := n_BK24
      have HN0 := n_HN0
      have HN1 := n_HN1
      have HM0 := n_HM0
      have HM1 := n_HM1
      have HX := n_HX
      have HY := n_HY
      have HO0 := n_HO0
      have HO1 := n_HO1
      have HP0 := n_HP0
      have HP1 := n_HP1
      have HK0 := n_HK0
      have HK1 := n_HK1
      have HB := n_HB
      clear n_BK7 n_BK8 n_BK12 n_BK13 n_BK14 n_BK15 n_BK22 n_BK23 n_BK24 n_HN0 n_HN1 n_HM0 n_HM1 n_HX n_HY n_HO0 n_HO1 n_HP0 n_HP1 n_HK0 n_HK1 n_HB
      have bk7_0 := blk_c BK7.out 0 rfl; have bk7_1 := blk_c BK7.out 1 rfl; have bk7_2 := blk_c BK7.out 2 rfl; have bk8_0 := blk_c BK8.out 0 rfl; have bk8_1 := blk_c BK8.out 1 rfl; have bk8_2 := blk_c BK8.out 2 rfl; have bk12_0 := blk_c BK12.out 0 rfl; have bk12_1 := blk_c BK12.out 1 rfl; have bk12_2 := blk_c BK12.out 2 rfl; have bk12_3 := blk_c BK12.out 3 rfl; have bk12_4 := blk_c BK12.out 4 rfl; have bk12_5 := blk_c BK12.out 5 rfl; have bk13_0 := blk_c BK13.out 0 rfl; have bk13_1 := blk_c BK13.out 1 rfl; have bk13_2 := blk_c BK13.out 2 rfl; have bk14_0 := blk_c BK14.out 0 rfl; have bk14_1 := blk_c BK14.out 1 rfl; have bk14_2 := blk_c BK14.out 2 rfl; have bk15_0 := blk_c BK15.out 0 rfl; have bk15_1 := blk_c BK15.out 1 rfl; have bk15_2 := blk_c BK15.out 2 rfl; have bk22_0 := blk_c BK22.out 0 rfl; have bk22_1 := blk_c BK22.out 1 rfl; have bk22_2 := blk_c BK22.out 2 rfl; have bk22_3 := blk_c BK22.out 3 rfl; have bk22_4 := blk_c BK22.out 4 rfl; have bk22_5 := blk_c BK22.out 5 rfl; have bk23_0 := blk_c BK23.out 0 rfl; have bk23_1 := blk_c BK23.out 1 rfl; have bk23_2 := blk_c BK23.out 2 rfl; have bk23_3 := blk_c BK23.out 3 rfl; have bk23_4 := blk_c BK23.out 4 rfl; have bk23_5 := blk_c BK23.out 5 rfl; have bk24_0 := blk_c BK24.out 0 rfl; have bk24_1 := blk_c BK24.out 1 rfl; have bk24_2 := blk_c BK24.out 2 rfl; have bk24_3 := blk_c BK24.out 3 rfl; have bk24_4 := blk_c BK24.out 4 rfl; have bk24_5 := blk_c BK24.out 5 rfl; have bk7_f := fun i => blk_frozen BK7.out i; have bk8_f := fun i => blk_frozen BK8.out i; have bk12_f := fun i => blk_frozen BK12.out i; have bk13_f := fun i => blk_frozen BK13.out i; have bk14_f := fun i => blk_frozen BK14.out i; have bk15_f := fun i => blk_frozen BK15.out i; have bk22_f := fun i => blk_frozen BK22.out i; have bk23_f := fun i => blk_frozen BK23.out i; have bk24_f := fun i => blk_frozen BK24.out i
      go_upto_region 35 with (first | (go_at_call 56; (with_reducible refine (refOf_at _ _ L2 _ _ D2 g2 o.f1 _ (Kd.R_reads' HM0.out).2.2 (Kd.R_reads' HM0.out).2.1 (Kd.R_reads' HM1.out).2.2 (Kd.R_reads' HM1.out).2.1 (by omega) (by omega)).mono ?_); rw [Q4.out]; rintro e w5 ⟨rfl, hb⟩; have hsz := below_size HB.out; clear bk7_0 bk7_1 bk7_2 bk7_f bk8_0 bk8_1 bk8_2 bk8_f bk12_0 bk12_1 bk12_2 bk12_3 bk12_4 bk12_5 bk12_f bk13_0 bk13_1 bk13_2 bk13_f bk14_0 bk14_1 bk14_2 bk14_f bk15_0 bk15_1 bk15_2 bk15_f bk22_0 bk22_1 bk22_2 bk22_3 bk22_4 bk22_5 bk22_f bk23_0 bk23_1 bk23_2 bk23_3 bk23_4 bk23_5 bk23_f bk24_0 bk24_1 bk24_2 bk24_3 bk24_4 bk24_5 bk24_f; replace BK7 := Aside0.mk (blk_below BK7.out hb); replace BK8 := Aside0.mk (blk_below BK8.out hb); replace BK12 := Aside0.mk (blk_below BK12.out hb); replace BK13 := Aside0.mk (blk_below BK13.out hb); replace BK14 := Aside0.mk (blk_below BK14.out hb); replace BK15 := Aside0.mk (blk_below BK15.out hb); replace BK22 := Aside0.mk (blk_below BK22.out hb); replace BK23 := Aside0.mk (blk_below BK23.out hb); replace BK24 := Aside0.mk (blk_below BK24.out hb); replace HN0 := Aside0.mk (Kd.R_below HN0.out hb); replace HN1 := Aside0.mk (Kd.R_below HN1.out hb); replace HM0 := Aside0.mk (Kd.R_below HM0.out hb); replace HM1 := Aside0.mk (Kd.R_below HM1.out hb); replace HX := Aside0.mk (Kd.R_below HX.out hb); replace HY := Aside0.mk (Kd.R_below HY.out hb); replace HO0 := Aside0.mk (Kd.R_below HO0.out hb); replace HO1 := Aside0.mk (Kd.R_below HO1.out hb); replace HP0 := Aside0.mk (Kd.R_below HP0.out hb); replace HP1 := Aside0.mk (Kd.R_below HP1.out hb); replace HK0 := Aside0.mk (Kd.R_below HK0.out hb); replace HK1 := Aside0.mk (Kd.R_below HK1.out hb); replace HB := Aside0.mk (below_step HB.out hb); clear hb; clear hsz; have bk7_0 := blk_c BK7.out 0 rfl; have bk7_1 := blk_c BK7.out 1 rfl; have bk7_2 := blk_c BK7.out 2 rfl; have bk8_0 := blk_c BK8.out 0 rfl; have bk8_1 := blk_c BK8.out 1 rfl; have bk8_2 := blk_c BK8.out 2 rfl; have bk12_0 := blk_c BK12.out 0 rfl; have bk12_1 := blk_c BK12.out 1 rfl; have bk12_2 := blk_c BK12.out 2 rfl; have bk12_3 := blk_c BK12.out 3 rfl; have bk12_4 := blk_c BK12.out 4 rfl; have bk12_5 := blk_c BK12.out 5 rfl; have bk13_0 := blk_c BK13.out 0 rfl; have bk13_1 := blk_c BK13.out 1 rfl; have bk13_2 := blk_c BK13.out 2 rfl; have bk14_0 := blk_c BK14.out 0 rfl; have bk14_1 := blk_c BK14.out 1 rfl; have bk14_2 := blk_c BK14.out 2 rfl; have bk15_0 := blk_c BK15.out 0 rfl; have bk15_1 := blk_c BK15.out 1 rfl; have bk15_2 := blk_c BK15.out 2 rfl; have bk22_0 := blk_c BK22.out 0 rfl; have bk22_1 := blk_c BK22.out 1 rfl; have bk22_2 := blk_c BK22.out 2 rfl; have bk22_3 := blk_c BK22.out 3 rfl; have bk22_4 := blk_c BK22.out 4 rfl; have bk22_5 := blk_c BK22.out 5 rfl; have bk23_0 := blk_c BK23.out 0 rfl; have bk23_1 := blk_c BK23.out 1 rfl; have bk23_2 := blk_c BK23.out 2 rfl; have bk23_3 := blk_c BK23.out 3 rfl; have bk23_4 := blk_c BK23.out 4 rfl; have bk23_5 := blk_c BK23.out 5 rfl; have bk24_0 := blk_c BK24.out 0 rfl; have bk24_1 := blk_c BK24.out 1 rfl; have bk24_2 := blk_c BK24.out 2 rfl; have bk24_3 := blk_c BK24.out 3 rfl; have bk24_4 := blk_c BK24.out 4 rfl; have bk24_5 := blk_c BK24.out 5 rfl; have bk7_f := fun i => blk_frozen BK7.out i; have bk8_f := fun i => blk_frozen BK8.out i; have bk12_f := fun i => blk_frozen BK12.out i; have bk13_f := fun i => blk_frozen BK13.out i; have bk14_f := fun i => blk_frozen BK14.out i; have bk15_f := fun i => blk_frozen BK15.out i; have bk22_f := fun i => blk_frozen BK22.out i; have bk23_f := fun i => blk_frozen BK23.out i; have bk24_f := fun i => blk_frozen BK24.out i) | ((with_reducible refine gate_dst (N := 26) rfl ?_); refine box_event ?hg (N := 26) ?hd (cs := #[.int .i64 0, .int .i64 0, .int .u64 0, .int .u64 0, .int .u8 0, .int .i64 0]) (t := 65) ?hr ?_; (case hd => rfl); (case hg => rfl); (case hr => first | (go_simp; done) | (go_simp; rfl)); intro gb26 hg w3 hbox hb; have NE_gb7_gb26 := Aside0.mk (show gb7 ≠ gb26 from by rw [hg]; exact Nat.ne_of_lt (blk_lt BK7.out)); have NE_gb8_gb26 := Aside0.mk (show gb8 ≠ gb26 from by rw [hg]; exact Nat.ne_of_lt (blk_lt BK8.out)); have NE_gb12_gb26 := Aside0.mk (show gb12 ≠ gb26 from by rw [hg]; exact Nat.ne_of_lt (blk_lt BK12.out)); have NE_gb13_gb26 := Aside0.mk (show gb13 ≠ gb26 from by rw [hg]; exact Nat.ne_of_lt (blk_lt BK13.out)); have NE_gb14_gb26 := Aside0.mk (show gb14 ≠ gb26 from by rw [hg]; exact Nat.ne_of_lt (blk_lt BK14.out)); have NE_gb15_gb26 := Aside0.mk (show gb15 ≠ gb26 from by rw [hg]; exact Nat.ne_of_lt (blk_lt BK15.out)); have NE_gb22_gb26 := Aside0.mk (show gb22 ≠ gb26 from by rw [hg]; exact Nat.ne_of_lt (blk_lt BK22.out)); have NE_gb23_gb26 := Aside0.mk (show gb23 ≠ gb26 from by rw [hg]; exact Nat.ne_of_lt (blk_lt BK23.out)); have NE_gb24_gb26 := Aside0.mk (show gb24 ≠ gb26 from by rw [hg]; exact Nat.ne_of_lt (blk_lt BK24.out)); have X_gb26_HN0 : Aside0 (some gb26 ≠ (.slice AL2 L2.length cL2 : Value).ownBlock) := ⟨fun e => by have := Kd.R_lt HN0.out gb26 e.symm; rw [hg] at this; exact absurd this (Nat.lt_irrefl _)⟩; have X_gb26_HN1 : Aside0 (some gb26 ≠ (.slice AD2 D2.length cD2 : Value).ownBlock) := ⟨fun e => by have := Kd.R_lt HN1.out gb26 e.symm; rw [hg] at this; exact absurd this (Nat.lt_irrefl _)⟩; have X_gb26_HM0 : Aside0 (some gb26 ≠ (.slice RL2 L2.length rL2 : Value).ownBlock) := ⟨fun e => by have := Kd.R_lt HM0.out gb26 e.symm; rw [hg] at this; exact absurd this (Nat.lt_irrefl _)⟩; have X_gb26_HM1 : Aside0 (some gb26 ≠ (.slice RD2 D2.length rD2 : Value).ownBlock) := ⟨fun e => by have := Kd.R_lt HM1.out gb26 e.symm; rw [hg] at this; exact absurd this (Nat.lt_irrefl _)⟩; have X_gb26_HO0 : Aside0 (some gb26 ≠ (.slice AL L.length cL : Value).ownBlock) := ⟨fun e => by have := Kd.R_lt HO0.out gb26 e.symm; rw [hg] at this; exact absurd this (Nat.lt_irrefl _)⟩; have X_gb26_HO1 : Aside0 (some gb26 ≠ (.slice AD D.length cD : Value).ownBlock) := ⟨fun e => by have := Kd.R_lt HO1.out gb26 e.symm; rw [hg] at this; exact absurd this (Nat.lt_irrefl _)⟩; have X_gb26_HP0 : Aside0 (some gb26 ≠ (.slice RL L.length rL : Value).ownBlock) := ⟨fun e => by have := Kd.R_lt HP0.out gb26 e.symm; rw [hg] at this; exact absurd this (Nat.lt_irrefl _)⟩; have X_gb26_HP1 : Aside0 (some gb26 ≠ (.slice RD D.length rD : Value).ownBlock) := ⟨fun e => by have := Kd.R_lt HP1.out gb26 e.symm; rw [hg] at this; exact absurd this (Nat.lt_irrefl _)⟩; have X_gb26_HK0 : Aside0 (some gb26 ≠ (.slice AK L.length cK : Value).ownBlock) := ⟨fun e => by have := Kd.R_lt HK0.out gb26 e.symm; rw [hg] at this; exact absurd this (Nat.lt_irrefl _)⟩; have X_gb26_HK1 : Aside0 (some gb26 ≠ (.slice AM D.length cM : Value).ownBlock) := ⟨fun e => by have := Kd.R_lt HK1.out gb26 e.symm; rw [hg] at this; exact absurd this (Nat.lt_irrefl _)⟩; have GE_gb26 := Aside0.mk (show w.heap.size ≤ gb26 from by rw [hg]; exact below_size HB.out); clear hg; clear bk7_0 bk7_1 bk7_2 bk7_f bk8_0 bk8_1 bk8_2 bk8_f bk12_0 bk12_1 bk12_2 bk12_3 bk12_4 bk12_5 bk12_f bk13_0 bk13_1 bk13_2 bk13_f bk14_0 bk14_1 bk14_2 bk14_f bk15_0 bk15_1 bk15_2 bk15_f bk22_0 bk22_1 bk22_2 bk22_3 bk22_4 bk22_5 bk22_f bk23_0 bk23_1 bk23_2 bk23_3 bk23_4 bk23_5 bk23_f bk24_0 bk24_1 bk24_2 bk24_3 bk24_4 bk24_5 bk24_f; replace BK7 := Aside0.mk (blk_below BK7.out hb); replace BK8 := Aside0.mk (blk_below BK8.out hb); replace BK12 := Aside0.mk (blk_below BK12.out hb); replace BK13 := Aside0.mk (blk_below BK13.out hb); replace BK14 := Aside0.mk (blk_below BK14.out hb); replace BK15 := Aside0.mk (blk_below BK15.out hb); replace BK22 := Aside0.mk (blk_below BK22.out hb); replace BK23 := Aside0.mk (blk_below BK23.out hb); replace BK24 := Aside0.mk (blk_below BK24.out hb); replace HN0 := Aside0.mk (Kd.R_below HN0.out hb); replace HN1 := Aside0.mk (Kd.R_below HN1.out hb); replace HM0 := Aside0.mk (Kd.R_below HM0.out hb); replace HM1 := Aside0.mk (Kd.R_below HM1.out hb); replace HX := Aside0.mk (Kd.R_below HX.out hb); replace HY := Aside0.mk (Kd.R_below HY.out hb); replace HO0 := Aside0.mk (Kd.R_below HO0.out hb); replace HO1 := Aside0.mk (Kd.R_below HO1.out hb); replace HP0 := Aside0.mk (Kd.R_below HP0.out hb); replace HP1 := Aside0.mk (Kd.R_below HP1.out hb); replace HK0 := Aside0.mk (Kd.R_below HK0.out hb); replace HK1 := Aside0.mk (Kd.R_below HK1.out hb); replace HB := Aside0.mk (below_step HB.out hb); clear hb; have BK26 := Aside0.mk hbox; clear hbox; have bk7_0 := blk_c BK7.out 0 rfl; have bk7_1 := blk_c BK7.out 1 rfl; have bk7_2 := blk_c BK7.out 2 rfl; have bk8_0 := blk_c BK8.out 0 rfl; have bk8_1 := blk_c BK8.out 1 rfl; have bk8_2 := blk_c BK8.out 2 rfl; have bk12_0 := blk_c BK12.out 0 rfl; have bk12_1 := blk_c BK12.out 1 rfl; have bk12_2 := blk_c BK12.out 2 rfl; have bk12_3 := blk_c BK12.out 3 rfl; have bk12_4 := blk_c BK12.out 4 rfl; have bk12_5 := blk_c BK12.out 5 rfl; have bk13_0 := blk_c BK13.out 0 rfl; have bk13_1 := blk_c BK13.out 1 rfl; have bk13_2 := blk_c BK13.out 2 rfl; have bk14_0 := blk_c BK14.out 0 rfl; have bk14_1 := blk_c BK14.out 1 rfl; have bk14_2 := blk_c BK14.out 2 rfl; have bk15_0 := blk_c BK15.out 0 rfl; have bk15_1 := blk_c BK15.out 1 rfl; have bk15_2 := blk_c BK15.out 2 rfl; have bk22_0 := blk_c BK22.out 0 rfl; have bk22_1 := blk_c BK22.out 1 rfl; have bk22_2 := blk_c BK22.out 2 rfl; have bk22_3 := blk_c BK22.out 3 rfl; have bk22_4 := blk_c BK22.out 4 rfl; have bk22_5 := blk_c BK22.out 5 rfl; have bk23_0 := blk_c BK23.out 0 rfl; have bk23_1 := blk_c BK23.out 1 rfl; have bk23_2 := blk_c BK23.out 2 rfl; have bk23_3 := blk_c BK23.out 3 rfl; have bk23_4 := blk_c BK23.out 4 rfl; have bk23_5 := blk_c BK23.out 5 rfl; have bk24_0 := blk_c BK24.out 0 rfl; have bk24_1 := blk_c BK24.out 1 rfl; have bk24_2 := blk_c BK24.out 2 rfl; have bk24_3 := blk_c BK24.out 3 rfl; have bk24_4 := blk_c BK24.out 4 rfl; have bk24_5 := blk_c BK24.out 5 rfl; have bk26_0 := blk_c BK26.out 0 rfl; have bk26_1 := blk_c BK26.out 1 rfl; have bk26_2 := blk_c BK26.out 2 rfl; have bk26_3 := blk_c BK26.out 3 rfl; have bk26_4 := blk_c BK26.out 4 rfl; have bk26_5 := blk_c BK26.out 5 rfl; have bk7_f := fun i => blk_frozen BK7.out i; have bk8_f := fun i => blk_frozen BK8.out i; have bk12_f := fun i => blk_frozen BK12.out i; have bk13_f := fun i => blk_frozen BK13.out i; have bk14_f := fun i => blk_frozen BK14.out i; have bk15_f := fun i => blk_frozen BK15.out i; have bk22_f := fun i => blk_frozen BK22.out i; have bk23_f := fun i => blk_frozen BK23.out i; have bk24_f := fun i => blk_frozen BK24.out i; have bk26_f := fun i => blk_frozen BK26.out i))
      clear bk7_0 bk7_1 bk7_2 bk7_f bk8_0 bk8_1 bk8_2 bk8_f bk12_0 bk12_1 bk12_2 bk12_3 bk12_4 bk12_5 bk12_f bk13_0 bk13_1 bk13_2 bk13_f bk14_0 bk14_1 bk14_2 bk14_f bk15_0 bk15_1 bk15_2 bk15_f bk22_0 bk22_1 bk22_2 bk22_3 bk22_4 bk22_5 bk22_f bk23_0 bk23_1 bk23_2 bk23_3 bk23_4 bk23_5 bk23_f bk24_0 bk24_1 bk24_2 bk24_3 bk24_4 bk24_5 bk24_f bk26_0 bk26_1 bk26_2 bk26_3 bk26_4 bk26_5 bk26_f
      have s0_HN0 := far_set6 HN0.out (X_gb26_HN0.out) (.int .i64 q4.f0) (.int .i64 q4.f1) (.int .u64 q4.f2) (.int .u64 q4.f3) (.int .u8 q4.f4) (.int .i64 q4.f5)
      have s0_HN1 := far_set6 HN1.out (X_gb26_HN1.out) (.int .i64 q4.f0) (.int .i64 q4.f1) (.int .u64 q4.f2) (.int .u64 q4.f3) (.int .u8 q4.f4) (.int .i64 q4.f5)
      have s0_HM0 := far_set6 HM0.out (X_gb26_HM0.out) (.int .i64 q4.f0) (.int .i64 q4.f1) (.int .u64 q4.f2) (.int .u64 q4.f3) (.int .u8 q4.f4) (.int .i64 q4.f5)
      have s0_HM1 := far_set6 HM1.out (X_gb26_HM1.out) (.int .i64 q4.f0) (.int .i64 q4.f1) (.int .u64 q4.f2) (.int .u64 q4.f3) (.int .u8 q4.f4) (.int .i64 q4.f5)
      have s0_HX := far_int6 HX.out (blk_rowG BK26.out HX.out (by decide)) (.int .i64 q4.f0) (.int .i64 q4.f1) (.int .u64 q4.f2) (.int .u64 q4.f3) (.int .u8 q4.f4) (.int .i64 q4.f5)
      have s0_HY := far_int6 HY.out (blk_rowG BK26.out HY.out (by decide)) (.int .i64 q4.f0) (.int .i64 q4.f1) (.int .u64 q4.f2) (.int .u64 q4.f3) (.int .u8 q4.f4) (.int .i64 q4.f5)
      have s0_HO0 := far_set6 HO0.out (X_gb26_HO0.out) (.int .i64 q4.f0) (.int .i64 q4.f1) (.int .u64 q4.f2) (.int .u64 q4.f3) (.int .u8 q4.f4) (.int .i64 q4.f5)
      have s0_HO1 := far_set6 HO1.out (X_gb26_HO1.out) (.int .i64 q4.f0) (.int .i64 q4.f1) (.int .u64 q4.f2) (.int .u64 q4.f3) (.int .u8 q4.f4) (.int .i64 q4.f5)
      have s0_HP0 := far_set6 HP0.out (X_gb26_HP0.out) (.int .i64 q4.f0) (.int .i64 q4.f1) (.int .u64 q4.f2) (.int .u64 q4.f3) (.int .u8 q4.f4) (.int .i64 q4.f5)
      have s0_HP1 := far_set6 HP1.out (X_gb26_HP1.out) (.int .i64 q4.f0) (.int .i64 q4.f1) (.int .u64 q4.f2) (.int .u64 q4.f3) (.int .u8 q4.f4) (.int .i64 q4.f5)
      have s0_HK0 := far_set6 HK0.out (X_gb26_HK0.out) (.int .i64 q4.f0) (.int .i64 q4.f1) (.int .u64 q4.f2) (.int .u64 q4.f3) (.int .u8 q4.f4) (.int .i64 q4.f5)
      have s0_HK1 := far_set6 HK1.out (X_gb26_HK1.out) (.int .i64 q4.f0) (.int .i64 q4.f1) (.int .u64 q4.f2) (.int .u64 q4.f3) (.int .u8 q4.f4) (.int .i64 q4.f5)
      have s0_BK7 := blk_far6 BK7.out NE_gb7_gb26.out (.int .i64 q4.f0) (.int .i64 q4.f1) (.int .u64 q4.f2) (.int .u64 q4.f3) (.int .u8 q4.f4) (.int .i64 q4.f5)
      have s0_BK8 := blk_far6 BK8.out NE_gb8_gb26.out (.int .i64 q4.f0) (.int .i64 q4.f1) (.int .u64 q4.f2) (.int .u64 q4.f3) (.int .u8 q4.f4) (.int .i64 q4.f5)
      have s0_BK12 := blk_far6 BK12.out NE_gb12_gb26.out (.int .i64 q4.f0) (.int .i64 q4.f1) (.int .u64 q4.f2) (.int .u64 q4.f3) (.int .u8 q4.f4) (.int .i64 q4.f5)
      have s0_BK13 := blk_far6 BK13.out NE_gb13_gb26.out (.int .i64 q4.f0) (.int .i64 q4.f1) (.int .u64 q4.f2) (.int .u64 q4.f3) (.int .u8 q4.f4) (.int .i64 q4.f5)
      have s0_BK14 := blk_far6 BK14.out NE_gb14_gb26.out (.int .i64 q4.f0) (.int .i64 q4.f1) (.int .u64 q4.f2) (.int .u64 q4.f3) (.int .u8 q4.f4) (.int .i64 q4.f5)
      have s0_BK15 := blk_far6 BK15.out NE_gb15_gb26.out (.int .i64 q4.f0) (.int .i64 q4.f1) (.int .u64 q4.f2) (.int .u64 q4.f3) (.int .u8 q4.f4) (.int .i64 q4.f5)
      have s0_BK22 := blk_far6 BK22.out NE_gb22_gb26.out (.int .i64 q4.f0) (.int .i64 q4.f1) (.int .u64 q4.f2) (.int .u64 q4.f3) (.int .u8 q4.f4) (.int .i64 q4.f5)
      have s0_BK23 := blk_far6 BK23.out NE_gb23_gb26.out (.int .i64 q4.f0) (.int .i64 q4.f1) (.int .u64 q4.f2) (.int .u64 q4.f3) (.int .u8 q4.f4) (.int .i64 q4.f5)
      have s0_BK24 := blk_far6 BK24.out NE_gb24_gb26.out (.int .i64 q4.f0) (.int .i64 q4.f1) (.int .u64 q4.f2) (.int .u64 q4.f3) (.int .u8 q4.f4) (.int .i64 q4.f5)
      have s0_BK26 := blk_put6 BK26.out (.int .i64 q4.f0) (.int .i64 q4.f1) (.int .u64 q4.f2) (.int .u64 q4.f3) (.int .u8 q4.f4) (.int .i64 q4.f5)
      have s0_HB := below_set6 HB.out GE_gb26.out (.int .i64 q4.f0) (.int .i64 q4.f1) (.int .u64 q4.f2) (.int .u64 q4.f3) (.int .u8 q4.f4) (.int .i64 q4.f5)
      have n_BK7 := Aside0.mk s0_BK7
      have n_BK8 := Aside0.mk s0_BK8
      have n_BK12 := Aside0.mk s0_BK12
      have n_BK13 := Aside0.mk s0_BK13
      have n_BK14 := Aside0.mk s0_BK14
      have n_BK15 := Aside0.mk s0_BK15
      have n_BK22 := Aside0.mk s0_BK22
      have n_BK23 := Aside0.mk s0_BK23
      have n_BK24 := Aside0.mk s0_BK24
      have n_BK26 := Aside0.mk s0_BK26
      have n_HN0 := Aside0.mk s0_HN0
      have n_HN1 := Aside0.mk s0_HN1
      have n_HM0 := Aside0.mk s0_HM0
      have n_HM1 := Aside0.mk s0_HM1
      have n_HX := Aside0.mk s0_HX
      have n_HY := Aside0.mk s0_HY
      have n_HO0 := Aside0.mk s0_HO0
      have n_HO1 := Aside0.mk s0_HO1
      have n_HP0 := Aside0.mk s0_HP0
      have n_HP1 := Aside0.mk s0_HP1
      have n_HK0 := Aside0.mk s0_HK0
      have n_HK1 := Aside0.mk s0_HK1
      have n_HB := Aside0.mk s0_HB
      clear s0_BK7 s0_BK8 s0_BK12 s0_BK13 s0_BK14 s0_BK15 s0_BK22 s0_BK23 s0_BK24 s0_BK26 s0_HN0 s0_HN1 s0_HM0 s0_HM1 s0_HX s0_HY s0_HO0 s0_HO1 s0_HP0 s0_HP1 s0_HK0 s0_HK1 s0_HB
      clear BK7 BK8 BK12 BK13 BK14 BK15 BK22 BK23 BK24 BK26 HN0 HN1 HM0 HM1 HX HY HO0 HO1 HP0 HP1 HK0 HK1 HB
      generalize ((((((w3.setCell ⟨gb26, 0, none⟩ (.int .i64 q4.f0)).setCell ⟨gb26, 1, none⟩ (.int .i64 q4.f1)).setCell ⟨gb26, 2, none⟩ (.int .u64 q4.f2)).setCell ⟨gb26, 3, none⟩ (.int .u64 q4.f3)).setCell ⟨gb26, 4, none⟩ (.int .u8 q4.f4)).setCell ⟨gb26, 5, none⟩ (.int .i64 q4.f5)) = wN at n_BK7 n_BK8 n_BK12 n_BK13 n_BK14 n_BK15 n_BK22 n_BK23 n_BK24 n_BK26 n_HN0 n_HN1 n_HM0 n_HM1 n_HX n_HY n_HO0 n_HO1 n_HP0 n_HP1 n_HK0 n_HK1 n_HB ⊢
      have BK7 := n_BK7
      have BK8 := n_BK8
      have BK12 := n_BK12
      have BK13 := n_BK13
      have BK14 := n_BK14
      have BK15 := n_BK15
      have BK22 := n_BK22
      have BK23 := n_BK23
      have BK24 := n_BK24
      have BK26 := n_BK26
      have HN0 := n_HN0
      have HN1 := n_HN1
      have HM0 := n_HM0
      have HM1 := n_HM1
      have HX := n_HX
      have HY := n_HY
      have HO0 := n_HO0
      have HO1 := n_HO1
      have HP0 := n_HP0
      have HP1 := n_HP1
      have HK0 := n_HK0
      have HK1 := n_HK1
      have HB := n_HB
      clear n_BK7 n_BK8 n_BK12 n_BK13 n_BK14 n_BK15 n_BK22 n_BK23 n_BK24 n_BK26 n_HN0 n_HN1 n_HM0 n_HM1 n_HX n_HY n_HO0 n_HO1 n_HP0 n_HP1 n_HK0 n_HK1 n_HB
      have bk7_0 := blk_c BK7.out 0 rfl; have bk7_1 := blk_c BK7.out 1 rfl; have bk7_2 := blk_c BK7.out 2 rfl; have bk8_0 := blk_c BK8.out 0 rfl; have bk8_1 := blk_c BK8.out 1 rfl; have bk8_2 := blk_c BK8.out 2 rfl; have bk12_0 := blk_c BK12.out 0 rfl; have bk12_1 := blk_c BK12.out 1 rfl; have bk12_2 := blk_c BK12.out 2 rfl; have bk12_3 := blk_c BK12.out 3 rfl; have bk12_4 := blk_c BK12.out 4 rfl; have bk12_5 := blk_c BK12.out 5 rfl; have bk13_0 := blk_c BK13.out 0 rfl; have bk13_1 := blk_c BK13.out 1 rfl; have bk13_2 := blk_c BK13.out 2 rfl; have bk14_0 := blk_c BK14.out 0 rfl; have bk14_1 := blk_c BK14.out 1 rfl; have bk14_2 := blk_c BK14.out 2 rfl; have bk15_0 := blk_c BK15.out 0 rfl; have bk15_1 := blk_c BK15.out 1 rfl; have bk15_2 := blk_c BK15.out 2 rfl; have bk22_0 := blk_c BK22.out 0 rfl; have bk22_1 := blk_c BK22.out 1 rfl; have bk22_2 := blk_c BK22.out 2 rfl; have bk22_3 := blk_c BK22.out 3 rfl; have bk22_4 := blk_c BK22.out 4 rfl; have bk22_5 := blk_c BK22.out 5 rfl; have bk23_0 := blk_c BK23.out 0 rfl; have bk23_1 := blk_c BK23.out 1 rfl; have bk23_2 := blk_c BK23.out 2 rfl; have bk23_3 := blk_c BK23.out 3 rfl; have bk23_4 := blk_c BK23.out 4 rfl; have bk23_5 := blk_c BK23.out 5 rfl; have bk24_0 := blk_c BK24.out 0 rfl; have bk24_1 := blk_c BK24.out 1 rfl; have bk24_2 := blk_c BK24.out 2 rfl; have bk24_3 := blk_c BK24.out 3 rfl; have bk24_4 := blk_c BK24.out 4 rfl; have bk24_5 := blk_c BK24.out 5 rfl; have bk26_0 := blk_c BK26.out 0 rfl; have bk26_1 := blk_c BK26.out 1 rfl; have bk26_2 := blk_c BK26.out 2 rfl; have bk26_3 := blk_c BK26.out 3 rfl; have bk26_4 := blk_c BK26.out 4 rfl; have bk26_5 := blk_c BK26.out 5 rfl; have bk7_f := fun i => blk_frozen BK7.out i; have bk8_f := fun i => blk_frozen BK8.out i; have bk12_f := fun i => blk_frozen BK12.out i; have bk13_f := fun i => blk_frozen BK13.out i; have bk14_f := fun i => blk_frozen BK14.out i; have bk15_f := fun i => blk_frozen BK15.out i; have bk22_f := fun i => blk_frozen BK22.out i; have bk23_f := fun i => blk_frozen BK23.out i; have bk24_f := fun i => blk_frozen BK24.out i; have bk26_f := fun i => blk_frozen BK26.out i
      clear bk7_0 bk7_1 bk7_2 bk7_f bk8_0 bk8_1 bk8_2 bk8_f bk12_0 bk12_1 bk12_2 bk12_3 bk12_4 bk12_5 bk12_f bk13_0 bk13_1 bk13_2 bk13_f bk14_0 bk14_1 bk14_2 bk14_f bk15_0 bk15_1 bk15_2 bk15_f bk22_0 bk22_1 bk22_2 bk22_3 bk22_4 bk22_5 bk22_f bk23_0 bk23_1 bk23_2 bk23_3 bk23_4 bk23_5 bk23_f bk24_0 bk24_1 bk24_2 bk24_3 bk24_4 bk24_5 bk24_f bk26_0 bk26_1 bk26_2 bk26_3 bk26_4 bk26_5 bk26_f
      as_aux_lemma =>
        refine start_ (n := 63) (S := fun w' => Below wN.heap.size wN w') (ds := []) (t35 0) (by kernel_rfl) rfl rfl (below_drew (Below.refl _ _)) (fun hHeld => ?_)
        refine with_tabW tells35.tab tells35.bits (fun HT_ HW_ => ?_)
        generalize wN.drew = wd at hHeld ⊢
        refine pure_ (i := 0) (N := some 173) (v := ?_) (a' := ?_) (t35 1) rfl rfl (any_of HT_.out (by kernel_rfl)) (fun _ _ _ h => h) (Or.inl ⟨by rfl, ?_⟩) ?_ ?_
        rotate_left
        · intro w'
          go_simp
          with_reducible rfl
        rotate_left
        · simp only [Act.put, List.setIfInBounds_toArray, List.set_cons_zero, List.set_cons_succ, i64_w, i32_w]
          rfl
        refine pure_ (i := 1) (N := some 174) (v := ?_) (a' := ?_) (t35 2) rfl rfl (any_of HT_.out (by kernel_rfl)) (fun _ _ _ h => h) (Or.inl ⟨by rfl, ?_⟩) ?_ ?_
        rotate_left
        · intro w'
          go_simp
          with_reducible rfl
        rotate_left
        · simp only [Act.put, List.setIfInBounds_toArray, List.set_cons_zero, List.set_cons_succ, i64_w, i32_w]
          rfl
        refine pure_ (i := 2) (N := some 175) (v := ?_) (a' := ?_) (t35 3) rfl rfl (any_of HT_.out (by kernel_rfl)) (fun _ _ _ h => h) (Or.inl ⟨by rfl, ?_⟩) ?_ ?_
        rotate_left
        · intro w'
          go_simp
          with_reducible rfl
        rotate_left
        · simp only [Act.put, List.setIfInBounds_toArray, List.set_cons_zero, List.set_cons_succ, i64_w, i32_w]
          rfl
        refine pure_ (i := 3) (N := some 176) (v := ?_) (a' := ?_) (t35 4) rfl rfl (any_of HT_.out (by kernel_rfl)) (fun _ _ _ h => h) (Or.inl ⟨by rfl, ?_⟩) ?_ ?_
        rotate_left
        · intro w'
          go_simp
          with_reducible rfl
        rotate_left
        · simp only [Act.put, List.setIfInBounds_toArray, List.set_cons_zero, List.set_cons_succ, i64_w, i32_w]
          rfl
        refine pure_ (i := 4) (N := some 177) (v := ?_) (a' := ?_) (t35 5) rfl rfl (any_of HT_.out (by kernel_rfl)) (fun _ _ _ h => h) (Or.inl ⟨by rfl, ?_⟩) ?_ ?_
        rotate_left
        · intro w'
          go_simp
          with_reducible rfl
        rotate_left
        · simp only [Act.put, List.setIfInBounds_toArray, List.set_cons_zero, List.set_cons_succ, i64_w, i32_w]
          rfl
        refine pure_ (i := 5) (N := some 178) (v := ?_) (a' := ?_) (t35 6) rfl rfl (any_of HT_.out (by kernel_rfl)) (fun _ _ _ h => h) (Or.inl ⟨by rfl, ?_⟩) ?_ ?_
        rotate_left
        · intro w'
          go_simp
          with_reducible rfl
        rotate_left
        · simp only [Act.put, List.setIfInBounds_toArray, List.set_cons_zero, List.set_cons_succ, i64_w, i32_w]
          rfl
        refine pure_ (i := 6) (N := some 179) (v := ?_) (a' := ?_) (t35 7) rfl rfl (any_of HT_.out (by kernel_rfl)) (fun _ _ _ h => h) (Or.inl ⟨by rfl, ?_⟩) ?_ ?_
        rotate_left
        · intro w'
          go_simp
          with_reducible rfl
        rotate_left
        · simp only [Act.put, List.setIfInBounds_toArray, List.set_cons_zero, List.set_cons_succ, i64_w, i32_w]
          rfl
        refine pure_ (i := 7) (N := some 180) (v := ?_) (a' := ?_) (t35 8) rfl rfl (any_of HT_.out (by kernel_rfl)) (fun _ _ _ h => h) (Or.inl ⟨by rfl, ?_⟩) ?_ ?_
        rotate_left
        · intro w'
          go_simp
          with_reducible rfl
        rotate_left
        · simp only [Act.put, List.setIfInBounds_toArray, List.set_cons_zero, List.set_cons_succ, i64_w, i32_w]
          rfl
        refine pure_ (i := 8) (N := some 181) (v := ?_) (a' := ?_) (t35 9) rfl rfl (any_of HT_.out (by kernel_rfl)) (fun _ _ _ h => h) (Or.inl ⟨by rfl, ?_⟩) ?_ ?_
        rotate_left
        · intro w'
          go_simp
          with_reducible rfl
        rotate_left
        · simp only [Act.put, List.setIfInBounds_toArray, List.set_cons_zero, List.set_cons_succ, i64_w, i32_w]
          rfl
        refine take_ (i := 9) (N := some 182) (v := ?_) (a' := ?_) (t35 10) rfl rfl (take_ofW HT_.out HW_.out (by kernel_rfl)) (fun _ _ _ h => h) (Or.inl ⟨by rfl, ?_⟩) hHeld ?_ ?_
        rotate_left
        · intro w' hbq
          have c0 := blk_c (blk_below BK22.out hbq) 0 rfl
          have c1 := blk_c (blk_below BK22.out hbq) 1 rfl
          have c2 := blk_c (blk_below BK22.out hbq) 2 rfl
          have c3 := blk_c (blk_below BK22.out hbq) 3 rfl
          have c4 := blk_c (blk_below BK22.out hbq) 4 rfl
          have c5 := blk_c (blk_below BK22.out hbq) 5 rfl
          go_simp
          with_reducible rfl
        rotate_left
        · simp only [Act.put, List.setIfInBounds_toArray, List.set_cons_zero, List.set_cons_succ, i64_w, i32_w]
          rfl
        refine take_ (i := 10) (N := some 183) (v := ?_) (a' := ?_) (t35 11) rfl rfl (take_ofW HT_.out HW_.out (by kernel_rfl)) (fun _ _ _ h => h) (Or.inl ⟨by rfl, ?_⟩) hHeld ?_ ?_
        rotate_left
        · intro w' hbq
          have c0 := blk_c (blk_below BK23.out hbq) 0 rfl
          have c1 := blk_c (blk_below BK23.out hbq) 1 rfl
          have c2 := blk_c (blk_below BK23.out hbq) 2 rfl
          have c3 := blk_c (blk_below BK23.out hbq) 3 rfl
          have c4 := blk_c (blk_below BK23.out hbq) 4 rfl
          have c5 := blk_c (blk_below BK23.out hbq) 5 rfl
          go_simp
          with_reducible rfl
        rotate_left
        · simp only [Act.put, List.setIfInBounds_toArray, List.set_cons_zero, List.set_cons_succ, i64_w, i32_w]
          rfl
        refine pure_ (i := 11) (N := some 184) (v := ?_) (a' := ?_) (t35 12) rfl rfl (any_of HT_.out (by kernel_rfl)) (fun _ _ _ h => h) (Or.inl ⟨by rfl, ?_⟩) ?_ ?_
        rotate_left
        · intro w'
          go_simp
          with_reducible rfl
        rotate_left
        · simp only [Act.put, List.setIfInBounds_toArray, List.set_cons_zero, List.set_cons_succ, i64_w, i32_w]
          rfl
        refine pure_ (i := 12) (N := some 185) (v := ?_) (a' := ?_) (t35 13) rfl rfl (any_of HT_.out (by kernel_rfl)) (fun _ _ _ h => h) (Or.inl ⟨by rfl, ?_⟩) ?_ ?_
        rotate_left
        · intro w'
          go_simp
          with_reducible rfl
        rotate_left
        · simp only [Act.put, List.setIfInBounds_toArray, List.set_cons_zero, List.set_cons_succ, i64_w, i32_w]
          rfl
        refine pure_ (i := 13) (N := some 186) (v := ?_) (a' := ?_) (t35 14) rfl rfl (any_of HT_.out (by kernel_rfl)) (fun _ _ _ h => h) (Or.inl ⟨by rfl, ?_⟩) ?_ ?_
        rotate_left
        · intro w'
          go_simp
          with_reducible rfl
        rotate_left
        · simp only [Act.put, List.setIfInBounds_toArray, List.set_cons_zero, List.set_cons_succ, i64_w, i32_w]
          rfl
        refine pure_ (i := 14) (N := some 187) (v := ?_) (a' := ?_) (t35 15) rfl rfl (any_of HT_.out (by kernel_rfl)) (fun _ _ _ h => h) (Or.inl ⟨by rfl, ?_⟩) ?_ ?_
        rotate_left
        · intro w'
          go_simp
          with_reducible rfl
        rotate_left
        · simp only [Act.put, List.setIfInBounds_toArray, List.set_cons_zero, List.set_cons_succ, i64_w, i32_w]
          rfl
        refine pure_ (i := 15) (N := some 188) (v := ?_) (a' := ?_) (t35 16) rfl rfl (any_of HT_.out (by kernel_rfl)) (fun _ _ _ h => h) (Or.inl ⟨by rfl, ?_⟩) ?_ ?_
        rotate_left
        · intro w'
          go_simp
          with_reducible rfl
        rotate_left
        · simp only [Act.put, List.setIfInBounds_toArray, List.set_cons_zero, List.set_cons_succ, i64_w, i32_w]
          rfl
        refine pure_ (i := 16) (N := some 189) (v := ?_) (a' := ?_) (t35 17) rfl rfl (any_of HT_.out (by kernel_rfl)) (fun _ _ _ h => h) (Or.inl ⟨by rfl, ?_⟩) ?_ ?_
        rotate_left
        · intro w'
          go_simp
          with_reducible rfl
        rotate_left
        · simp only [Act.put, List.setIfInBounds_toArray, List.set_cons_zero, List.set_cons_succ, i64_w, i32_w]
          rfl
        refine pure_ (i := 17) (N := some 190) (v := ?_) (a' := ?_) (t35 18) rfl rfl (any_of HT_.out (by kernel_rfl)) (fun _ _ _ h => h) (Or.inl ⟨by rfl, ?_⟩) ?_ ?_
        rotate_left
        · intro w'
          go_simp
          with_reducible rfl
        rotate_left
        · simp only [Act.put, List.setIfInBounds_toArray, List.set_cons_zero, List.set_cons_succ, i64_w, i32_w]
          rfl
        refine pure_ (i := 18) (N := some 191) (v := ?_) (a' := ?_) (t35 19) rfl rfl (any_of HT_.out (by kernel_rfl)) (fun _ _ _ h => h) (Or.inl ⟨by rfl, ?_⟩) ?_ ?_
        rotate_left
        · intro w'
          go_simp
          with_reducible rfl
        rotate_left
        · simp only [Act.put, List.setIfInBounds_toArray, List.set_cons_zero, List.set_cons_succ, i64_w, i32_w]
          rfl
        refine take_ (i := 19) (N := some 192) (v := ?_) (a' := ?_) (t35 20) rfl rfl (take_ofW HT_.out HW_.out (by kernel_rfl)) (fun _ _ _ h => h) (Or.inl ⟨by rfl, ?_⟩) hHeld ?_ ?_
        rotate_left
        · intro w' hbq
          have c0 := blk_c (blk_below BK24.out hbq) 0 rfl
          have c1 := blk_c (blk_below BK24.out hbq) 1 rfl
          have c2 := blk_c (blk_below BK24.out hbq) 2 rfl
          have c3 := blk_c (blk_below BK24.out hbq) 3 rfl
          have c4 := blk_c (blk_below BK24.out hbq) 4 rfl
          have c5 := blk_c (blk_below BK24.out hbq) 5 rfl
          go_simp
          with_reducible rfl
        rotate_left
        · simp only [Act.put, List.setIfInBounds_toArray, List.set_cons_zero, List.set_cons_succ, i64_w, i32_w]
          rfl
        refine take_ (i := 20) (N := some 193) (v := ?_) (a' := ?_) (t35 21) rfl rfl (take_ofW HT_.out HW_.out (by kernel_rfl)) (fun _ _ _ h => h) (Or.inl ⟨by rfl, ?_⟩) hHeld ?_ ?_
        rotate_left
        · intro w' hbq
          have c0 := blk_c (blk_below BK26.out hbq) 0 rfl
          have c1 := blk_c (blk_below BK26.out hbq) 1 rfl
          have c2 := blk_c (blk_below BK26.out hbq) 2 rfl
          have c3 := blk_c (blk_below BK26.out hbq) 3 rfl
          have c4 := blk_c (blk_below BK26.out hbq) 4 rfl
          have c5 := blk_c (blk_below BK26.out hbq) 5 rfl
          go_simp
          with_reducible rfl
        rotate_left
        · simp only [Act.put, List.setIfInBounds_toArray, List.set_cons_zero, List.set_cons_succ, i64_w, i32_w]
          rfl
        refine pure_ (i := 21) (N := some 194) (v := ?_) (a' := ?_) (t35 22) rfl rfl (any_of HT_.out (by kernel_rfl)) (fun _ _ _ h => h) (Or.inl ⟨by rfl, ?_⟩) ?_ ?_
        rotate_left
        · intro w'
          go_simp
          with_reducible rfl
        rotate_left
        · simp only [Act.put, List.setIfInBounds_toArray, List.set_cons_zero, List.set_cons_succ, i64_w, i32_w]
          rfl
        refine pure_ (i := 22) (N := some 195) (v := ?_) (a' := ?_) (t35 23) rfl rfl (any_of HT_.out (by kernel_rfl)) (fun _ _ _ h => h) (Or.inl ⟨by rfl, ?_⟩) ?_ ?_
        rotate_left
        · intro w'
          go_simp
          with_reducible rfl
        rotate_left
        · simp only [Act.put, List.setIfInBounds_toArray, List.set_cons_zero, List.set_cons_succ, i64_w, i32_w]
          rfl
        refine pure_ (i := 23) (N := some 196) (v := ?_) (a' := ?_) (t35 24) rfl rfl (any_of HT_.out (by kernel_rfl)) (fun _ _ _ h => h) (Or.inl ⟨by rfl, ?_⟩) ?_ ?_
        rotate_left
        · intro w'
          go_simp
          with_reducible rfl
        rotate_left
        · simp only [Act.put, List.setIfInBounds_toArray, List.set_cons_zero, List.set_cons_succ, i64_w, i32_w]
          rfl
        refine pure_ (i := 24) (N := some 197) (v := ?_) (a' := ?_) (t35 25) rfl rfl (any_of HT_.out (by kernel_rfl)) (fun _ _ _ h => h) (Or.inl ⟨by rfl, ?_⟩) ?_ ?_
        rotate_left
        · intro w'
          go_simp
          with_reducible rfl
        rotate_left
        · simp only [Act.put, List.setIfInBounds_toArray, List.set_cons_zero, List.set_cons_succ, i64_w, i32_w]
          rfl
        refine pure_ (i := 25) (N := some 198) (v := ?_) (a' := ?_) (t35 26) rfl rfl (any_of HT_.out (by kernel_rfl)) (fun _ _ _ h => h) (Or.inl ⟨by rfl, ?_⟩) ?_ ?_
        rotate_left
        · intro w'
          go_simp
          with_reducible rfl
        rotate_left
        · simp only [Act.put, List.setIfInBounds_toArray, List.set_cons_zero, List.set_cons_succ, i64_w, i32_w]
          rfl
        refine pure_ (i := 26) (N := some 199) (v := ?_) (a' := ?_) (t35 27) rfl rfl (any_of HT_.out (by kernel_rfl)) (fun _ _ _ h => h) (Or.inl ⟨by rfl, ?_⟩) ?_ ?_
        rotate_left
        · intro w'
          go_simp
          with_reducible rfl
        rotate_left
        · simp only [Act.put, List.setIfInBounds_toArray, List.set_cons_zero, List.set_cons_succ, i64_w, i32_w]
          rfl
        refine pure_ (i := 27) (N := some 200) (v := ?_) (a' := ?_) (t35 28) rfl rfl (any_of HT_.out (by kernel_rfl)) (fun _ _ _ h => h) (Or.inl ⟨by rfl, ?_⟩) ?_ ?_
        rotate_left
        · intro w'
          go_simp
          with_reducible rfl
        rotate_left
        · simp only [Act.put, List.setIfInBounds_toArray, List.set_cons_zero, List.set_cons_succ, i64_w, i32_w]
          rfl
        refine pure_ (i := 28) (N := some 201) (v := ?_) (a' := ?_) (t35 29) rfl rfl (any_of HT_.out (by kernel_rfl)) (fun _ _ _ h => h) (Or.inl ⟨by rfl, ?_⟩) ?_ ?_
        rotate_left
        · intro w'
          go_simp
          with_reducible rfl
        rotate_left
        · simp only [Act.put, List.setIfInBounds_toArray, List.set_cons_zero, List.set_cons_succ, i64_w, i32_w]
          rfl
        refine pure_ (i := 29) (N := some 202) (v := ?_) (a' := ?_) (t35 30) rfl rfl (any_of HT_.out (by kernel_rfl)) (fun _ _ _ h => h) (Or.inl ⟨by rfl, ?_⟩) ?_ ?_
        rotate_left
        · intro w'
          go_simp
          with_reducible rfl
        rotate_left
        · simp only [Act.put, List.setIfInBounds_toArray, List.set_cons_zero, List.set_cons_succ, i64_w, i32_w]
          rfl
        refine pure_ (i := 30) (N := some 203) (v := ?_) (a' := ?_) (t35 31) rfl rfl (any_of HT_.out (by kernel_rfl)) (fun _ _ _ h => h) (Or.inl ⟨by rfl, ?_⟩) ?_ ?_
        rotate_left
        · intro w'
          go_simp
          with_reducible rfl
        rotate_left
        · simp only [Act.put, List.setIfInBounds_toArray, List.set_cons_zero, List.set_cons_succ, i64_w, i32_w]
          rfl
        refine one_ (i := 31) (N := some 204) (t35 32) rfl rfl (one_of HT_.out (by kernel_rfl)) (by decide) (fun K hK => ?_)
        refine goes_ Try.func40 (by kernel_rfl) rfl #[.slice AX ts.length cX, .slice AY ts.length cY] (by rfl) rfl rfl (by first | done | rfl | (simp only [List.map_toArray, List.map_cons, List.map_nil]; rfl)) ?_
        refine (ints_q _ _ _ _ ts _ (Kd.C_below (Kd.R_reads' HX.out).2.2 hHeld) (Kd.R_reads' HX.out).2.1 (Kd.C_below (Kd.R_reads' HY.out).2.2 hHeld) (Kd.R_reads' HY.out).2.1 HTL.out).mono ?_
        rintro e w5 ⟨rfl, hb⟩
        refine ⟨_, rfl, ?_⟩
        refine hK.out _ _ (below_step hHeld hb) (fun hH2 => ?_)
        clear hK K hb hHeld
        have hHeld := hH2
        clear hH2
        refine norm_ (a' := ?_) ?_ ?_
        rotate_left
        · show Act.put _ (some 204) _ = _
          simp only [Act.put, List.setIfInBounds_toArray, List.set_cons_zero, List.set_cons_succ, i64_w, i32_w]
          rfl
        refine pure_ (i := 32) (N := some 205) (v := ?_) (a' := ?_) (t35 33) rfl rfl (any_of HT_.out (by kernel_rfl)) (fun _ _ _ h => h) (Or.inl ⟨by rfl, ?_⟩) ?_ ?_
        rotate_left
        · intro w'
          go_simp
          with_reducible rfl
        rotate_left
        · simp only [Act.put, List.setIfInBounds_toArray, List.set_cons_zero, List.set_cons_succ, i64_w, i32_w]
          rfl
        refine pure_ (i := 33) (N := some 206) (v := ?_) (a' := ?_) (t35 34) rfl rfl (any_of HT_.out (by kernel_rfl)) (fun _ _ _ h => h) (Or.inl ⟨by rfl, ?_⟩) ?_ ?_
        rotate_left
        · intro w'
          go_simp
          with_reducible rfl
        rotate_left
        · simp only [Act.put, List.setIfInBounds_toArray, List.set_cons_zero, List.set_cons_succ, i64_w, i32_w]
          rfl
        refine pure_ (i := 34) (N := some 207) (v := ?_) (a' := ?_) (t35 35) rfl rfl (any_of HT_.out (by kernel_rfl)) (fun _ _ _ h => h) (Or.inl ⟨by rfl, ?_⟩) ?_ ?_
        rotate_left
        · intro w'
          go_simp
          with_reducible rfl
        rotate_left
        · simp only [Act.put, List.setIfInBounds_toArray, List.set_cons_zero, List.set_cons_succ, i64_w, i32_w]
          rfl
        refine take_ (i := 35) (N := some 208) (v := ?_) (a' := ?_) (t35 36) rfl rfl (take_ofW HT_.out HW_.out (by kernel_rfl)) (fun _ _ _ h => h) (Or.inl ⟨by rfl, ?_⟩) hHeld ?_ ?_
        rotate_left
        · intro w' hbq
          have c0 := blk_c (blk_below BK7.out hbq) 0 rfl
          have c1 := blk_c (blk_below BK7.out hbq) 1 rfl
          have c2 := blk_c (blk_below BK7.out hbq) 2 rfl
          go_simp
          with_reducible rfl
        rotate_left
        · simp only [Act.put, List.setIfInBounds_toArray, List.set_cons_zero, List.set_cons_succ, i64_w, i32_w]
          rfl
        refine take_ (i := 36) (N := some 209) (v := ?_) (a' := ?_) (t35 37) rfl rfl (take_ofW HT_.out HW_.out (by kernel_rfl)) (fun _ _ _ h => h) (Or.inl ⟨by rfl, ?_⟩) hHeld ?_ ?_
        rotate_left
        · intro w' hbq
          have c0 := blk_c (blk_below BK8.out hbq) 0 rfl
          have c1 := blk_c (blk_below BK8.out hbq) 1 rfl
          have c2 := blk_c (blk_below BK8.out hbq) 2 rfl
          go_simp
          with_reducible rfl
        rotate_left
        · simp only [Act.put, List.setIfInBounds_toArray, List.set_cons_zero, List.set_cons_succ, i64_w, i32_w]
          rfl
        refine one_ (i := 37) (N := some 210) (t35 38) rfl rfl (one_of HT_.out (by kernel_rfl)) (by decide) (fun K hK => ?_)
        refine goes_ Try.func57 (by kernel_rfl) rfl #[.agg #[.slice AL2 L2.length cL2, .slice AD2 D2.length cD2, .int .i64 g2], .agg #[.slice RL2 L2.length rL2, .slice RD2 D2.length rD2, .int .i64 g2]] (by rfl) rfl rfl (by first | done | rfl | (simp only [List.map_toArray, List.map_cons, List.map_nil]; rfl)) ?_
        refine (line_at _ _ L2 _ _ D2 g2 _ _ _ _ _ (Kd.C_below (Kd.R_reads' HN0.out).2.2 hHeld) (Kd.R_reads' HN0.out).2.1 (Kd.C_below (Kd.R_reads' HN1.out).2.2 hHeld) (Kd.R_reads' HN1.out).2.1 (Kd.C_below (Kd.R_reads' HM0.out).2.2 hHeld) (Kd.R_reads' HM0.out).2.1 (Kd.C_below (Kd.R_reads' HM1.out).2.2 hHeld) (Kd.R_reads' HM1.out).2.1 hL2 hD2).mono ?_
        rintro e w5 ⟨rfl, hb⟩
        refine ⟨_, rfl, ?_⟩
        refine hK.out _ _ (below_step hHeld hb) (fun hH2 => ?_)
        clear hK K hb hHeld
        have hHeld := hH2
        clear hH2
        refine norm_ (a' := ?_) ?_ ?_
        rotate_left
        · show Act.put _ (some 210) _ = _
          simp only [Act.put, List.setIfInBounds_toArray, List.set_cons_zero, List.set_cons_succ, i64_w, i32_w]
          rfl
        refine pure_ (i := 38) (N := some 211) (v := ?_) (a' := ?_) (t35 39) rfl rfl (any_of HT_.out (by kernel_rfl)) (fun _ _ _ h => h) (Or.inl ⟨by rfl, ?_⟩) ?_ ?_
        rotate_left
        · intro w'
          go_simp
          with_reducible rfl
        rotate_left
        · simp only [Act.put, List.setIfInBounds_toArray, List.set_cons_zero, List.set_cons_succ, i64_w, i32_w]
          rfl
        refine pure_ (i := 39) (N := some 212) (v := ?_) (a' := ?_) (t35 40) rfl rfl (any_of HT_.out (by kernel_rfl)) (fun _ _ _ h => h) (Or.inl ⟨by rfl, ?_⟩) ?_ ?_
        rotate_left
        · intro w'
          go_simp
          with_reducible rfl
        rotate_left
        · simp only [Act.put, List.setIfInBounds_toArray, List.set_cons_zero, List.set_cons_succ, i64_w, i32_w]
          rfl
        refine pure_ (i := 40) (N := some 213) (v := ?_) (a' := ?_) (t35 41) rfl rfl (any_of HT_.out (by kernel_rfl)) (fun _ _ _ h => h) (Or.inl ⟨by rfl, ?_⟩) ?_ ?_
        rotate_left
        · intro w'
          go_simp
          with_reducible rfl
        rotate_left
        · simp only [Act.put, List.setIfInBounds_toArray, List.set_cons_zero, List.set_cons_succ, i64_w, i32_w]
          rfl
        refine take_ (i := 41) (N := some 214) (v := ?_) (a' := ?_) (t35 42) rfl rfl (take_ofW HT_.out HW_.out (by kernel_rfl)) (fun _ _ _ h => h) (Or.inl ⟨by rfl, ?_⟩) hHeld ?_ ?_
        rotate_left
        · intro w' hbq
          have c0 := blk_c (blk_below BK7.out hbq) 0 rfl
          have c1 := blk_c (blk_below BK7.out hbq) 1 rfl
          have c2 := blk_c (blk_below BK7.out hbq) 2 rfl
          go_simp
          with_reducible rfl
        rotate_left
        · simp only [Act.put, List.setIfInBounds_toArray, List.set_cons_zero, List.set_cons_succ, i64_w, i32_w]
          rfl
        refine pure_ (i := 42) (N := some 215) (v := ?_) (a' := ?_) (t35 43) rfl rfl (any_of HT_.out (by kernel_rfl)) (fun _ _ _ h => h) (Or.inl ⟨by rfl, ?_⟩) ?_ ?_
        rotate_left
        · intro w'
          go_simp
          with_reducible rfl
        rotate_left
        · simp only [Act.put, List.setIfInBounds_toArray, List.set_cons_zero, List.set_cons_succ, i64_w, i32_w]
          rfl
        refine pure_ (i := 43) (N := some 216) (v := ?_) (a' := ?_) (t35 44) rfl rfl (any_of HT_.out (by kernel_rfl)) (fun _ _ _ h => h) (Or.inl ⟨by rfl, ?_⟩) ?_ ?_
        rotate_left
        · intro w'
          go_simp
          with_reducible rfl
        rotate_left
        · simp only [Act.put, List.setIfInBounds_toArray, List.set_cons_zero, List.set_cons_succ, i64_w, i32_w]
          rfl
        refine take_ (i := 45) (N := some 218) (v := ?_) (a' := ?_) #[true, true, true, true, true, true, true, true, true, true, true, true, true, true, true, true, true, true, true, true, true, true, true, true, true, true, true, true, true, true, true, true, true, true, true, true, true, true, true, true, true, true, true, true, false, true, false, false, false, false, false, false, false, false, false, false, false, false, false, false, false, false, false] rfl rfl (take_ofW HT_.out HW_.out (by kernel_rfl)) (fun _ _ _ h => h) (Or.inl ⟨by rfl, ?_⟩) hHeld ?_ ?_
        rotate_left
        · intro w' hbq
          have c0 := blk_c (blk_below BK8.out hbq) 0 rfl
          have c1 := blk_c (blk_below BK8.out hbq) 1 rfl
          have c2 := blk_c (blk_below BK8.out hbq) 2 rfl
          go_simp
          with_reducible rfl
        rotate_left
        · simp only [Act.put, List.setIfInBounds_toArray, List.set_cons_zero, List.set_cons_succ, i64_w, i32_w]
          rfl
        refine pure_ (i := 46) (N := some 219) (v := ?_) (a' := ?_) #[true, true, true, true, true, true, true, true, true, true, true, true, true, true, true, true, true, true, true, true, true, true, true, true, true, true, true, true, true, true, true, true, true, true, true, true, true, true, true, true, true, true, true, true, false, true, true, false, false, false, false, false, false, false, false, false, false, false, false, false, false, false, false] rfl rfl (any_of HT_.out (by kernel_rfl)) (fun _ _ _ h => h) (Or.inl ⟨by rfl, ?_⟩) ?_ ?_
        rotate_left
        · intro w'
          go_simp
          with_reducible rfl
        rotate_left
        · simp only [Act.put, List.setIfInBounds_toArray, List.set_cons_zero, List.set_cons_succ, i64_w, i32_w]
          rfl
        refine pure_ (i := 47) (N := some 220) (v := ?_) (a' := ?_) #[true, true, true, true, true, true, true, true, true, true, true, true, true, true, true, true, true, true, true, true, true, true, true, true, true, true, true, true, true, true, true, true, true, true, true, true, true, true, true, true, true, true, true, true, false, true, true, true, false, false, false, false, false, false, false, false, false, false, false, false, false, false, false] rfl rfl (any_of HT_.out (by kernel_rfl)) (fun _ _ _ h => h) (Or.inl ⟨by rfl, ?_⟩) ?_ ?_
        rotate_left
        · intro w'
          go_simp
          with_reducible rfl
        rotate_left
        · simp only [Act.put, List.setIfInBounds_toArray, List.set_cons_zero, List.set_cons_succ, i64_w, i32_w]
          rfl
        refine one_ (i := 44) (N := some 217) (t35 48) rfl rfl (one_of HT_.out (by kernel_rfl)) (by decide) (fun K hK => ?_)
        refine goes_ Try.func43 (by kernel_rfl) rfl #[.agg #[.slice AL2 L2.length cL2, .slice AD2 D2.length cD2, .int .i64 g2], .int .i64 a1, .int .u64 a2] (by rfl) rfl rfl (by first | done | rfl | (simp only [List.map_toArray, List.map_cons, List.map_nil]; rfl)) ?_
        refine (pGroup_at _ _ L2 _ _ D2 g2 a1 a2 _ (Kd.C_below (Kd.R_reads' HN0.out).2.2 hHeld) (Kd.R_reads' HN0.out).2.1 (Kd.C_below (Kd.R_reads' HN1.out).2.2 hHeld) (Kd.R_reads' HN1.out).2.1 INV.out.wide hL2).mono ?_
        rintro e w5 ⟨rfl, hb⟩
        refine ⟨_, rfl, ?_⟩
        refine hK.out _ _ (below_step hHeld hb) (fun hH2 => ?_)
        clear hK K hb hHeld
        have hHeld := hH2
        clear hH2
        refine norm_ (a' := ?_) ?_ ?_
        rotate_left
        · show Act.put _ (some 217) _ = _
          simp only [Act.put, List.setIfInBounds_toArray, List.set_cons_zero, List.set_cons_succ, i64_w, i32_w]
          rfl
        refine one_ (i := 48) (N := some 221) (t35 49) rfl rfl (one_of HT_.out (by kernel_rfl)) (by decide) (fun K hK => ?_)
        refine goes_ Try.func58 (by kernel_rfl) rfl #[.agg #[.slice RL2 L2.length rL2, .slice RD2 D2.length rD2, .int .i64 g2], .int .i64 a1, .int .u64 a2] (by rfl) rfl rfl (by first | done | rfl | (simp only [List.map_toArray, List.map_cons, List.map_nil]; rfl)) ?_
        refine (refGroup_at _ _ L2 _ _ D2 g2 a1 a2 _ (Kd.C_below (Kd.R_reads' HM0.out).2.2 hHeld) (Kd.R_reads' HM0.out).2.1 (Kd.C_below (Kd.R_reads' HM1.out).2.2 hHeld) (Kd.R_reads' HM1.out).2.1 INV.out.wide hL2 INV.out.g0).mono ?_
        rintro e w5 ⟨rfl, hb⟩
        refine ⟨_, rfl, ?_⟩
        refine hK.out _ _ (below_step hHeld hb) (fun hH2 => ?_)
        clear hK K hb hHeld
        have hHeld := hH2
        clear hH2
        refine norm_ (a' := ?_) ?_ ?_
        rotate_left
        · show Act.put _ (some 221) _ = _
          simp only [Act.put, List.setIfInBounds_toArray, List.set_cons_zero, List.set_cons_succ, i64_w, i32_w]
          rfl
        refine pure_ (i := 49) (N := some 222) (v := ?_) (a' := ?_) (t35 50) rfl rfl (any_of HT_.out (by kernel_rfl)) (fun _ _ _ h => h) (Or.inl ⟨by rfl, ?_⟩) ?_ ?_
        rotate_left
        · intro w'
          go_simp
          with_reducible rfl
        rotate_left
        · simp only [Act.put, List.setIfInBounds_toArray, List.set_cons_zero, List.set_cons_succ, i64_w, i32_w]
          rfl
        refine pure_ (i := 50) (N := some 223) (v := ?_) (a' := ?_) (t35 51) rfl rfl (any_of HT_.out (by kernel_rfl)) (fun _ _ _ h => h) (Or.inl ⟨by rfl, ?_⟩) ?_ ?_
        rotate_left
        · intro w'
          go_simp
          with_reducible rfl
        rotate_left
        · simp only [Act.put, List.setIfInBounds_toArray, List.set_cons_zero, List.set_cons_succ, i64_w, i32_w]
          rfl
        refine pure_ (i := 51) (N := some 224) (v := ?_) (a' := ?_) (t35 52) rfl rfl (any_of HT_.out (by kernel_rfl)) (fun _ _ _ h => h) (Or.inl ⟨by rfl, ?_⟩) ?_ ?_
        rotate_left
        · intro w'
          go_simp
          with_reducible rfl
        rotate_left
        · simp only [Act.put, List.setIfInBounds_toArray, List.set_cons_zero, List.set_cons_succ, i64_w, i32_w]
          rfl
        refine take_ (i := 52) (N := some 225) (v := ?_) (a' := ?_) (t35 53) rfl rfl (take_ofW HT_.out HW_.out (by kernel_rfl)) (fun _ _ _ h => h) (Or.inl ⟨by rfl, ?_⟩) hHeld ?_ ?_
        rotate_left
        · intro w' hbq
          have c0 := blk_c (blk_below BK15.out hbq) 0 rfl
          have c1 := blk_c (blk_below BK15.out hbq) 1 rfl
          have c2 := blk_c (blk_below BK15.out hbq) 2 rfl
          go_simp
          with_reducible rfl
        rotate_left
        · simp only [Act.put, List.setIfInBounds_toArray, List.set_cons_zero, List.set_cons_succ, i64_w, i32_w]
          rfl
        refine take_ (i := 53) (N := some 226) (v := ?_) (a' := ?_) (t35 54) rfl rfl (take_ofW HT_.out HW_.out (by kernel_rfl)) (fun _ _ _ h => h) (Or.inl ⟨by rfl, ?_⟩) hHeld ?_ ?_
        rotate_left
        · intro w' hbq
          have c0 := blk_c (blk_below BK14.out hbq) 0 rfl
          have c1 := blk_c (blk_below BK14.out hbq) 1 rfl
          have c2 := blk_c (blk_below BK14.out hbq) 2 rfl
          go_simp
          with_reducible rfl
        rotate_left
        · simp only [Act.put, List.setIfInBounds_toArray, List.set_cons_zero, List.set_cons_succ, i64_w, i32_w]
          rfl
        refine one_ (i := 54) (N := some 227) (t35 55) rfl rfl (one_of HT_.out (by kernel_rfl)) (by decide) (fun K hK => ?_)
        refine goes_ Try.func57 (by kernel_rfl) rfl #[.agg #[.slice AL L.length cL, .slice AD D.length cD, .int .i64 g], .agg #[.slice AK L.length cK, .slice AM D.length cM, .int .i64 g]] (by rfl) rfl rfl (by first | done | rfl | (simp only [List.map_toArray, List.map_cons, List.map_nil]; rfl)) ?_
        refine (line_at _ _ L _ _ D g _ _ _ _ _ (Kd.C_below (Kd.R_reads' HO0.out).2.2 hHeld) (Kd.R_reads' HO0.out).2.1 (Kd.C_below (Kd.R_reads' HO1.out).2.2 hHeld) (Kd.R_reads' HO1.out).2.1 (Kd.C_below (Kd.R_reads' HK0.out).2.2 hHeld) (Kd.R_reads' HK0.out).2.1 (Kd.C_below (Kd.R_reads' HK1.out).2.2 hHeld) (Kd.R_reads' HK1.out).2.1 hL hD).mono ?_
        rintro e w5 ⟨rfl, hb⟩
        refine ⟨_, rfl, ?_⟩
        refine hK.out _ _ (below_step hHeld hb) (fun hH2 => ?_)
        clear hK K hb hHeld
        have hHeld := hH2
        clear hH2
        refine norm_ (a' := ?_) ?_ ?_
        rotate_left
        · show Act.put _ (some 227) _ = _
          simp only [Act.put, List.setIfInBounds_toArray, List.set_cons_zero, List.set_cons_succ, i64_w, i32_w]
          rfl
        refine pure_ (i := 55) (N := some 228) (v := ?_) (a' := ?_) (t35 56) rfl rfl (any_of HT_.out (by kernel_rfl)) (fun _ _ _ h => h) (Or.inl ⟨by rfl, ?_⟩) ?_ ?_
        rotate_left
        · intro w'
          go_simp
          with_reducible rfl
        rotate_left
        · simp only [Act.put, List.setIfInBounds_toArray, List.set_cons_zero, List.set_cons_succ, i64_w, i32_w]
          rfl
        refine pure_ (i := 56) (N := some 229) (v := ?_) (a' := ?_) (t35 57) rfl rfl (any_of HT_.out (by kernel_rfl)) (fun _ _ _ h => h) (Or.inl ⟨by rfl, ?_⟩) ?_ ?_
        rotate_left
        · intro w'
          go_simp
          with_reducible rfl
        rotate_left
        · simp only [Act.put, List.setIfInBounds_toArray, List.set_cons_zero, List.set_cons_succ, i64_w, i32_w]
          rfl
        refine pure_ (i := 57) (N := some 230) (v := ?_) (a' := ?_) (t35 58) rfl rfl (any_of HT_.out (by kernel_rfl)) (fun _ _ _ h => h) (Or.inl ⟨by rfl, ?_⟩) ?_ ?_
        rotate_left
        · intro w'
          go_simp
          with_reducible rfl
        rotate_left
        · simp only [Act.put, List.setIfInBounds_toArray, List.set_cons_zero, List.set_cons_succ, i64_w, i32_w]
          rfl
        refine take_ (i := 58) (N := some 231) (v := ?_) (a' := ?_) (t35 59) rfl rfl (take_ofW HT_.out HW_.out (by kernel_rfl)) (fun _ _ _ h => h) (Or.inl ⟨by rfl, ?_⟩) hHeld ?_ ?_
        rotate_left
        · intro w' hbq
          have c0 := blk_c (blk_below BK15.out hbq) 0 rfl
          have c1 := blk_c (blk_below BK15.out hbq) 1 rfl
          have c2 := blk_c (blk_below BK15.out hbq) 2 rfl
          go_simp
          with_reducible rfl
        rotate_left
        · simp only [Act.put, List.setIfInBounds_toArray, List.set_cons_zero, List.set_cons_succ, i64_w, i32_w]
          rfl
        refine take_ (i := 59) (N := some 232) (v := ?_) (a' := ?_) (t35 60) rfl rfl (take_ofW HT_.out HW_.out (by kernel_rfl)) (fun _ _ _ h => h) (Or.inl ⟨by rfl, ?_⟩) hHeld ?_ ?_
        rotate_left
        · intro w' hbq
          have c0 := blk_c (blk_below BK13.out hbq) 0 rfl
          have c1 := blk_c (blk_below BK13.out hbq) 1 rfl
          have c2 := blk_c (blk_below BK13.out hbq) 2 rfl
          go_simp
          with_reducible rfl
        rotate_left
        · simp only [Act.put, List.setIfInBounds_toArray, List.set_cons_zero, List.set_cons_succ, i64_w, i32_w]
          rfl
        refine one_ (i := 60) (N := some 233) (t35 61) rfl rfl (one_of HT_.out (by kernel_rfl)) (by decide) (fun K hK => ?_)
        refine goes_ Try.func57 (by kernel_rfl) rfl #[.agg #[.slice AL L.length cL, .slice AD D.length cD, .int .i64 g], .agg #[.slice RL L.length rL, .slice RD D.length rD, .int .i64 g]] (by rfl) rfl rfl (by first | done | rfl | (simp only [List.map_toArray, List.map_cons, List.map_nil]; rfl)) ?_
        refine (line_at _ _ L _ _ D g _ _ _ _ _ (Kd.C_below (Kd.R_reads' HO0.out).2.2 hHeld) (Kd.R_reads' HO0.out).2.1 (Kd.C_below (Kd.R_reads' HO1.out).2.2 hHeld) (Kd.R_reads' HO1.out).2.1 (Kd.C_below (Kd.R_reads' HP0.out).2.2 hHeld) (Kd.R_reads' HP0.out).2.1 (Kd.C_below (Kd.R_reads' HP1.out).2.2 hHeld) (Kd.R_reads' HP1.out).2.1 hL hD).mono ?_
        rintro e w5 ⟨rfl, hb⟩
        refine ⟨_, rfl, ?_⟩
        refine hK.out _ _ (below_step hHeld hb) (fun hH2 => ?_)
        clear hK K hb hHeld
        have hHeld := hH2
        clear hH2
        refine norm_ (a' := ?_) ?_ ?_
        rotate_left
        · show Act.put _ (some 233) _ = _
          simp only [Act.put, List.setIfInBounds_toArray, List.set_cons_zero, List.set_cons_succ, i64_w, i32_w]
          rfl
        refine pure_ (i := 61) (N := some 234) (v := ?_) (a' := ?_) (t35 62) rfl rfl (any_of HT_.out (by kernel_rfl)) (fun _ _ _ h => h) (Or.inl ⟨by rfl, ?_⟩) ?_ ?_
        rotate_left
        · intro w'
          go_simp
          with_reducible rfl
        rotate_left
        · simp only [Act.put, List.setIfInBounds_toArray, List.set_cons_zero, List.set_cons_succ, i64_w, i32_w]
          rfl
        refine pure_ (i := 62) (N := some 235) (v := ?_) (a' := ?_) (t35 63) rfl rfl (any_of HT_.out (by kernel_rfl)) (fun _ _ _ h => h) (Or.inl ⟨by rfl, ?_⟩) ?_ ?_
        rotate_left
        · intro w'
          go_simp
          with_reducible rfl
        rotate_left
        · simp only [Act.put, List.setIfInBounds_toArray, List.set_cons_zero, List.set_cons_succ, i64_w, i32_w]
          rfl
        refine done_ (done_of HT_.out (by kernel_rfl)) ?_
        replace BK7 := Aside0.mk (blk_below BK7.out hHeld)
        replace BK8 := Aside0.mk (blk_below BK8.out hHeld)
        replace HN0 := Aside0.mk (Kd.R_below HN0.out hHeld)
        replace HN1 := Aside0.mk (Kd.R_below HN1.out hHeld)
        replace HM0 := Aside0.mk (Kd.R_below HM0.out hHeld)
        replace HM1 := Aside0.mk (Kd.R_below HM1.out hHeld)
        replace HB := Aside0.mk (below_step HB.out hHeld)
        clear hHeld
        go_wp2
        go_roundw
        case rel => exact ⟨i + 1, L2, D2, g2, last2, AL2, cL2, AD2, cD2, RL2, rL2, RD2, rD2, by omega, by go_num, rfl, rfl, INV, BK7, BK8, HN0, HN1, HM0, HM1, HB⟩
        case measure => simp [intOf]; omega
    · obtain rfl : i = l2.length := by omega
      go_wp2_with (first
        | (go_at_call 41; (with_reducible refine (ratlinelaw21_awake.calls true _ rfl).mono ?_); rintro e w20 ⟨rfl, hbb⟩; have n0 := Aside0.mk (below_step HB.out hbb); clear HB; have HB := n0; clear n0 hbb))
      go_ret
      exact ⟨rfl, HB.out⟩
end Go.Proofs.Ythlahhkjoocigaa.XQueue
