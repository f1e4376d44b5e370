/- QueueOrder's own function, walked by hand: whatever ops, it answers true. Conditions: the ops lie in memory as they are, each within its types' bounds. -/
import Derived.Test.YthlahhkjoocigaaHQueueAt
import Derived.Test.YthlahhkjoocigaaHOrder
import Derived.Test.YthlahhkjoocigaaHIntMap
namespace Go.Proofs.Ythlahhkjoocigaa.XQueue
open Go Go.RowKit Go.Proofs.YthlahhkjoocigaaW.PrintWords Go.Proofs.YthlahhkjoocigaaW.PrintLast Go.Proofs.YthlahhkjoocigaaW.PrintMore
attribute [local go_sem] max2_int min2_int max_two min_two max_three min_three max_four min_four
set_option linter.unusedVariables false
set_option linter.unusedSimpArgs false
theorem blk_rowG {α : Type} {d : Kd α} {e : Nat} {W : World} {base g t : Nat} {ok : Nat → Prop} {cs : Array Value} {v : Value} {xs : List α} (hb : W.heap[g]? = some (.cells cs t (0, 0))) (h : d.R e W base ok v xs) (ht : t ≠ e) : some g ≠ v.ownBlock := fun q => by
  obtain ⟨c, hc⟩ := Kd.R_typed h g q.symm
  exact blk_ne hb hc ht rfl
theorem ints_q (A0 : Option Addr) (c0 : Nat) (A1 : Option Addr) (c1 : Nat) (D : List Int) (w : World) (hr0 : Kd.C (Kd.int .i64) w A0 D.length D) (hc0 : D.length ≤ c0) (hr1 : Kd.C (Kd.int .i64) w A1 D.length D) (hc1 : D.length ≤ c1) (hl : D.length ≤ 1000) :
    Calls Try.prog 40 #[.slice A0 D.length c0, .slice A1 D.length c1] w fun e w' => e = .returned (.bool true) ∧ Below w.heap.size w w' := by
  have hev : Ev (fun k => ratlinelow_Ints.f k D D) true := by
    unfold ratlinelow_Ints.f
    simp only [if_true]
    have key : ∀ (q i : Nat), D.length - i = q → i ≤ D.length → Ev (fun k => ratlinelow_Ints.l0 k D D (D.length : Int) (i : Int)) true := by
      intro q
      induction q with
      | zero =>
        intro i hq hi
        refine Ev.step (fun k => ?_) (Ev.now _)
        rw [ratlinelow_Ints.l0, if_neg (by omega)]
      | succ q ih =>
        intro i hq hi
        refine Ev.step (f := fun k => ratlinelow_Ints.l0 k D D (D.length : Int) ((i + 1 : Nat) : Int)) (fun k => ?_) (ih (i + 1) (by omega) (by omega))
        rw [ratlinelow_Ints.l0, if_pos (by omega), if_pos (by omega), if_pos (by omega), if_pos (by omega), if_pos rfl, w64 (by omega) (by omega)]
        rfl
    exact key D.length 0 rfl (Nat.zero_le _)
  obtain ⟨k, hk⟩ := hev
  exact (ratlinelow_Ints.calls k A0 c0 D A1 c1 D true w hr0 hc0 hr1 hc1 (hk k (Nat.le_refl _))).mono (fun e w' h => ⟨h.1, by first | exact h.2 | exact h.2.below⟩)
theorem inf3 : (Try.prog.info? 3).map (fun i => i.size) = some 1 := by kernel_rfl
theorem zero3 (W : World) : (zeroValue 3).run Try.prog W = .ok (.int .i64 0) W := by kernel_rfl
def im66 : HIntMap.IM Try.prog 66 .i64 .i64 := ⟨3, 3, Try.underlying66, Try.underlying3, Try.underlying3, zero3⟩
theorem owns_block {w w' : World} {b n : Nat} {f : Int → Option Int} (h : HIntMap.Owns im66 w b n f) (hb : w'.heap[b]? = w.heap[b]?) : HIntMap.Owns im66 w' b n f := by
  obtain ⟨D, ⟨es, clock, h1, h2, h3, h4⟩, h5⟩ := h
  exact ⟨D, ⟨es, clock, hb.trans h1, h2, h3, h4⟩, h5⟩
theorem owns_below {w w' : World} {b n : Nat} {f : Int → Option Int} (h : HIntMap.Owns im66 w b n f) (hb : Below w.heap.size w w') : HIntMap.Owns im66 w' b n f := owns_block h (hb.block b (HIntMap.owns_lt h))
theorem wf_in {x : Int} (h0 : -9223372036854775808 ≤ x) (h1 : x ≤ 9223372036854775807) : (Lit.int .i64 x).wf = true := by
  have := wrap64_wf x
  rwa [w64 h0 h1] at this
theorem ne_fresh {α : Type} {d : Kd α} {e : Nat} {W : World} {base k : Nat} {ok : Nat → Prop} {v : Value} {xs : List α} (h : d.R e W base ok v xs) (hk : W.heap.size ≤ k) : some k ≠ v.ownBlock := fun q => by
  have := Kd.R_lt h k q.symm
  omega
/-- A row that is new, or in the place of one that was apart, is apart. -/
theorem ne_hat {k : Nat} {W : World} {v v1 : Value} (h : some k ≠ v.ownBlock) (hk : k < W.heap.size) (hat : v1.ownBlock = v.ownBlock ∨ ∃ b, v1.ownBlock = some b ∧ W.heap.size ≤ b) : some k ≠ v1.ownBlock := by
  rcases hat with e | ⟨b, e, hb⟩
  · rw [e]; exact h
  · rw [e]; intro q; have := Option.some.inj q; omega
theorem ne_new {k : Nat} {W : World} {v1 : Value} (hk : k < W.heap.size) (hat : ∃ b, v1.ownBlock = some b ∧ W.heap.size ≤ b) : some k ≠ v1.ownBlock := by
  obtain ⟨b, e, hb⟩ := hat
  rw [e]; intro q; have := Option.some.inj q; omega
theorem apart_hat {α : Type} {d : Kd α} {e : Nat} {W : World} {base : Nat} {ok : Nat → Prop} {v v1 u : Value} {xs : List α} (h : ∀ k, v.ownBlock = some k → some k ≠ u.ownBlock) (hu : d.R e W base ok u xs) (hat : v1.ownBlock = v.ownBlock ∨ ∃ b, v1.ownBlock = some b ∧ W.heap.size ≤ b) : ∀ k, v1.ownBlock = some k → some k ≠ u.ownBlock := by
  intro k hk
  rcases hat with q | ⟨b, q, hb⟩
  · exact h k (q ▸ hk)
  · rw [q] at hk
    have := Option.some.inj hk
    exact ne_fresh hu (by omega)
theorem apart_new {α : Type} {d : Kd α} {e : Nat} {W : World} {base : Nat} {ok : Nat → Prop} {v1 u : Value} {xs : List α} (hu : d.R e W base ok u xs) (hat : ∃ b, v1.ownBlock = some b ∧ W.heap.size ≤ b) : ∀ k, v1.ownBlock = some k → some k ≠ u.ownBlock := apart_hat (v := .slice none 0 0) (fun k hk => by cases hk) hu (.inr hat)
def order35.T : Bool × List (List Nat × List Nat) := (true, [([], []), ([], []), ([1], [1]), ([0, 2], [0, 2]), ([], []), ([4], [4]), ([3, 5, 3], [3, 5]), ([6], [6]), ([], [])])
def order35.B : List Nat := [0, 0, 2, 7, 0, 16, 63, 127, 0]
theorem order35.tab : rtab .any (opsOf Try.f9 35) = order35.T := by kernel_rfl
theorem order35.bits : waitsOk order35.T.2 order35.B = true := by kernel_rfl
theorem ap_hat2 {W : World} {v v1 v2 : Value} {base : Nat} {ok : Nat → Prop} {xs : List Int} (h : v2.ownBlock = none ∨ v2.ownBlock ≠ v.ownBlock) (hat : v1.ownBlock = v.ownBlock ∨ ∃ b, v1.ownBlock = some b ∧ W.heap.size ≤ b) (h2 : Kd.R (Kd.int .i64) 3 W base ok v2 xs) : v2.ownBlock = none ∨ v2.ownBlock ≠ v1.ownBlock := by
  rcases hat with e | ⟨b, e, hb⟩
  · rw [e]; exact h
  · refine .inr (fun e2 => ?_)
    have := Kd.R_lt h2 b (e2.trans e)
    omega
theorem ap_hat1 {W : World} {v v1 v2 : Value} {base : Nat} {ok : Nat → Prop} {xs : List Int} (h : v.ownBlock = none ∨ v.ownBlock ≠ v2.ownBlock) (hat : v1.ownBlock = v.ownBlock ∨ ∃ b, v1.ownBlock = some b ∧ W.heap.size ≤ b) (h2 : Kd.R (Kd.int .i64) 3 W base ok v2 xs) : v1.ownBlock = none ∨ v1.ownBlock ≠ v2.ownBlock := by
  rcases hat with e | ⟨b, e, hb⟩
  · rw [e]; exact h
  · refine .inr (fun e2 => ?_)
    have := Kd.R_lt h2 b (e2.symm.trans e)
    omega

set_option maxHeartbeats 32000000 in
set_option maxRecDepth 100000 in
theorem order_walk (A0 : Option Addr) (c0 : Nat) (l0 : List S61) (a1 a2 : Int) (w : World) (hr0 : Kd.C k61 w A0 l0.length l0) (hc0 : l0.length ≤ c0) (hl0 : l0.length ≤ 9223372036854775807) (hu : ∀ x ∈ l0, OpOk x) (h10 : 0 ≤ a1) (h11 : a1 ≤ 65535) (h20 : 0 ≤ a2) (h21 : a2 ≤ 65535) :
    Calls Try.prog 9 #[.slice A0 l0.length c0, .int .u16 a1, .int .u16 a2] w fun e w' => e = .returned (.bool true) ∧ Below w.heap.size w w' := by
  obtain ⟨M, hM⟩ : ∃ M : Nat, (if (80 : Int) < (l0.length : Int) then (80 : Int) else (l0.length : Int)) = (M : Int) := ⟨_, (Int.toNat_of_nonneg (by split <;> omega)).symm⟩
  have hM1 : M ≤ l0.length := by split at hM <;> omega
  have hM80 : M ≤ 80 := by split at hM <;> omega
  obtain ⟨i61, hi61, hs61⟩ := Option.map_eq_some_iff.1 inf61
  have hcut := cut_to (P := Try.prog) 55 61 .i64 Try.underlying55 hi61 A0 l0.length c0 (M : Int) (by omega) (by omega) hc0
  rw [Int.toNat_natCast] at hcut
  have hr2 := Kd.C_take hr0 hM1
  have hu2 : ∀ x ∈ l0.take M, OpOk x := fun x hx => hu x (List.mem_of_mem_take hx)
  have hl2 : (l0.take M).length = M := by rw [List.length_take]; omega
  generalize l0.take M = l2 at hr2 hu2 hl2
  rw [← hl2] at hM hM1 hM80 hcut
  clear hl2 hi61 hs61
  have HR1 := Aside0.mk hr2
  have HU := Aside0.mk hu2
  have HB := Aside0.mk (Below.refl w.heap.size w)
  clear hr0 hc0 hu hr2 hu2
  go_enter Try.func9, Try.ntmps9
  go_wp2_with (first | ((with_reducible refine gate_dst (N := 9) rfl ?_); refine box_event ?hg (N := 9) ?hd (cs := #[.slice none 0 0, .slice none 0 0, .int .i64 0]) (t := 58) ?hr ?_; (case hd => rfl); (case hg => rfl); (case hr => first | (go_simp; done) | (go_simp; rfl)); intro gb9 hg w3 hbox hb; have GE_gb9 := Aside0.mk (show w.heap.size ≤ gb9 from by rw [hg]; exact below_size (by repeat (first | (with_reducible first | exact HB.out | apply below_alloc | apply pw_below_drewN | apply below_drew1) | exact HB.out))); clear hg; have n_HB := Aside0.mk (below_step (by repeat (first | (with_reducible first | exact HB.out | apply below_alloc | apply pw_below_drewN | apply below_drew1) | exact HB.out)) hb); skip; clear HB hb; have HB := n_HB; clear n_HB; have BK9 := Aside0.mk hbox; clear hbox; have bk9_0 := (blk_cell BK9.out 0).trans (show _ = some (.slice none 0 0) from rfl); have bk9_1 := (blk_cell BK9.out 1).trans (show _ = some (.slice none 0 0) from rfl); have bk9_2 := (blk_cell BK9.out 2).trans (show _ = some (.int .i64 0) from rfl); have bk9_f := fun i => blk_frozen BK9.out i))
  clear hM hcut hM1
  clear bk9_0 bk9_1 bk9_2 bk9_f
  have hm0 : 8 ≤ 8 + a1 % 25 := by omega
  have hm1 : 8 + a1 % 25 ≤ 32 := by omega
  have hu0 : 50 ≤ 50 + a2 % 451 := by omega
  have hu1 : 50 + a2 % 451 ≤ 500 := by omega
  generalize 8 + a1 % 25 = m0 at hm0 hm1 ⊢
  generalize 50 + a2 % 451 = u0 at hu0 hu1 ⊢
  go_loopw [10, 11, 12, 40] (fun v10 v11 v12 v40 wr => ∃ (i : Nat) (L D : List S65) (g last : Int) (jn dn : List Int) (AL : Option Addr) (cL : Nat) (AD : Option Addr) (cD : Nat) (AJ : Option Addr) (cJ : Nat) (AN : Option Addr) (cN : Nat), i ≤ l2.length ∧ v40 = .int .i64 i ∧ v10 = .int .u64 last ∧ v11 = .slice AJ jn.length cJ ∧ v12 = .slice AN dn.length cN ∧ Aside0 (Inv i L D g) ∧ Aside0 (Ord i L g last jn dn) ∧ Aside0 (wr.heap[gb9]? = some (.cells #[.slice AL L.length cL, .slice AD D.length cD, .int .i64 g] 58 (0, 0))) ∧ Aside0 (Kd.R k65 65 wr w.heap.size (fun _ => True) (.slice AL L.length cL) L) ∧ Aside0 (Kd.R k65 65 wr w.heap.size (fun _ => True) (.slice AD D.length cD) D) ∧ Aside0 (Kd.R (Kd.int .i64) 3 wr w.heap.size (fun _ => True) (.slice AJ jn.length cJ) jn) ∧ Aside0 (Kd.R (Kd.int .i64) 3 wr w.heap.size (fun _ => True) (.slice AN dn.length cN) dn) ∧ Aside0 ((.slice AJ jn.length cJ : Value).ownBlock = none ∨ (.slice AJ jn.length cJ : Value).ownBlock ≠ (.slice AN dn.length cN : Value).ownBlock) ∧ Aside0 (Below w.heap.size w wr)) (fun v10 v11 v12 v40 _ => l2.length - (intOf v40).toNat)
  case atStart => exact ⟨0, [], [], 0, 0, [], [], none, 0, none, 0, none, 0, none, 0, Nat.zero_le _, rfl, rfl, rfl, rfl, ⟨inv0⟩, ⟨ord0⟩, ⟨BK9.out⟩, ⟨Kd.R_nil _ _ _ _ _⟩, ⟨Kd.R_nil _ _ _ _ _⟩, ⟨Kd.R_nil _ _ _ _ _⟩, ⟨Kd.R_nil _ _ _ _ _⟩, ⟨.inl rfl⟩, HB⟩
  case round =>
    clear BK9 HB
    obtain ⟨i, L, D, g, last, jn, dn, AL, cL, AD, cD, AJ, cJ, AN, cN, hi, rfl, rfl, rfl, rfl, HI, HOR, BK9, HO0, HO1, HJ, HN, HAP, HB⟩ := hrel
    rename World => wo
    have hwb : w.heap.size ≤ wo.heap.size := below_size HB.out
    by_cases hlt : i < l2.length
    · obtain ⟨ad, e0, hx0, hx1, hx2, hx3, hx4, hx5⟩ := at_T61 HR1.out (i : Int) (by omega) (by omega)
      subst e0
      replace hx0 := (HB.out.cell (World.block_lt_of_cell? w _ hx0)).trans hx0
      replace hx1 := (HB.out.cell (World.block_lt_of_cell? w _ hx1)).trans hx1
      replace hx2 := (HB.out.cell (World.block_lt_of_cell? w _ hx2)).trans hx2
      replace hx3 := (HB.out.cell (World.block_lt_of_cell? w _ hx3)).trans hx3
      replace hx4 := (HB.out.cell (World.block_lt_of_cell? w _ hx4)).trans hx4
      replace hx5 := (HB.out.cell (World.block_lt_of_cell? w _ hx5)).trans hx5
      have hot : rd_T61 l2 (i : Int) ∈ l2 := by rw [show rd_T61 l2 (i : Int) = l2.getD i z61 by simp [rd_T61], List.getD_eq_getElem?_getD, List.getElem?_eq_getElem hlt]; exact List.getElem_mem _
      have HK := Aside0.mk (HU.out _ hot)
      simp only [Int.toNat_natCast] at hx0 hx1 hx2 hx3 hx4 hx5
      generalize rd_T61 l2 (i : Int) = o at hx0 hx1 hx2 hx3 hx4 hx5 HK
      clear hot
      have bk9_0 := (blk_cell BK9.out 0).trans (show _ = some (.slice AL L.length cL) from rfl); have bk9_1 := (blk_cell BK9.out 1).trans (show _ = some (.slice AD D.length cD) from rfl); have bk9_2 := (blk_cell BK9.out 2).trans (show _ = some (.int .i64 g) from rfl); have bk9_f := fun i => blk_frozen BK9.out i
      go_upto_region 8 with (first | ((with_reducible refine gate_dst (N := 14) rfl ?_); refine box_event ?hg (N := 14) ?hd (cs := #[.int .u8 0, .int .i64 0, .int .i64 0, .int .i64 0, .int .u64 0, .int .i64 0]) (t := 61) ?hr ?_; (case hd => rfl); (case hg => rfl); (case hr => first | (go_simp; done) | (go_simp; rfl)); intro gb14 hg w3 hbox hb; have NE_gb9_gb14 := Aside0.mk (show gb9 ≠ gb14 from by rw [hg]; exact Nat.ne_of_lt (blk_lt (o := .cells #[.slice AL L.length cL, .slice AD D.length cD, .int .i64 g] 58 (0, 0)) (by (with_reducible repeat (first | refine blk_drewN ?_ _ | refine blk_drew ?_ | refine blk_alloc ?_ _)); exact BK9.out))); have GE_gb14 := Aside0.mk (show w.heap.size ≤ gb14 from by rw [hg]; exact below_size (by repeat (first | (with_reducible first | exact HB.out | apply below_alloc | apply pw_below_drewN | apply below_drew1) | exact HB.out))); clear hg; have n_BK9 := Aside0.mk (blk_below (g := gb9) (o := .cells #[.slice AL L.length cL, .slice AD D.length cD, .int .i64 g] 58 (0, 0)) (by (with_reducible repeat (first | refine blk_drewN ?_ _ | refine blk_drew ?_ | refine blk_alloc ?_ _)); exact BK9.out) hb); have n_HO0 := Aside0.mk (Kd.R_below (by (with_reducible repeat (first | apply Kd.R_alloc | apply Kd.R_drewN | apply Kd.R_drew)); exact HO0.out) hb); have n_HO1 := Aside0.mk (Kd.R_below (by (with_reducible repeat (first | apply Kd.R_alloc | apply Kd.R_drewN | apply Kd.R_drew)); exact HO1.out) hb); have n_HJ := Aside0.mk (Kd.R_below (by (with_reducible repeat (first | apply Kd.R_alloc | apply Kd.R_drewN | apply Kd.R_drew)); exact HJ.out) hb); have n_HN := Aside0.mk (Kd.R_below (by (with_reducible repeat (first | apply Kd.R_alloc | apply Kd.R_drewN | apply Kd.R_drew)); exact HN.out) hb); have n_HB := Aside0.mk (below_step (by repeat (first | (with_reducible first | exact HB.out | apply below_alloc | apply pw_below_drewN | apply below_drew1) | exact HB.out)) hb); clear bk9_0 bk9_1 bk9_2 bk9_f; clear BK9 HO0 HO1 HJ HN HB hb; have BK9 := n_BK9; have HO0 := n_HO0; have HO1 := n_HO1; have HJ := n_HJ; have HN := n_HN; have HB := n_HB; clear n_BK9 n_HO0 n_HO1 n_HJ n_HN n_HB; have BK14 := Aside0.mk hbox; clear hbox; have bk9_0 := (blk_cell BK9.out 0).trans (show _ = some (.slice AL L.length cL) from rfl); have bk9_1 := (blk_cell BK9.out 1).trans (show _ = some (.slice AD D.length cD) from rfl); have bk9_2 := (blk_cell BK9.out 2).trans (show _ = some (.int .i64 g) from rfl); have bk14_0 := (blk_cell BK14.out 0).trans (show _ = some (.int .u8 0) from rfl); have bk14_1 := (blk_cell BK14.out 1).trans (show _ = some (.int .i64 0) from rfl); have bk14_2 := (blk_cell BK14.out 2).trans (show _ = some (.int .i64 0) from rfl); have bk14_3 := (blk_cell BK14.out 3).trans (show _ = some (.int .i64 0) from rfl); have bk14_4 := (blk_cell BK14.out 4).trans (show _ = some (.int .u64 0) from rfl); have bk14_5 := (blk_cell BK14.out 5).trans (show _ = some (.int .i64 0) from rfl); have bk9_f := fun i => blk_frozen BK9.out i; have bk14_f := fun i => blk_frozen BK14.out i))
      clear hx0 hx1 hx2 hx3 hx4 hx5
      clear bk9_0 bk9_1 bk9_2 bk9_f bk14_0 bk14_1 bk14_2 bk14_3 bk14_4 bk14_5 bk14_f
      have s0_HO0 := Kd.R_set HO0.out BK14.out (by decide) 0 (.int .u8 o.f0)
      have s0_HO1 := Kd.R_set HO1.out BK14.out (by decide) 0 (.int .u8 o.f0)
      have s0_HJ := Kd.R_set HJ.out BK14.out (by decide) 0 (.int .u8 o.f0)
      have s0_HN := Kd.R_set HN.out BK14.out (by decide) 0 (.int .u8 o.f0)
      have s0_BK9 := blk_far BK9.out (p := ⟨gb14, 0, none⟩) NE_gb9_gb14.out (.int .u8 o.f0)
      have s0_BK14 := blk_put (cs' := #[.int .u8 o.f0, .int .i64 0, .int .i64 0, .int .i64 0, .int .u64 0, .int .i64 0]) BK14.out 0 (.int .u8 o.f0) rfl
      have s0_HB := below_set (j := 0) (v := .int .u8 o.f0) HB.out GE_gb14.out
      have s1_HO0 := Kd.R_set s0_HO0 s0_BK14 (by decide) 1 (.int .i64 o.f1)
      have s1_HO1 := Kd.R_set s0_HO1 s0_BK14 (by decide) 1 (.int .i64 o.f1)
      have s1_HJ := Kd.R_set s0_HJ s0_BK14 (by decide) 1 (.int .i64 o.f1)
      have s1_HN := Kd.R_set s0_HN s0_BK14 (by decide) 1 (.int .i64 o.f1)
      have s1_BK9 := blk_far s0_BK9 (p := ⟨gb14, 1, none⟩) NE_gb9_gb14.out (.int .i64 o.f1)
      have s1_BK14 := blk_put (cs' := #[.int .u8 o.f0, .int .i64 o.f1, .int .i64 0, .int .i64 0, .int .u64 0, .int .i64 0]) s0_BK14 1 (.int .i64 o.f1) rfl
      have s1_HB := below_set (j := 1) (v := .int .i64 o.f1) s0_HB GE_gb14.out
      have s2_HO0 := Kd.R_set s1_HO0 s1_BK14 (by decide) 2 (.int .i64 o.f2)
      have s2_HO1 := Kd.R_set s1_HO1 s1_BK14 (by decide) 2 (.int .i64 o.f2)
      have s2_HJ := Kd.R_set s1_HJ s1_BK14 (by decide) 2 (.int .i64 o.f2)
      have s2_HN := Kd.R_set s1_HN s1_BK14 (by decide) 2 (.int .i64 o.f2)
      have s2_BK9 := blk_far s1_BK9 (p := ⟨gb14, 2, none⟩) NE_gb9_gb14.out (.int .i64 o.f2)
      have s2_BK14 := blk_put (cs' := #[.int .u8 o.f0, .int .i64 o.f1, .int .i64 o.f2, .int .i64 0, .int .u64 0, .int .i64 0]) s1_BK14 2 (.int .i64 o.f2) rfl
      have s2_HB := below_set (j := 2) (v := .int .i64 o.f2) s1_HB GE_gb14.out
      have s3_HO0 := Kd.R_set s2_HO0 s2_BK14 (by decide) 3 (.int .i64 o.f3)
      have s3_HO1 := Kd.R_set s2_HO1 s2_BK14 (by decide) 3 (.int .i64 o.f3)
      have s3_HJ := Kd.R_set s2_HJ s2_BK14 (by decide) 3 (.int .i64 o.f3)
      have s3_HN := Kd.R_set s2_HN s2_BK14 (by decide) 3 (.int .i64 o.f3)
      have s3_BK9 := blk_far s2_BK9 (p := ⟨gb14, 3, none⟩) NE_gb9_gb14.out (.int .i64 o.f3)
      have s3_BK14 := blk_put (cs' := #[.int .u8 o.f0, .int .i64 o.f1, .int .i64 o.f2, .int .i64 o.f3, .int .u64 0, .int .i64 0]) s2_BK14 3 (.int .i64 o.f3) rfl
      have s3_HB := below_set (j := 3) (v := .int .i64 o.f3) s2_HB GE_gb14.out
      have s4_HO0 := Kd.R_set s3_HO0 s3_BK14 (by decide) 4 (.int .u64 o.f4)
      have s4_HO1 := Kd.R_set s3_HO1 s3_BK14 (by decide) 4 (.int .u64 o.f4)
      have s4_HJ := Kd.R_set s3_HJ s3_BK14 (by decide) 4 (.int .u64 o.f4)
      have s4_HN := Kd.R_set s3_HN s3_BK14 (by decide) 4 (.int .u64 o.f4)
      have s4_BK9 := blk_far s3_BK9 (p := ⟨gb14, 4, none⟩) NE_gb9_gb14.out (.int .u64 o.f4)
      have s4_BK14 := blk_put (cs' := #[.int .u8 o.f0, .int .i64 o.f1, .int .i64 o.f2, .int .i64 o.f3, .int .u64 o.f4, .int .i64 0]) s3_BK14 4 (.int .u64 o.f4) rfl
      have s4_HB := below_set (j := 4) (v := .int .u64 o.f4) s3_HB GE_gb14.out
      have s5_HO0 := Kd.R_set s4_HO0 s4_BK14 (by decide) 5 (.int .i64 o.f5)
      have s5_HO1 := Kd.R_set s4_HO1 s4_BK14 (by decide) 5 (.int .i64 o.f5)
      have s5_HJ := Kd.R_set s4_HJ s4_BK14 (by decide) 5 (.int .i64 o.f5)
      have s5_HN := Kd.R_set s4_HN s4_BK14 (by decide) 5 (.int .i64 o.f5)
      have s5_BK9 := blk_far s4_BK9 (p := ⟨gb14, 5, none⟩) NE_gb9_gb14.out (.int .i64 o.f5)
      have s5_BK14 := blk_put (cs' := #[.int .u8 o.f0, .int .i64 o.f1, .int .i64 o.f2, .int .i64 o.f3, .int .u64 o.f4, .int .i64 o.f5]) s4_BK14 5 (.int .i64 o.f5) rfl
      have s5_HB := below_set (j := 5) (v := .int .i64 o.f5) s4_HB GE_gb14.out
      have n_BK9 := Aside0.mk s5_BK9
      have n_BK14 := Aside0.mk s5_BK14
      have n_HO0 := Aside0.mk s5_HO0
      have n_HO1 := Aside0.mk s5_HO1
      have n_HJ := Aside0.mk s5_HJ
      have n_HN := Aside0.mk s5_HN
      have n_HB := Aside0.mk s5_HB
      clear s0_BK9 s0_BK14 s0_HO0 s0_HO1 s0_HJ s0_HN s0_HB
      clear s1_BK9 s1_BK14 s1_HO0 s1_HO1 s1_HJ s1_HN s1_HB
      clear s2_BK9 s2_BK14 s2_HO0 s2_HO1 s2_HJ s2_HN s2_HB
      clear s3_BK9 s3_BK14 s3_HO0 s3_HO1 s3_HJ s3_HN s3_HB
      clear s4_BK9 s4_BK14 s4_HO0 s4_HO1 s4_HJ s4_HN s4_HB
      clear s5_BK9 s5_BK14 s5_HO0 s5_HO1 s5_HJ s5_HN s5_HB
      clear BK9 BK14 HO0 HO1 HJ HN HB
      generalize ((((((w3.setCell ⟨gb14, 0, none⟩ (.int .u8 o.f0)).setCell ⟨gb14, 1, none⟩ (.int .i64 o.f1)).setCell ⟨gb14, 2, none⟩ (.int .i64 o.f2)).setCell ⟨gb14, 3, none⟩ (.int .i64 o.f3)).setCell ⟨gb14, 4, none⟩ (.int .u64 o.f4)).setCell ⟨gb14, 5, none⟩ (.int .i64 o.f5)) = w4 at n_BK9 n_BK14 n_HO0 n_HO1 n_HJ n_HN n_HB ⊢
      have BK9 := n_BK9
      have BK14 := n_BK14
      have HO0 := n_HO0
      have HO1 := n_HO1
      have HJ := n_HJ
      have HN := n_HN
      have HB := n_HB
      clear n_BK9 n_BK14 n_HO0 n_HO1 n_HJ n_HN n_HB
      have bk9_0 := (blk_cell BK9.out 0).trans (show _ = some (.slice AL L.length cL) from rfl); have bk9_1 := (blk_cell BK9.out 1).trans (show _ = some (.slice AD D.length cD) from rfl); have bk9_2 := (blk_cell BK9.out 2).trans (show _ = some (.int .i64 g) from rfl); have bk14_0 := (blk_cell BK14.out 0).trans (show _ = some (.int .u8 o.f0) from rfl); have bk14_1 := (blk_cell BK14.out 1).trans (show _ = some (.int .i64 o.f1) from rfl); have bk14_2 := (blk_cell BK14.out 2).trans (show _ = some (.int .i64 o.f2) from rfl); have bk14_3 := (blk_cell BK14.out 3).trans (show _ = some (.int .i64 o.f3) from rfl); have bk14_4 := (blk_cell BK14.out 4).trans (show _ = some (.int .u64 o.f4) from rfl); have bk14_5 := (blk_cell BK14.out 5).trans (show _ = some (.int .i64 o.f5) from rfl); have bk9_f := fun i => blk_frozen BK9.out i; have bk14_f := fun i => blk_frozen BK14.out i
      go_upto_region 9 with (first | ((with_reducible refine gate_dst (N := 15) rfl ?_); refine box_event ?hg (N := 15) ?hd (cs := #[.slice none 0 0, .slice none 0 0, .int .i64 0]) (t := 58) ?hr ?_; (case hd => rfl); (case hg => rfl); (case hr => first | (go_simp; done) | (go_simp; rfl)); intro gb15 hg w3 hbox hb; have NE_gb9_gb15 := Aside0.mk (show gb9 ≠ gb15 from by rw [hg]; exact Nat.ne_of_lt (blk_lt (o := .cells #[.slice AL L.length cL, .slice AD D.length cD, .int .i64 g] 58 (0, 0)) (by (with_reducible repeat (first | refine blk_drewN ?_ _ | refine blk_drew ?_ | refine blk_alloc ?_ _)); exact BK9.out))); have NE_gb14_gb15 := Aside0.mk (show gb14 ≠ gb15 from by rw [hg]; exact Nat.ne_of_lt (blk_lt (o := .cells #[.int .u8 o.f0, .int .i64 o.f1, .int .i64 o.f2, .int .i64 o.f3, .int .u64 o.f4, .int .i64 o.f5] 61 (0, 0)) (by (with_reducible repeat (first | refine blk_drewN ?_ _ | refine blk_drew ?_ | refine blk_alloc ?_ _)); exact BK14.out))); have GE_gb15 := Aside0.mk (show w.heap.size ≤ gb15 from by rw [hg]; exact below_size (by repeat (first | (with_reducible first | exact HB.out | apply below_alloc | apply pw_below_drewN | apply below_drew1) | exact HB.out))); clear hg; have n_BK9 := Aside0.mk (blk_below (g := gb9) (o := .cells #[.slice AL L.length cL, .slice AD D.length cD, .int .i64 g] 58 (0, 0)) (by (with_reducible repeat (first | refine blk_drewN ?_ _ | refine blk_drew ?_ | refine blk_alloc ?_ _)); exact BK9.out) hb); have n_BK14 := Aside0.mk (blk_below (g := gb14) (o := .cells #[.int .u8 o.f0, .int .i64 o.f1, .int .i64 o.f2, .int .i64 o.f3, .int .u64 o.f4, .int .i64 o.f5] 61 (0, 0)) (by (with_reducible repeat (first | refine blk_drewN ?_ _ | refine blk_drew ?_ | refine blk_alloc ?_ _)); exact BK14.out) hb); have n_HO0 := Aside0.mk (Kd.R_below (by (with_reducible repeat (first | apply Kd.R_alloc | apply Kd.R_drewN | apply Kd.R_drew)); exact HO0.out) hb); have n_HO1 := Aside0.mk (Kd.R_below (by (with_reducible repeat (first | apply Kd.R_alloc | apply Kd.R_drewN | apply Kd.R_drew)); exact HO1.out) hb); have n_HJ := Aside0.mk (Kd.R_below (by (with_reducible repeat (first | apply Kd.R_alloc | apply Kd.R_drewN | apply Kd.R_drew)); exact HJ.out) hb); have n_HN := Aside0.mk (Kd.R_below (by (with_reducible repeat (first | apply Kd.R_alloc | apply Kd.R_drewN | apply Kd.R_drew)); exact HN.out) hb); have n_HB := Aside0.mk (below_step (by repeat (first | (with_reducible first | exact HB.out | apply below_alloc | apply pw_below_drewN | apply below_drew1) | exact HB.out)) hb); clear bk9_0 bk9_1 bk9_2 bk9_f bk14_0 bk14_1 bk14_2 bk14_3 bk14_4 bk14_5 bk14_f; clear BK9 BK14 HO0 HO1 HJ HN HB hb; have BK9 := n_BK9; have BK14 := n_BK14; have HO0 := n_HO0; have HO1 := n_HO1; have HJ := n_HJ; have HN := n_HN; have HB := n_HB; clear n_BK9 n_BK14 n_HO0 n_HO1 n_HJ n_HN n_HB; have BK15 := Aside0.mk hbox; clear hbox; have bk9_0 := (blk_cell BK9.out 0).trans (show _ = some (.slice AL L.length cL) from rfl); have bk9_1 := (blk_cell BK9.out 1).trans (show _ = some (.slice AD D.length cD) from rfl); have bk9_2 := (blk_cell BK9.out 2).trans (show _ = some (.int .i64 g) from rfl); have bk14_0 := (blk_cell BK14.out 0).trans (show _ = some (.int .u8 o.f0) from rfl); have bk14_1 := (blk_cell BK14.out 1).trans (show _ = some (.int .i64 o.f1) from rfl); have bk14_2 := (blk_cell BK14.out 2).trans (show _ = some (.int .i64 o.f2) from rfl); have bk14_3 := (blk_cell BK14.out 3).trans (show _ = some (.int .i64 o.f3) from rfl); have bk14_4 := (blk_cell BK14.out 4).trans (show _ = some (.int .u64 o.f4) from rfl); have bk14_5 := (blk_cell BK14.out 5).trans (show _ = some (.int .i64 o.f5) from rfl); have bk15_0 := (blk_cell BK15.out 0).trans (show _ = some (.slice none 0 0) from rfl); have bk15_1 := (blk_cell BK15.out 1).trans (show _ = some (.slice none 0 0) from rfl); have bk15_2 := (blk_cell BK15.out 2).trans (show _ = some (.int .i64 0) from rfl); have bk9_f := fun i => blk_frozen BK9.out i; have bk14_f := fun i => blk_frozen BK14.out i; have bk15_f := fun i => blk_frozen BK15.out i))
      clear bk9_0 bk9_1 bk9_2 bk9_f bk14_0 bk14_1 bk14_2 bk14_3 bk14_4 bk14_5 bk14_f bk15_0 bk15_1 bk15_2 bk15_f
      have s0_HO0 := Kd.R_set HO0.out BK15.out (by decide) 0 (.slice AL L.length cL)
      have s0_HO1 := Kd.R_set HO1.out BK15.out (by decide) 0 (.slice AL L.length cL)
      have s0_HJ := Kd.R_set HJ.out BK15.out (by decide) 0 (.slice AL L.length cL)
      have s0_HN := Kd.R_set HN.out BK15.out (by decide) 0 (.slice AL L.length cL)
      have s0_BK9 := blk_far BK9.out (p := ⟨gb15, 0, none⟩) NE_gb9_gb15.out (.slice AL L.length cL)
      have s0_BK14 := blk_far BK14.out (p := ⟨gb15, 0, none⟩) NE_gb14_gb15.out (.slice AL L.length cL)
      have s0_BK15 := blk_put (cs' := #[.slice AL L.length cL, .slice none 0 0, .int .i64 0]) BK15.out 0 (.slice AL L.length cL) rfl
      have s0_HB := below_set (j := 0) (v := .slice AL L.length cL) HB.out GE_gb15.out
      have s1_HO0 := Kd.R_set s0_HO0 s0_BK15 (by decide) 1 (.slice AD D.length cD)
      have s1_HO1 := Kd.R_set s0_HO1 s0_BK15 (by decide) 1 (.slice AD D.length cD)
      have s1_HJ := Kd.R_set s0_HJ s0_BK15 (by decide) 1 (.slice AD D.length cD)
      have s1_HN := Kd.R_set s0_HN s0_BK15 (by decide) 1 (.slice AD D.length cD)
      have s1_BK9 := blk_far s0_BK9 (p := ⟨gb15, 1, none⟩) NE_gb9_gb15.out (.slice AD D.length cD)
      have s1_BK14 := blk_far s0_BK14 (p := ⟨gb15, 1, none⟩) NE_gb14_gb15.out (.slice AD D.length cD)
      have s1_BK15 := blk_put (cs' := #[.slice AL L.length cL, .slice AD D.length cD, .int .i64 0]) s0_BK15 1 (.slice AD D.length cD) rfl
      have s1_HB := below_set (j := 1) (v := .slice AD D.length cD) s0_HB GE_gb15.out
      have s2_HO0 := Kd.R_set s1_HO0 s1_BK15 (by decide) 2 (.int .i64 g)
      have s2_HO1 := Kd.R_set s1_HO1 s1_BK15 (by decide) 2 (.int .i64 g)
      have s2_HJ := Kd.R_set s1_HJ s1_BK15 (by decide) 2 (.int .i64 g)
      have s2_HN := Kd.R_set s1_HN s1_BK15 (by decide) 2 (.int .i64 g)
      have s2_BK9 := blk_far s1_BK9 (p := ⟨gb15, 2, none⟩) NE_gb9_gb15.out (.int .i64 g)
      have s2_BK14 := blk_far s1_BK14 (p := ⟨gb15, 2, none⟩) NE_gb14_gb15.out (.int .i64 g)
      have s2_BK15 := blk_put (cs' := #[.slice AL L.length cL, .slice AD D.length cD, .int .i64 g]) s1_BK15 2 (.int .i64 g) rfl
      have s2_HB := below_set (j := 2) (v := .int .i64 g) s1_HB GE_gb15.out
      have n_BK9 := Aside0.mk s2_BK9
      have n_BK14 := Aside0.mk s2_BK14
      have n_BK15 := Aside0.mk s2_BK15
      have n_HO0 := Aside0.mk s2_HO0
      have n_HO1 := Aside0.mk s2_HO1
      have n_HJ := Aside0.mk s2_HJ
      have n_HN := Aside0.mk s2_HN
      have n_HB := Aside0.mk s2_HB
      clear s0_BK9 s0_BK14 s0_BK15 s0_HO0 s0_HO1 s0_HJ s0_HN s0_HB
      clear s1_BK9 s1_BK14 s1_BK15 s1_HO0 s1_HO1 s1_HJ s1_HN s1_HB
      clear s2_BK9 s2_BK14 s2_BK15 s2_HO0 s2_HO1 s2_HJ s2_HN s2_HB
      clear BK9 BK14 BK15 HO0 HO1 HJ HN HB
      generalize (((w3.setCell ⟨gb15, 0, none⟩ (.slice AL L.length cL)).setCell ⟨gb15, 1, none⟩ (.slice AD D.length cD)).setCell ⟨gb15, 2, none⟩ (.int .i64 g)) = w7 at n_BK9 n_BK14 n_BK15 n_HO0 n_HO1 n_HJ n_HN n_HB ⊢
      have BK9 := n_BK9
      have BK14 := n_BK14
      have BK15 := n_BK15
      have HO0 := n_HO0
      have HO1 := n_HO1
      have HJ := n_HJ
      have HN := n_HN
      have HB := n_HB
      clear n_BK9 n_BK14 n_BK15 n_HO0 n_HO1 n_HJ n_HN n_HB
      have bk9_0 := (blk_cell BK9.out 0).trans (show _ = some (.slice AL L.length cL) from rfl); have bk9_1 := (blk_cell BK9.out 1).trans (show _ = some (.slice AD D.length cD) from rfl); have bk9_2 := (blk_cell BK9.out 2).trans (show _ = some (.int .i64 g) from rfl); have bk14_0 := (blk_cell BK14.out 0).trans (show _ = some (.int .u8 o.f0) from rfl); have bk14_1 := (blk_cell BK14.out 1).trans (show _ = some (.int .i64 o.f1) from rfl); have bk14_2 := (blk_cell BK14.out 2).trans (show _ = some (.int .i64 o.f2) from rfl); have bk14_3 := (blk_cell BK14.out 3).trans (show _ = some (.int .i64 o.f3) from rfl); have bk14_4 := (blk_cell BK14.out 4).trans (show _ = some (.int .u64 o.f4) from rfl); have bk14_5 := (blk_cell BK14.out 5).trans (show _ = some (.int .i64 o.f5) from rfl); have bk15_0 := (blk_cell BK15.out 0).trans (show _ = some (.slice AL L.length cL) from rfl); have bk15_1 := (blk_cell BK15.out 1).trans (show _ = some (.slice AD D.length cD) from rfl); have bk15_2 := (blk_cell BK15.out 2).trans (show _ = some (.int .i64 g) from rfl); have bk9_f := fun i => blk_frozen BK9.out i; have bk14_f := fun i => blk_frozen BK14.out i; have bk15_f := fun i => blk_frozen BK15.out i
      have hwb4 : w.heap.size ≤ w7.heap.size := below_size HB.out
      go_upto_region 11 with (first | (go_at_call 39; (with_reducible refine (does_at _ _ L _ _ D g o last m0 u0 i _ (Kd.R_reads' HO0.out).2.2 (Kd.R_reads' HO0.out).2.1 (Kd.R_reads' HO1.out).2.2 (Kd.R_reads' HO1.out).2.1 HI.out (by omega) HK.out).mono ?_); rintro e w5 ⟨L2, D2, g2, last2, ts, AL2, cL2, AD2, cD2, AT, cT, rfl, hd, hi2, ho0, ho1, hot, hb⟩; have HOS := Aside0.mk (order_step HI.out HOR.out (by omega) _ _ _ _ _ _ _ (by omega) hm1 (by omega) _ _ _ _ _ hd); have HI2 := Aside0.mk hi2; have n_BK9 := Aside0.mk (blk_below BK9.out hb); have n_BK14 := Aside0.mk (blk_below BK14.out hb); have n_BK15 := Aside0.mk (blk_below BK15.out hb); have n_HO2 := Aside0.mk (Kd.R_lower ho0 hwb4); have n_HO3 := Aside0.mk (Kd.R_lower ho1 hwb4); have n_HJ := Aside0.mk (Kd.R_below HJ.out hb); have n_HN := Aside0.mk (Kd.R_below HN.out hb); have n_HB := Aside0.mk (below_step HB.out hb); clear bk9_0 bk9_1 bk9_2 bk9_f bk14_0 bk14_1 bk14_2 bk14_3 bk14_4 bk14_5 bk14_f bk15_0 bk15_1 bk15_2 bk15_f; clear BK9 BK14 BK15 HJ HN HB HO0 HO1; have BK9 := n_BK9; have BK14 := n_BK14; have BK15 := n_BK15; have HO2 := n_HO2; have HO3 := n_HO3; have HJ := n_HJ; have HN := n_HN; have HB := n_HB; clear n_BK9 n_BK14 n_BK15 n_HO2 n_HO3 n_HJ n_HN n_HB; have bk9_0 := (blk_cell BK9.out 0).trans (show _ = some (.slice AL L.length cL) from rfl); have bk9_1 := (blk_cell BK9.out 1).trans (show _ = some (.slice AD D.length cD) from rfl); have bk9_2 := (blk_cell BK9.out 2).trans (show _ = some (.int .i64 g) from rfl); have bk14_0 := (blk_cell BK14.out 0).trans (show _ = some (.int .u8 o.f0) from rfl); have bk14_1 := (blk_cell BK14.out 1).trans (show _ = some (.int .i64 o.f1) from rfl); have bk14_2 := (blk_cell BK14.out 2).trans (show _ = some (.int .i64 o.f2) from rfl); have bk14_3 := (blk_cell BK14.out 3).trans (show _ = some (.int .i64 o.f3) from rfl); have bk14_4 := (blk_cell BK14.out 4).trans (show _ = some (.int .u64 o.f4) from rfl); have bk14_5 := (blk_cell BK14.out 5).trans (show _ = some (.int .i64 o.f5) from rfl); have bk15_0 := (blk_cell BK15.out 0).trans (show _ = some (.slice AL L.length cL) from rfl); have bk15_1 := (blk_cell BK15.out 1).trans (show _ = some (.slice AD D.length cD) from rfl); have bk15_2 := (blk_cell BK15.out 2).trans (show _ = some (.int .i64 g) from rfl); have bk9_f := fun i => blk_frozen BK9.out i; have bk14_f := fun i => blk_frozen BK14.out i; have bk15_f := fun i => blk_frozen BK15.out i; clear hd hi2 ho0 ho1 hot hb))
      clear bk9_0 bk9_1 bk9_2 bk9_f bk14_0 bk14_1 bk14_2 bk14_3 bk14_4 bk14_5 bk14_f bk15_0 bk15_1 bk15_2 bk15_f
      have s0_HO2 := Kd.R_set HO2.out BK9.out (by decide) 0 (.slice AL2 L2.length cL2)
      have s0_HO3 := Kd.R_set HO3.out BK9.out (by decide) 0 (.slice AL2 L2.length cL2)
      have s0_HJ := Kd.R_set HJ.out BK9.out (by decide) 0 (.slice AL2 L2.length cL2)
      have s0_HN := Kd.R_set HN.out BK9.out (by decide) 0 (.slice AL2 L2.length cL2)
      have s0_BK9 := blk_put (cs' := #[.slice AL2 L2.length cL2, .slice AD D.length cD, .int .i64 g]) BK9.out 0 (.slice AL2 L2.length cL2) rfl
      have s0_BK14 := blk_far BK14.out (p := ⟨gb9, 0, none⟩) (Ne.symm NE_gb9_gb14.out) (.slice AL2 L2.length cL2)
      have s0_BK15 := blk_far BK15.out (p := ⟨gb9, 0, none⟩) (Ne.symm NE_gb9_gb15.out) (.slice AL2 L2.length cL2)
      have s0_HB := below_set (j := 0) (v := .slice AL2 L2.length cL2) HB.out GE_gb9.out
      have s1_HO2 := Kd.R_set s0_HO2 s0_BK9 (by decide) 1 (.slice AD2 D2.length cD2)
      have s1_HO3 := Kd.R_set s0_HO3 s0_BK9 (by decide) 1 (.slice AD2 D2.length cD2)
      have s1_HJ := Kd.R_set s0_HJ s0_BK9 (by decide) 1 (.slice AD2 D2.length cD2)
      have s1_HN := Kd.R_set s0_HN s0_BK9 (by decide) 1 (.slice AD2 D2.length cD2)
      have s1_BK9 := blk_put (cs' := #[.slice AL2 L2.length cL2, .slice AD2 D2.length cD2, .int .i64 g]) s0_BK9 1 (.slice AD2 D2.length cD2) rfl
      have s1_BK14 := blk_far s0_BK14 (p := ⟨gb9, 1, none⟩) (Ne.symm NE_gb9_gb14.out) (.slice AD2 D2.length cD2)
      have s1_BK15 := blk_far s0_BK15 (p := ⟨gb9, 1, none⟩) (Ne.symm NE_gb9_gb15.out) (.slice AD2 D2.length cD2)
      have s1_HB := below_set (j := 1) (v := .slice AD2 D2.length cD2) s0_HB GE_gb9.out
      have s2_HO2 := Kd.R_set s1_HO2 s1_BK9 (by decide) 2 (.int .i64 g2)
      have s2_HO3 := Kd.R_set s1_HO3 s1_BK9 (by decide) 2 (.int .i64 g2)
      have s2_HJ := Kd.R_set s1_HJ s1_BK9 (by decide) 2 (.int .i64 g2)
      have s2_HN := Kd.R_set s1_HN s1_BK9 (by decide) 2 (.int .i64 g2)
      have s2_BK9 := blk_put (cs' := #[.slice AL2 L2.length cL2, .slice AD2 D2.length cD2, .int .i64 g2]) s1_BK9 2 (.int .i64 g2) rfl
      have s2_BK14 := blk_far s1_BK14 (p := ⟨gb9, 2, none⟩) (Ne.symm NE_gb9_gb14.out) (.int .i64 g2)
      have s2_BK15 := blk_far s1_BK15 (p := ⟨gb9, 2, none⟩) (Ne.symm NE_gb9_gb15.out) (.int .i64 g2)
      have s2_HB := below_set (j := 2) (v := .int .i64 g2) s1_HB GE_gb9.out
      have n_BK9 := Aside0.mk s2_BK9
      have n_BK14 := Aside0.mk s2_BK14
      have n_BK15 := Aside0.mk s2_BK15
      have n_HO2 := Aside0.mk s2_HO2
      have n_HO3 := Aside0.mk s2_HO3
      have n_HJ := Aside0.mk s2_HJ
      have n_HN := Aside0.mk s2_HN
      have n_HB := Aside0.mk s2_HB
      clear s0_BK9 s0_BK14 s0_BK15 s0_HO2 s0_HO3 s0_HJ s0_HN s0_HB
      clear s1_BK9 s1_BK14 s1_BK15 s1_HO2 s1_HO3 s1_HJ s1_HN s1_HB
      clear s2_BK9 s2_BK14 s2_BK15 s2_HO2 s2_HO3 s2_HJ s2_HN s2_HB
      clear BK9 BK14 BK15 HO2 HO3 HJ HN HB
      generalize (((w5.setCell ⟨gb9, 0, none⟩ (.slice AL2 L2.length cL2)).setCell ⟨gb9, 1, none⟩ (.slice AD2 D2.length cD2)).setCell ⟨gb9, 2, none⟩ (.int .i64 g2)) = w8 at n_BK9 n_BK14 n_BK15 n_HO2 n_HO3 n_HJ n_HN n_HB ⊢
      have BK9 := n_BK9
      have BK14 := n_BK14
      have BK15 := n_BK15
      have HO2 := n_HO2
      have HO3 := n_HO3
      have HJ := n_HJ
      have HN := n_HN
      have HB := n_HB
      clear n_BK9 n_BK14 n_BK15 n_HO2 n_HO3 n_HJ n_HN n_HB
      have bk9_0 := (blk_cell BK9.out 0).trans (show _ = some (.slice AL2 L2.length cL2) from rfl); have bk9_1 := (blk_cell BK9.out 1).trans (show _ = some (.slice AD2 D2.length cD2) from rfl); have bk9_2 := (blk_cell BK9.out 2).trans (show _ = some (.int .i64 g2) from rfl); have bk14_0 := (blk_cell BK14.out 0).trans (show _ = some (.int .u8 o.f0) from rfl); have bk14_1 := (blk_cell BK14.out 1).trans (show _ = some (.int .i64 o.f1) from rfl); have bk14_2 := (blk_cell BK14.out 2).trans (show _ = some (.int .i64 o.f2) from rfl); have bk14_3 := (blk_cell BK14.out 3).trans (show _ = some (.int .i64 o.f3) from rfl); have bk14_4 := (blk_cell BK14.out 4).trans (show _ = some (.int .u64 o.f4) from rfl); have bk14_5 := (blk_cell BK14.out 5).trans (show _ = some (.int .i64 o.f5) from rfl); have bk15_0 := (blk_cell BK15.out 0).trans (show _ = some (.slice AL L.length cL) from rfl); have bk15_1 := (blk_cell BK15.out 1).trans (show _ = some (.slice AD D.length cD) from rfl); have bk15_2 := (blk_cell BK15.out 2).trans (show _ = some (.int .i64 g) from rfl); have bk9_f := fun i => blk_frozen BK9.out i; have bk14_f := fun i => blk_frozen BK14.out i; have bk15_f := fun i => blk_frozen BK15.out i
      have hgg0 : 0 ≤ g := HI.out.g0
      have hjn : jn.length ≤ i := HOR.out.few
      have hla : 0 ≤ last := HOR.out.last0
      have hlb : last ≤ 32 * i := HOR.out.last1
      have hL2 : L2.length + D2.length ≤ i + 1 := HI2.out.len
      have hLD : L.length + D.length ≤ i := HI.out.len
      have hg20 : 0 ≤ g2 := HI2.out.g0
      have hg21 : g2 ≤ L2.length := HI2.out.g1
      have HF2 := Aside0.mk HI2.out.fine
      clear HI HOR hwb4
      obtain ⟨X, y, p1, p2, p3, p4, p5, OR2, p7, p8⟩ := HOS.out
      clear HOS
      obtain ⟨jn2, hj2⟩ : ∃ jn2, jn ++ y = jn2 := ⟨_, rfl⟩
      obtain ⟨dn2, hd2⟩ : ∃ dn2, dn ++ X.map S65.f0 = dn2 := ⟨_, rfl⟩
      rw [hj2, hd2] at OR2
      have HJ2 := Aside0.mk hj2
      have HD2 := Aside0.mk hd2
      clear hj2 hd2
      have hjn2 : jn2.length ≤ i + 1 := OR2.few
      have hdn2 : dn2.length ≤ i + 1 := by
        have e := congrArg List.length OR2.all
        rw [List.length_append] at e
        have := OR2.few
        omega
      have OR2 := Aside0.mk OR2
      have P1 := Aside0.mk p1
      have P2 := Aside0.mk p2
      have P3 := Aside0.mk p3
      have P4 := Aside0.mk p4
      have P5 := Aside0.mk p5
      have P7 := Aside0.mk p7
      have P8 := Aside0.mk p8
      clear p1 p2 p3 p4 p5 p7 p8
      obtain ⟨bj, hbj⟩ : ∃ b, decide (L.length < L2.length) = b := ⟨_, rfl⟩
      have hbk : decide ((L.length : Int) < (L2.length : Int)) = bj := by rw [← hbj]; exact decide_eq_decide.2 (by omega)
      have BJ := Aside0.mk hbj
      go_upto_if 62 with (fail)
      clear hbj hbk
      go_cut [11] (fun v11 wx => ∃ (AJ3 : Option Addr) (cJ3 : Nat), v11 = .slice AJ3 jn2.length cJ3 ∧ Aside0 (wx.heap[gb9]? = some (.cells #[.slice AL2 L2.length cL2, .slice AD2 D2.length cD2, .int .i64 g2] 58 (0, 0))) ∧ Aside0 (wx.heap[gb14]? = some (.cells #[.int .u8 o.f0, .int .i64 o.f1, .int .i64 o.f2, .int .i64 o.f3, .int .u64 o.f4, .int .i64 o.f5] 61 (0, 0))) ∧ Aside0 (wx.heap[gb15]? = some (.cells #[.slice AL L.length cL, .slice AD D.length cD, .int .i64 g] 58 (0, 0))) ∧ Aside0 (Kd.R k65 65 wx w.heap.size (fun _ => True) (.slice AL2 L2.length cL2) L2) ∧ Aside0 (Kd.R k65 65 wx w.heap.size (fun _ => True) (.slice AD2 D2.length cD2) D2) ∧ Aside0 (Kd.R (Kd.int .i64) 3 wx w.heap.size (fun _ => True) (.slice AJ3 jn2.length cJ3) jn2) ∧ Aside0 (Kd.R (Kd.int .i64) 3 wx w.heap.size (fun _ => True) (.slice AN dn.length cN) dn) ∧ Aside0 ((.slice AJ3 jn2.length cJ3 : Value).ownBlock = none ∨ (.slice AJ3 jn2.length cJ3 : Value).ownBlock ≠ (.slice AN dn.length cN : Value).ownBlock) ∧ Aside0 (Below w.heap.size w wx))
      case first =>
        cases bj
        case true =>
          have hj := of_decide_eq_true BJ.out
          obtain ⟨ad2, e2, hy0, -⟩ := at_T65 (Kd.R_reads' HO2.out).2.2 ((L2.length : Int) - 1) (by omega) (by omega)
          subst e2
          rw [show rd_T65 L2 ((L2.length : Int) - 1) = L2.getD (L2.length - 1) z65 by simp [rd_T65, show ((L2.length : Int) - 1).toNat = L2.length - 1 by omega], show ((L2.length : Int) - 1).toNat = L2.length - 1 by omega] at hy0
          have hyy := (P1.out hj).2
          generalize (L2.getD (L2.length - 1) z65).f0 = y0 at hy0 hyy
          have E1 : Aside0 (jn ++ [y0] = jn2) := ⟨by rw [← hyy]; exact HJ2.out⟩
          clear hyy
          go_wp2_with (first | ((with_reducible refine gate_builtin (b := .append) (xs := #[.tmp 63, .tmp 73]) rfl ?_); at_builtin; (refine Kd.R_append (Kd.int .i64) (w0 := w) w.heap.size rfl (.tmp 63) (.tmp 73) 36 3 (.int .i64 0) 8 rfl Try.underlying36 info3 rfl (by decide) (by omega) (.slice AJ jn.length cJ) jn y0 [.int .i64 y0] (fun _ => True) (fun _ => False) (by first | rfl | (go_simp; done)) (by first | rfl | (go_simp; done)) rfl (fun _ hk => hk.elim) (fun _ _ => trivial) HJ.out HB.out (below_size HB.out) (by omega) ?_); intro v6 w6 ho hb hg hat; (rw [E1.out] at ho; have n_BK9 := Aside0.mk (blk_grown BK9.out hg (blk_rowG BK9.out HJ.out (by decide))); have n_BK14 := Aside0.mk (blk_grown BK14.out hg (blk_rowG BK14.out HJ.out (by decide))); have n_BK15 := Aside0.mk (blk_grown BK15.out hg (blk_rowG BK15.out HJ.out (by decide))); have n_HO2 := Aside0.mk (Kd.R_over' HO2.out (Kd.R_typed HJ.out) (by decide) hg); have n_HO3 := Aside0.mk (Kd.R_over' HO3.out (Kd.R_typed HJ.out) (by decide) hg); have n_HN := Aside0.mk (Kd.R_grown2 HN.out rfl hg (ap0 HAP.out)); obtain ⟨AJ3, cJ3, ev⟩ := Kd.R_slice ho; subst ev; have n_HAP : Aside0 ((.slice AJ3 jn2.length cJ3 : Value).ownBlock = none ∨ (.slice AJ3 jn2.length cJ3 : Value).ownBlock ≠ (.slice AN dn.length cN : Value).ownBlock) := ⟨ap_hat1 HAP.out hat HN.out⟩; have n_HJ := Aside0.mk ho; have n_HB := Aside0.mk hb); clear ho hb hg hat))
          go_meet
          case rel => exact ⟨AJ3, cJ3, rfl, n_BK9, n_BK14, n_BK15, n_HO2, n_HO3, n_HJ, n_HN, n_HAP, n_HB⟩
        case false =>
          have hj := of_decide_eq_false BJ.out
          obtain rfl : jn = jn2 := by rw [← HJ2.out, P2.out hj, List.append_nil]
          clear hj
          go_wp2
          go_meet
          case rel => exact ⟨AJ, cJ, rfl, BK9, BK14, BK15, HO2, HO3, HJ, HN, HAP, HB⟩
      case rest =>
      clear BK9 BK14 BK15 HO2 HO3 HJ HN HAP HB bk9_0 bk9_1 bk9_2 bk9_f bk14_0 bk14_1 bk14_2 bk14_3 bk14_4 bk14_5 bk14_f bk15_0 bk15_1 bk15_2 bk15_f
      obtain ⟨AJ3, cJ3, rfl, BK9, BK14, BK15, HO2, HO3, HJ, HN, HAP, HB⟩ := hcut
      rename World => wc1
      have bk9_0 := (blk_cell BK9.out 0).trans (show _ = some (.slice AL2 L2.length cL2) from rfl); have bk9_1 := (blk_cell BK9.out 1).trans (show _ = some (.slice AD2 D2.length cD2) from rfl); have bk9_2 := (blk_cell BK9.out 2).trans (show _ = some (.int .i64 g2) from rfl); have bk14_0 := (blk_cell BK14.out 0).trans (show _ = some (.int .u8 o.f0) from rfl); have bk14_1 := (blk_cell BK14.out 1).trans (show _ = some (.int .i64 o.f1) from rfl); have bk14_2 := (blk_cell BK14.out 2).trans (show _ = some (.int .i64 o.f2) from rfl); have bk14_3 := (blk_cell BK14.out 3).trans (show _ = some (.int .i64 o.f3) from rfl); have bk14_4 := (blk_cell BK14.out 4).trans (show _ = some (.int .u64 o.f4) from rfl); have bk14_5 := (blk_cell BK14.out 5).trans (show _ = some (.int .i64 o.f5) from rfl); have bk15_0 := (blk_cell BK15.out 0).trans (show _ = some (.slice AL L.length cL) from rfl); have bk15_1 := (blk_cell BK15.out 1).trans (show _ = some (.slice AD D.length cD) from rfl); have bk15_2 := (blk_cell BK15.out 2).trans (show _ = some (.int .i64 g) from rfl); have bk9_f := fun i => blk_frozen BK9.out i; have bk14_f := fun i => blk_frozen BK14.out i; have bk15_f := fun i => blk_frozen BK15.out i
      obtain ⟨bd, hbd⟩ : ∃ b, decide (D.length < D2.length) = b := ⟨_, rfl⟩
      have hbk : decide ((D.length : Int) < (D2.length : Int)) = bd := by rw [← hbd]; exact decide_eq_decide.2 (by omega)
      have BD := Aside0.mk hbd
      go_upto_if 81 with (fail)
      clear hbd hbk
      have hdl : dn.length + X.length = dn2.length := by rw [← HD2.out, List.length_append, List.length_map]
      go_cut [12] (fun v12 wx => ∃ (AN3 : Option Addr) (cN3 : Nat), v12 = .slice AN3 dn2.length cN3 ∧ Aside0 (wx.heap[gb9]? = some (.cells #[.slice AL2 L2.length cL2, .slice AD2 D2.length cD2, .int .i64 g2] 58 (0, 0))) ∧ Aside0 (wx.heap[gb14]? = some (.cells #[.int .u8 o.f0, .int .i64 o.f1, .int .i64 o.f2, .int .i64 o.f3, .int .u64 o.f4, .int .i64 o.f5] 61 (0, 0))) ∧ Aside0 (wx.heap[gb15]? = some (.cells #[.slice AL L.length cL, .slice AD D.length cD, .int .i64 g] 58 (0, 0))) ∧ Aside0 (Kd.R k65 65 wx w.heap.size (fun _ => True) (.slice AL2 L2.length cL2) L2) ∧ Aside0 (Kd.R k65 65 wx w.heap.size (fun _ => True) (.slice AD2 D2.length cD2) D2) ∧ Aside0 (Kd.R (Kd.int .i64) 3 wx w.heap.size (fun _ => True) (.slice AJ3 jn2.length cJ3) jn2) ∧ Aside0 (Kd.R (Kd.int .i64) 3 wx w.heap.size (fun _ => True) (.slice AN3 dn2.length cN3) dn2) ∧ Aside0 ((.slice AJ3 jn2.length cJ3 : Value).ownBlock = none ∨ (.slice AJ3 jn2.length cJ3 : Value).ownBlock ≠ (.slice AN3 dn2.length cN3 : Value).ownBlock) ∧ Aside0 (Below w.heap.size w wx))
      case first =>
        cases bd
        case true =>
          have hdn := of_decide_eq_true BD.out
          have hX := P3.out hdn
          have hXl : D2.length = D.length + X.length := by rw [hX, List.length_append]
          have hXa : D2.length ≤ D.length + X.length := by omega
          have hXb : D.length + X.length ≤ D2.length := by omega
          have hXd : Aside0 (D2.drop D.length = X) := ⟨by rw [hX, List.drop_left]⟩
          obtain ⟨i65, hi65, hs65⟩ := Option.map_eq_some_iff.1 inf65
          have hcutF := cut_from (P := Try.prog) 56 65 .i64 Try.underlying56 hi65 6 hs65 AD2 D2.length cD2 (D.length : Int) (by omega) (by omega)
          rw [Int.toNat_natCast] at hcutF
          obtain ⟨Az, hAz⟩ : ∃ Az, (if cD2 = D.length then AD2 else AD2.map (·.add (D.length * 6))) = Az := ⟨_, rfl⟩
          rw [hAz, show D2.length - D.length = X.length by omega] at hcutF
          have HAZ := Aside0.mk hAz
          clear hX hXl hi65 hs65 hAz
          go_wp2
          clear hcutF bk9_0 bk9_1 bk9_2 bk9_f bk14_0 bk14_1 bk14_2 bk14_3 bk14_4 bk14_5 bk14_f bk15_0 bk15_1 bk15_2 bk15_f
          go_loopw [12, 89] (fun v12 v89 wr => ∃ (q : Nat) (AN3 : Option Addr) (cN3 : Nat), q ≤ X.length ∧ v89 = .int .i64 q ∧ v12 = .slice AN3 (dn ++ (X.take q).map S65.f0).length cN3 ∧ Aside0 (wr.heap[gb9]? = some (.cells #[.slice AL2 L2.length cL2, .slice AD2 D2.length cD2, .int .i64 g2] 58 (0, 0))) ∧ Aside0 (wr.heap[gb14]? = some (.cells #[.int .u8 o.f0, .int .i64 o.f1, .int .i64 o.f2, .int .i64 o.f3, .int .u64 o.f4, .int .i64 o.f5] 61 (0, 0))) ∧ Aside0 (wr.heap[gb15]? = some (.cells #[.slice AL L.length cL, .slice AD D.length cD, .int .i64 g] 58 (0, 0))) ∧ Aside0 (Kd.R k65 65 wr w.heap.size (fun _ => True) (.slice AL2 L2.length cL2) L2) ∧ Aside0 (Kd.R k65 65 wr w.heap.size (fun _ => True) (.slice AD2 D2.length cD2) D2) ∧ Aside0 (Kd.R (Kd.int .i64) 3 wr w.heap.size (fun _ => True) (.slice AJ3 jn2.length cJ3) jn2) ∧ Aside0 (Kd.R (Kd.int .i64) 3 wr w.heap.size (fun _ => True) (.slice AN3 (dn ++ (X.take q).map S65.f0).length cN3) (dn ++ (X.take q).map S65.f0)) ∧ Aside0 ((.slice AJ3 jn2.length cJ3 : Value).ownBlock = none ∨ (.slice AJ3 jn2.length cJ3 : Value).ownBlock ≠ (.slice AN3 (dn ++ (X.take q).map S65.f0).length cN3 : Value).ownBlock) ∧ Aside0 (Below w.heap.size w wr)) (fun v12 v89 _ => X.length - (intOf v89).toNat)
          case atStart => exact ⟨0, AN, cN, Nat.zero_le _, rfl, by simp, BK9, BK14, BK15, HO2, HO3, HJ, by simpa using HN, by simpa using HAP, HB⟩
          case round =>
            clear BK9 BK14 BK15 HO2 HO3 HJ HN HAP HB
            obtain ⟨q, AN3, cN3, hq, rfl, rfl, BK9, BK14, BK15, HO2, HO3, HJ, HN, HAP, HB⟩ := hrel
            rename World => wq
            by_cases hlq : q < X.length
            · have hcd := Kd.C_drop (Kd.R_reads' HO3.out).2.2 (m := D.length) (c := cD2) (by omega) (Kd.R_reads' HO3.out).2.1
              rw [show k65.sz = 6 from rfl, HAZ.out, hXd.out] at hcd
              obtain ⟨ad3, e3, hz0, hz1, hz2, hz3, hz4, hz5⟩ := at_T65 hcd (q : Int) (by omega) (by omega)
              subst e3
              clear hcd
              have hx45 := P5.out (X.getD q z65) (getD_mem65 hlq)
              have e2 := take_map_succ S65.f0 z65 X q hlq
              have hlq2 : (dn ++ (X.take q).map S65.f0).length ≤ 1000 := by rw [List.length_append, List.length_map, List.length_take]; omega
              simp only [rd65_nat, Int.toNat_natCast] at hz0 hz1 hz2 hz3 hz4 hz5
              generalize X.getD q z65 = x at hz0 hz1 hz2 hz3 hz4 hz5 hx45 e2
              have E2 : Aside0 ((dn ++ (X.take q).map S65.f0) ++ [x.f0] = dn ++ (X.take (q + 1)).map S65.f0) := ⟨by rw [e2, List.append_assoc]⟩
              rw [hx45.1] at hz4
              rw [hx45.2] at hz5
              clear hx45 e2
              have bk9_0 := (blk_cell BK9.out 0).trans (show _ = some (.slice AL2 L2.length cL2) from rfl); have bk9_1 := (blk_cell BK9.out 1).trans (show _ = some (.slice AD2 D2.length cD2) from rfl); have bk9_2 := (blk_cell BK9.out 2).trans (show _ = some (.int .i64 g2) from rfl); have bk14_0 := (blk_cell BK14.out 0).trans (show _ = some (.int .u8 o.f0) from rfl); have bk14_1 := (blk_cell BK14.out 1).trans (show _ = some (.int .i64 o.f1) from rfl); have bk14_2 := (blk_cell BK14.out 2).trans (show _ = some (.int .i64 o.f2) from rfl); have bk14_3 := (blk_cell BK14.out 3).trans (show _ = some (.int .i64 o.f3) from rfl); have bk14_4 := (blk_cell BK14.out 4).trans (show _ = some (.int .u64 o.f4) from rfl); have bk14_5 := (blk_cell BK14.out 5).trans (show _ = some (.int .i64 o.f5) from rfl); have bk15_0 := (blk_cell BK15.out 0).trans (show _ = some (.slice AL L.length cL) from rfl); have bk15_1 := (blk_cell BK15.out 1).trans (show _ = some (.slice AD D.length cD) from rfl); have bk15_2 := (blk_cell BK15.out 2).trans (show _ = some (.int .i64 g) from rfl); have bk9_f := fun i => blk_frozen BK9.out i; have bk14_f := fun i => blk_frozen BK14.out i; have bk15_f := fun i => blk_frozen BK15.out i
              go_upto_region 17 with (first | ((with_reducible refine gate_dst (N := 18) rfl ?_); refine box_event ?hg (N := 18) ?hd (cs := #[.int .i64 0, .int .i64 0, .int .u64 0, .int .u64 0, .int .u8 0, .int .i64 0]) (t := 65) ?hr ?_; (case hd => rfl); (case hg => rfl); (case hr => first | (go_simp; done) | (go_simp; rfl)); intro gb18 hg w3 hbox hb; have NE_gb9_gb18 := Aside0.mk (show gb9 ≠ gb18 from by rw [hg]; exact Nat.ne_of_lt (blk_lt (o := .cells #[.slice AL2 L2.length cL2, .slice AD2 D2.length cD2, .int .i64 g2] 58 (0, 0)) (by (with_reducible repeat (first | refine blk_drewN ?_ _ | refine blk_drew ?_ | refine blk_alloc ?_ _)); exact BK9.out))); have NE_gb14_gb18 := Aside0.mk (show gb14 ≠ gb18 from by rw [hg]; exact Nat.ne_of_lt (blk_lt (o := .cells #[.int .u8 o.f0, .int .i64 o.f1, .int .i64 o.f2, .int .i64 o.f3, .int .u64 o.f4, .int .i64 o.f5] 61 (0, 0)) (by (with_reducible repeat (first | refine blk_drewN ?_ _ | refine blk_drew ?_ | refine blk_alloc ?_ _)); exact BK14.out))); have NE_gb15_gb18 := Aside0.mk (show gb15 ≠ gb18 from by rw [hg]; exact Nat.ne_of_lt (blk_lt (o := .cells #[.slice AL L.length cL, .slice AD D.length cD, .int .i64 g] 58 (0, 0)) (by (with_reducible repeat (first | refine blk_drewN ?_ _ | refine blk_drew ?_ | refine blk_alloc ?_ _)); exact BK15.out))); have X2 : Aside0 (some gb18 ≠ (.slice AL2 L2.length cL2 : Value).ownBlock) := ⟨fun e => by have := Kd.R_lt HO2.out gb18 e.symm; rw [hg] at this; exact absurd this (Nat.lt_irrefl _)⟩; have X3 : Aside0 (some gb18 ≠ (.slice AD2 D2.length cD2 : Value).ownBlock) := ⟨fun e => by have := Kd.R_lt HO3.out gb18 e.symm; rw [hg] at this; exact absurd this (Nat.lt_irrefl _)⟩; have GE_gb18 := Aside0.mk (show w.heap.size ≤ gb18 from by rw [hg]; exact below_size (by repeat (first | (with_reducible first | exact HB.out | apply below_alloc | apply pw_below_drewN | apply below_drew1) | exact HB.out))); clear hg; have n_BK9 := Aside0.mk (blk_below (g := gb9) (o := .cells #[.slice AL2 L2.length cL2, .slice AD2 D2.length cD2, .int .i64 g2] 58 (0, 0)) (by (with_reducible repeat (first | refine blk_drewN ?_ _ | refine blk_drew ?_ | refine blk_alloc ?_ _)); exact BK9.out) hb); have n_BK14 := Aside0.mk (blk_below (g := gb14) (o := .cells #[.int .u8 o.f0, .int .i64 o.f1, .int .i64 o.f2, .int .i64 o.f3, .int .u64 o.f4, .int .i64 o.f5] 61 (0, 0)) (by (with_reducible repeat (first | refine blk_drewN ?_ _ | refine blk_drew ?_ | refine blk_alloc ?_ _)); exact BK14.out) hb); have n_BK15 := Aside0.mk (blk_below (g := gb15) (o := .cells #[.slice AL L.length cL, .slice AD D.length cD, .int .i64 g] 58 (0, 0)) (by (with_reducible repeat (first | refine blk_drewN ?_ _ | refine blk_drew ?_ | refine blk_alloc ?_ _)); exact BK15.out) hb); have n_HO2 := Aside0.mk (Kd.R_below (by (with_reducible repeat (first | apply Kd.R_alloc | apply Kd.R_drewN | apply Kd.R_drew)); exact HO2.out) hb); have n_HO3 := Aside0.mk (Kd.R_below (by (with_reducible repeat (first | apply Kd.R_alloc | apply Kd.R_drewN | apply Kd.R_drew)); exact HO3.out) hb); have n_HJ := Aside0.mk (Kd.R_below (by (with_reducible repeat (first | apply Kd.R_alloc | apply Kd.R_drewN | apply Kd.R_drew)); exact HJ.out) hb); have n_HN := Aside0.mk (Kd.R_below (by (with_reducible repeat (first | apply Kd.R_alloc | apply Kd.R_drewN | apply Kd.R_drew)); exact HN.out) hb); have n_HB := Aside0.mk (below_step (by repeat (first | (with_reducible first | exact HB.out | apply below_alloc | apply pw_below_drewN | apply below_drew1) | exact HB.out)) hb); clear bk9_0 bk9_1 bk9_2 bk9_f bk14_0 bk14_1 bk14_2 bk14_3 bk14_4 bk14_5 bk14_f bk15_0 bk15_1 bk15_2 bk15_f; clear BK9 BK14 BK15 HO2 HO3 HJ HN HB hb; have BK9 := n_BK9; have BK14 := n_BK14; have BK15 := n_BK15; have HO2 := n_HO2; have HO3 := n_HO3; have HJ := n_HJ; have HN := n_HN; have HB := n_HB; clear n_BK9 n_BK14 n_BK15 n_HO2 n_HO3 n_HJ n_HN n_HB; have BK18 := Aside0.mk hbox; clear hbox; have bk9_0 := (blk_cell BK9.out 0).trans (show _ = some (.slice AL2 L2.length cL2) from rfl); have bk9_1 := (blk_cell BK9.out 1).trans (show _ = some (.slice AD2 D2.length cD2) from rfl); have bk9_2 := (blk_cell BK9.out 2).trans (show _ = some (.int .i64 g2) from rfl); have bk14_0 := (blk_cell BK14.out 0).trans (show _ = some (.int .u8 o.f0) from rfl); have bk14_1 := (blk_cell BK14.out 1).trans (show _ = some (.int .i64 o.f1) from rfl); have bk14_2 := (blk_cell BK14.out 2).trans (show _ = some (.int .i64 o.f2) from rfl); have bk14_3 := (blk_cell BK14.out 3).trans (show _ = some (.int .i64 o.f3) from rfl); have bk14_4 := (blk_cell BK14.out 4).trans (show _ = some (.int .u64 o.f4) from rfl); have bk14_5 := (blk_cell BK14.out 5).trans (show _ = some (.int .i64 o.f5) from rfl); have bk15_0 := (blk_cell BK15.out 0).trans (show _ = some (.slice AL L.length cL) from rfl); have bk15_1 := (blk_cell BK15.out 1).trans (show _ = some (.slice AD D.length cD) from rfl); have bk15_2 := (blk_cell BK15.out 2).trans (show _ = some (.int .i64 g) from rfl); have bk18_0 := (blk_cell BK18.out 0).trans (show _ = some (.int .i64 0) from rfl); have bk18_1 := (blk_cell BK18.out 1).trans (show _ = some (.int .i64 0) from rfl); have bk18_2 := (blk_cell BK18.out 2).trans (show _ = some (.int .u64 0) from rfl); have bk18_3 := (blk_cell BK18.out 3).trans (show _ = some (.int .u64 0) from rfl); have bk18_4 := (blk_cell BK18.out 4).trans (show _ = some (.int .u8 0) from rfl); have bk18_5 := (blk_cell BK18.out 5).trans (show _ = some (.int .i64 0) from rfl); have bk9_f := fun i => blk_frozen BK9.out i; have bk14_f := fun i => blk_frozen BK14.out i; have bk15_f := fun i => blk_frozen BK15.out i; have bk18_f := fun i => blk_frozen BK18.out i))
              clear hz0 hz1 hz2 hz3 hz4 hz5
              clear bk9_0 bk9_1 bk9_2 bk9_f bk14_0 bk14_1 bk14_2 bk14_3 bk14_4 bk14_5 bk14_f bk15_0 bk15_1 bk15_2 bk15_f bk18_0 bk18_1 bk18_2 bk18_3 bk18_4 bk18_5 bk18_f
              have s0_HO2 := far_set (p := ⟨gb18, 0, none⟩) HO2.out (X2.out) (.int .i64 x.f0)
              have s0_HO3 := far_set (p := ⟨gb18, 0, none⟩) HO3.out (X3.out) (.int .i64 x.f0)
              have s0_HJ := Kd.R_set HJ.out BK18.out (by decide) 0 (.int .i64 x.f0)
              have s0_HN := Kd.R_set HN.out BK18.out (by decide) 0 (.int .i64 x.f0)
              have s0_BK9 := blk_far BK9.out (p := ⟨gb18, 0, none⟩) NE_gb9_gb18.out (.int .i64 x.f0)
              have s0_BK14 := blk_far BK14.out (p := ⟨gb18, 0, none⟩) NE_gb14_gb18.out (.int .i64 x.f0)
              have s0_BK15 := blk_far BK15.out (p := ⟨gb18, 0, none⟩) NE_gb15_gb18.out (.int .i64 x.f0)
              have s0_BK18 := blk_put (cs' := #[.int .i64 x.f0, .int .i64 0, .int .u64 0, .int .u64 0, .int .u8 0, .int .i64 0]) BK18.out 0 (.int .i64 x.f0) rfl
              have s0_HB := below_set (j := 0) (v := .int .i64 x.f0) HB.out GE_gb18.out
              have s1_HO2 := far_set (p := ⟨gb18, 1, none⟩) s0_HO2 (X2.out) (.int .i64 x.f1)
              have s1_HO3 := far_set (p := ⟨gb18, 1, none⟩) s0_HO3 (X3.out) (.int .i64 x.f1)
              have s1_HJ := Kd.R_set s0_HJ s0_BK18 (by decide) 1 (.int .i64 x.f1)
              have s1_HN := Kd.R_set s0_HN s0_BK18 (by decide) 1 (.int .i64 x.f1)
              have s1_BK9 := blk_far s0_BK9 (p := ⟨gb18, 1, none⟩) NE_gb9_gb18.out (.int .i64 x.f1)
              have s1_BK14 := blk_far s0_BK14 (p := ⟨gb18, 1, none⟩) NE_gb14_gb18.out (.int .i64 x.f1)
              have s1_BK15 := blk_far s0_BK15 (p := ⟨gb18, 1, none⟩) NE_gb15_gb18.out (.int .i64 x.f1)
              have s1_BK18 := blk_put (cs' := #[.int .i64 x.f0, .int .i64 x.f1, .int .u64 0, .int .u64 0, .int .u8 0, .int .i64 0]) s0_BK18 1 (.int .i64 x.f1) rfl
              have s1_HB := below_set (j := 1) (v := .int .i64 x.f1) s0_HB GE_gb18.out
              have s2_HO2 := far_set (p := ⟨gb18, 2, none⟩) s1_HO2 (X2.out) (.int .u64 x.f2)
              have s2_HO3 := far_set (p := ⟨gb18, 2, none⟩) s1_HO3 (X3.out) (.int .u64 x.f2)
              have s2_HJ := Kd.R_set s1_HJ s1_BK18 (by decide) 2 (.int .u64 x.f2)
              have s2_HN := Kd.R_set s1_HN s1_BK18 (by decide) 2 (.int .u64 x.f2)
              have s2_BK9 := blk_far s1_BK9 (p := ⟨gb18, 2, none⟩) NE_gb9_gb18.out (.int .u64 x.f2)
              have s2_BK14 := blk_far s1_BK14 (p := ⟨gb18, 2, none⟩) NE_gb14_gb18.out (.int .u64 x.f2)
              have s2_BK15 := blk_far s1_BK15 (p := ⟨gb18, 2, none⟩) NE_gb15_gb18.out (.int .u64 x.f2)
              have s2_BK18 := blk_put (cs' := #[.int .i64 x.f0, .int .i64 x.f1, .int .u64 x.f2, .int .u64 0, .int .u8 0, .int .i64 0]) s1_BK18 2 (.int .u64 x.f2) rfl
              have s2_HB := below_set (j := 2) (v := .int .u64 x.f2) s1_HB GE_gb18.out
              have s3_HO2 := far_set (p := ⟨gb18, 3, none⟩) s2_HO2 (X2.out) (.int .u64 x.f3)
              have s3_HO3 := far_set (p := ⟨gb18, 3, none⟩) s2_HO3 (X3.out) (.int .u64 x.f3)
              have s3_HJ := Kd.R_set s2_HJ s2_BK18 (by decide) 3 (.int .u64 x.f3)
              have s3_HN := Kd.R_set s2_HN s2_BK18 (by decide) 3 (.int .u64 x.f3)
              have s3_BK9 := blk_far s2_BK9 (p := ⟨gb18, 3, none⟩) NE_gb9_gb18.out (.int .u64 x.f3)
              have s3_BK14 := blk_far s2_BK14 (p := ⟨gb18, 3, none⟩) NE_gb14_gb18.out (.int .u64 x.f3)
              have s3_BK15 := blk_far s2_BK15 (p := ⟨gb18, 3, none⟩) NE_gb15_gb18.out (.int .u64 x.f3)
              have s3_BK18 := blk_put (cs' := #[.int .i64 x.f0, .int .i64 x.f1, .int .u64 x.f2, .int .u64 x.f3, .int .u8 0, .int .i64 0]) s2_BK18 3 (.int .u64 x.f3) rfl
              have s3_HB := below_set (j := 3) (v := .int .u64 x.f3) s2_HB GE_gb18.out
              have s4_HO2 := far_set (p := ⟨gb18, 4, none⟩) s3_HO2 (X2.out) (.int .u8 3)
              have s4_HO3 := far_set (p := ⟨gb18, 4, none⟩) s3_HO3 (X3.out) (.int .u8 3)
              have s4_HJ := Kd.R_set s3_HJ s3_BK18 (by decide) 4 (.int .u8 3)
              have s4_HN := Kd.R_set s3_HN s3_BK18 (by decide) 4 (.int .u8 3)
              have s4_BK9 := blk_far s3_BK9 (p := ⟨gb18, 4, none⟩) NE_gb9_gb18.out (.int .u8 3)
              have s4_BK14 := blk_far s3_BK14 (p := ⟨gb18, 4, none⟩) NE_gb14_gb18.out (.int .u8 3)
              have s4_BK15 := blk_far s3_BK15 (p := ⟨gb18, 4, none⟩) NE_gb15_gb18.out (.int .u8 3)
              have s4_BK18 := blk_put (cs' := #[.int .i64 x.f0, .int .i64 x.f1, .int .u64 x.f2, .int .u64 x.f3, .int .u8 3, .int .i64 0]) s3_BK18 4 (.int .u8 3) rfl
              have s4_HB := below_set (j := 4) (v := .int .u8 3) s3_HB GE_gb18.out
              have s5_HO2 := far_set (p := ⟨gb18, 5, none⟩) s4_HO2 (X2.out) (.int .i64 o.f5)
              have s5_HO3 := far_set (p := ⟨gb18, 5, none⟩) s4_HO3 (X3.out) (.int .i64 o.f5)
              have s5_HJ := Kd.R_set s4_HJ s4_BK18 (by decide) 5 (.int .i64 o.f5)
              have s5_HN := Kd.R_set s4_HN s4_BK18 (by decide) 5 (.int .i64 o.f5)
              have s5_BK9 := blk_far s4_BK9 (p := ⟨gb18, 5, none⟩) NE_gb9_gb18.out (.int .i64 o.f5)
              have s5_BK14 := blk_far s4_BK14 (p := ⟨gb18, 5, none⟩) NE_gb14_gb18.out (.int .i64 o.f5)
              have s5_BK15 := blk_far s4_BK15 (p := ⟨gb18, 5, none⟩) NE_gb15_gb18.out (.int .i64 o.f5)
              have s5_BK18 := blk_put (cs' := #[.int .i64 x.f0, .int .i64 x.f1, .int .u64 x.f2, .int .u64 x.f3, .int .u8 3, .int .i64 o.f5]) s4_BK18 5 (.int .i64 o.f5) rfl
              have s5_HB := below_set (j := 5) (v := .int .i64 o.f5) s4_HB GE_gb18.out
              have n_BK9 := Aside0.mk s5_BK9
              have n_BK14 := Aside0.mk s5_BK14
              have n_BK15 := Aside0.mk s5_BK15
              have n_BK18 := Aside0.mk s5_BK18
              have n_HO2 := Aside0.mk s5_HO2
              have n_HO3 := Aside0.mk s5_HO3
              have n_HJ := Aside0.mk s5_HJ
              have n_HN := Aside0.mk s5_HN
              have n_HB := Aside0.mk s5_HB
              clear s0_BK9 s0_BK14 s0_BK15 s0_BK18 s0_HO2 s0_HO3 s0_HJ s0_HN s0_HB
              clear s1_BK9 s1_BK14 s1_BK15 s1_BK18 s1_HO2 s1_HO3 s1_HJ s1_HN s1_HB
              clear s2_BK9 s2_BK14 s2_BK15 s2_BK18 s2_HO2 s2_HO3 s2_HJ s2_HN s2_HB
              clear s3_BK9 s3_BK14 s3_BK15 s3_BK18 s3_HO2 s3_HO3 s3_HJ s3_HN s3_HB
              clear s4_BK9 s4_BK14 s4_BK15 s4_BK18 s4_HO2 s4_HO3 s4_HJ s4_HN s4_HB
              clear s5_BK9 s5_BK14 s5_BK15 s5_BK18 s5_HO2 s5_HO3 s5_HJ s5_HN s5_HB
              clear BK9 BK14 BK15 BK18 HO2 HO3 HJ HN HB
              generalize ((((((w3.setCell ⟨gb18, 0, none⟩ (.int .i64 x.f0)).setCell ⟨gb18, 1, none⟩ (.int .i64 x.f1)).setCell ⟨gb18, 2, none⟩ (.int .u64 x.f2)).setCell ⟨gb18, 3, none⟩ (.int .u64 x.f3)).setCell ⟨gb18, 4, none⟩ (.int .u8 3)).setCell ⟨gb18, 5, none⟩ (.int .i64 o.f5)) = w4 at n_BK9 n_BK14 n_BK15 n_BK18 n_HO2 n_HO3 n_HJ n_HN n_HB ⊢
              have BK9 := n_BK9
              have BK14 := n_BK14
              have BK15 := n_BK15
              have BK18 := n_BK18
              have HO2 := n_HO2
              have HO3 := n_HO3
              have HJ := n_HJ
              have HN := n_HN
              have HB := n_HB
              clear n_BK9 n_BK14 n_BK15 n_BK18 n_HO2 n_HO3 n_HJ n_HN n_HB
              have bk9_0 := (blk_cell BK9.out 0).trans (show _ = some (.slice AL2 L2.length cL2) from rfl); have bk9_1 := (blk_cell BK9.out 1).trans (show _ = some (.slice AD2 D2.length cD2) from rfl); have bk9_2 := (blk_cell BK9.out 2).trans (show _ = some (.int .i64 g2) from rfl); have bk14_0 := (blk_cell BK14.out 0).trans (show _ = some (.int .u8 o.f0) from rfl); have bk14_1 := (blk_cell BK14.out 1).trans (show _ = some (.int .i64 o.f1) from rfl); have bk14_2 := (blk_cell BK14.out 2).trans (show _ = some (.int .i64 o.f2) from rfl); have bk14_3 := (blk_cell BK14.out 3).trans (show _ = some (.int .i64 o.f3) from rfl); have bk14_4 := (blk_cell BK14.out 4).trans (show _ = some (.int .u64 o.f4) from rfl); have bk14_5 := (blk_cell BK14.out 5).trans (show _ = some (.int .i64 o.f5) from rfl); have bk15_0 := (blk_cell BK15.out 0).trans (show _ = some (.slice AL L.length cL) from rfl); have bk15_1 := (blk_cell BK15.out 1).trans (show _ = some (.slice AD D.length cD) from rfl); have bk15_2 := (blk_cell BK15.out 2).trans (show _ = some (.int .i64 g) from rfl); have bk18_0 := (blk_cell BK18.out 0).trans (show _ = some (.int .i64 x.f0) from rfl); have bk18_1 := (blk_cell BK18.out 1).trans (show _ = some (.int .i64 x.f1) from rfl); have bk18_2 := (blk_cell BK18.out 2).trans (show _ = some (.int .u64 x.f2) from rfl); have bk18_3 := (blk_cell BK18.out 3).trans (show _ = some (.int .u64 x.f3) from rfl); have bk18_4 := (blk_cell BK18.out 4).trans (show _ = some (.int .u8 3) from rfl); have bk18_5 := (blk_cell BK18.out 5).trans (show _ = some (.int .i64 o.f5) from rfl); have bk9_f := fun i => blk_frozen BK9.out i; have bk14_f := fun i => blk_frozen BK14.out i; have bk15_f := fun i => blk_frozen BK15.out i; have bk18_f := fun i => blk_frozen BK18.out i
              go_wp2_with (first | ((with_reducible refine gate_builtin (b := .append) (xs := #[.tmp 93, .tmp 96]) rfl ?_); at_builtin; (refine Kd.R_append (Kd.int .i64) (w0 := w) w.heap.size rfl (.tmp 93) (.tmp 96) 36 3 (.int .i64 0) 8 rfl Try.underlying36 info3 rfl (by decide) (by omega) (.slice AN3 (dn ++ (X.take q).map S65.f0).length cN3) (dn ++ (X.take q).map S65.f0) x.f0 [.int .i64 x.f0] (fun _ => True) (fun _ => False) (by first | rfl | (go_simp; done)) (by first | rfl | (go_simp; done)) rfl (fun _ hk => hk.elim) (fun _ _ => trivial) HN.out HB.out (below_size HB.out) (by omega) ?_); intro v6 w6 ho hb hg hat; (rw [E2.out] at ho; have n_BK9 := Aside0.mk (blk_grown BK9.out hg (blk_rowG BK9.out HN.out (by decide))); have n_BK14 := Aside0.mk (blk_grown BK14.out hg (blk_rowG BK14.out HN.out (by decide))); have n_BK15 := Aside0.mk (blk_grown BK15.out hg (blk_rowG BK15.out HN.out (by decide))); have n_BK18 := Aside0.mk (blk_grown BK18.out hg (blk_rowG BK18.out HN.out (by decide))); have n_HO2 := Aside0.mk (Kd.R_over' HO2.out (Kd.R_typed HN.out) (by decide) hg); have n_HO3 := Aside0.mk (Kd.R_over' HO3.out (Kd.R_typed HN.out) (by decide) hg); have n_HJ := Aside0.mk (Kd.R_grown2 HJ.out rfl hg (ap1 HAP.out)); obtain ⟨AN4, cN4, ev⟩ := Kd.R_slice ho; subst ev; have n_HAP : Aside0 ((.slice AJ3 jn2.length cJ3 : Value).ownBlock = none ∨ (.slice AJ3 jn2.length cJ3 : Value).ownBlock ≠ (.slice AN4 (dn ++ (X.take (q + 1)).map S65.f0).length cN4 : Value).ownBlock) := ⟨ap_hat2 HAP.out hat HJ.out⟩; have n_HN := Aside0.mk ho; have n_HB := Aside0.mk hb; have bk14_5 := (blk_cell n_BK14.out 5).trans (show _ = some (.int .i64 o.f5) from rfl); have bk18_4 := (blk_cell n_BK18.out 4).trans (show _ = some (.int .u8 3) from rfl); have bk18_5 := (blk_cell n_BK18.out 5).trans (show _ = some (.int .i64 o.f5) from rfl)); clear ho hb hg hat))
              go_roundw
              case rel => exact ⟨q + 1, AN4, cN4, by omega, by go_num, by simp only [List.length_append, List.length_map, List.length_take], n_BK9, n_BK14, n_BK15, n_HO2, n_HO3, n_HJ, n_HN, n_HAP, n_HB⟩
              case measure => simp [intOf]; omega
            · obtain rfl : q = X.length := by omega
              go_wp2
              go_meet
              case rel => exact ⟨AN3, cN3, by rw [← HD2.out, List.take_length], BK9, BK14, BK15, HO2, HO3, HJ, by rw [← HD2.out]; rw [List.take_length] at HN; exact HN, by rw [← HD2.out]; rw [List.take_length] at HAP; exact HAP, HB⟩
        case false =>
          have hdn := of_decide_eq_false BD.out
          obtain rfl : dn = dn2 := by rw [← HD2.out, P4.out hdn, List.map_nil, List.append_nil]
          clear hdn
          go_wp2
          go_meet
          case rel => exact ⟨AN, cN, rfl, BK9, BK14, BK15, HO2, HO3, HJ, HN, HAP, HB⟩
      case rest =>
      clear BK9 BK14 BK15 HO2 HO3 HJ HN HAP HB bk9_0 bk9_1 bk9_2 bk9_f bk14_0 bk14_1 bk14_2 bk14_3 bk14_4 bk14_5 bk14_f bk15_0 bk15_1 bk15_2 bk15_f
      obtain ⟨AN3, cN3, rfl, BK9, BK14, BK15, HO2, HO3, HJ, HN, HAP, HB⟩ := hcut
      rename World => wc2
      clear BJ BD HJ2 HD2 P1 P2 P3 P4 P5 hjn hLD hdl
      have bk9_0 := (blk_cell BK9.out 0).trans (show _ = some (.slice AL2 L2.length cL2) from rfl); have bk9_1 := (blk_cell BK9.out 1).trans (show _ = some (.slice AD2 D2.length cD2) from rfl); have bk9_2 := (blk_cell BK9.out 2).trans (show _ = some (.int .i64 g2) from rfl); have bk14_0 := (blk_cell BK14.out 0).trans (show _ = some (.int .u8 o.f0) from rfl); have bk14_1 := (blk_cell BK14.out 1).trans (show _ = some (.int .i64 o.f1) from rfl); have bk14_2 := (blk_cell BK14.out 2).trans (show _ = some (.int .i64 o.f2) from rfl); have bk14_3 := (blk_cell BK14.out 3).trans (show _ = some (.int .i64 o.f3) from rfl); have bk14_4 := (blk_cell BK14.out 4).trans (show _ = some (.int .u64 o.f4) from rfl); have bk14_5 := (blk_cell BK14.out 5).trans (show _ = some (.int .i64 o.f5) from rfl); have bk15_0 := (blk_cell BK15.out 0).trans (show _ = some (.slice AL L.length cL) from rfl); have bk15_1 := (blk_cell BK15.out 1).trans (show _ = some (.slice AD D.length cD) from rfl); have bk15_2 := (blk_cell BK15.out 2).trans (show _ = some (.int .i64 g) from rfl); have bk9_f := fun i => blk_frozen BK9.out i; have bk14_f := fun i => blk_frozen BK14.out i; have bk15_f := fun i => blk_frozen BK15.out i
      go_wp2
      clear bk9_0 bk9_1 bk9_2 bk9_f bk14_0 bk14_1 bk14_2 bk14_3 bk14_4 bk14_5 bk14_f bk15_0 bk15_1 bk15_2 bk15_f
      have HBo := HB
      clear HB
      go_loopw [19, 20, 112] (fun v19 v20 v112 wr => ∃ q : Nat, q ≤ L2.length ∧ v112 = .int .i64 q ∧ v19 = .int .u64 (sumT g g2 L2 q) ∧ v20 = .int .u64 (sumU g g2 L2 q) ∧ Aside0 (Below wc2.heap.size wc2 wr)) (fun v19 v20 v112 _ => L2.length - (intOf v112).toNat)
      case atStart => exact ⟨0, Nat.zero_le _, rfl, by rw [sumT_zero], by rw [sumU_zero], ⟨by repeat (first | exact Below.refl _ _ | apply pw_below_drewN | apply below_drew1)⟩⟩
      case round =>
        obtain ⟨q, hq, rfl, rfl, rfl, HB⟩ := hrel
        rename World => wq
        have BKz := Aside0.mk (blk_below (g := gb9) (o := .cells #[.slice AL2 L2.length cL2, .slice AD2 D2.length cD2, .int .i64 g2] 58 (0, 0)) BK9.out HB.out)
        have BKy := Aside0.mk (blk_below (g := gb15) (o := .cells #[.slice AL L.length cL, .slice AD D.length cD, .int .i64 g] 58 (0, 0)) BK15.out HB.out)
        by_cases hlq : q < L2.length
        · obtain ⟨ad2, e2, hy0, hy1, hy2, hy3, hy4, hy5⟩ := at_T65 (Kd.R_reads' HO2.out).2.2 (q : Int) (by omega) (by omega)
          subst e2
          replace hy0 := (HB.out.cell (World.block_lt_of_cell? wc2 _ hy0)).trans hy0
          replace hy1 := (HB.out.cell (World.block_lt_of_cell? wc2 _ hy1)).trans hy1
          replace hy2 := (HB.out.cell (World.block_lt_of_cell? wc2 _ hy2)).trans hy2
          replace hy3 := (HB.out.cell (World.block_lt_of_cell? wc2 _ hy3)).trans hy3
          replace hy4 := (HB.out.cell (World.block_lt_of_cell? wc2 _ hy4)).trans hy4
          replace hy5 := (HB.out.cell (World.block_lt_of_cell? wc2 _ hy5)).trans hy5
          have hb0 := sumT_b HF2.out g g2 q
          have hb1 := sumU_b HF2.out g g2 q
          have hst := sums_step g g2 L2 q hlq hg20
          have hfm := fine_at HF2.out q hlq
          simp only [rd65_nat, Int.toNat_natCast] at hy0 hy1 hy2 hy3 hy4 hy5
          have hf3 : (g = 0 → (q : Int) < g2 → (L2.getD q z65).f3 = last + sumT g g2 L2 q + 1) ∧ (g2 ≤ (q : Int) → (L2.getD q z65).f3 = 0) := ⟨fun hg hl => by rw [sumT_at hg (by omega)]; exact (P7.out hg).1 q hl, fun hl => OR2.out.late q hl hlq⟩
          generalize L2.getD q z65 = x at hy0 hy1 hy2 hy3 hy4 hy5 hst hfm hf3
          obtain ⟨⟨hm1, hm2⟩, hm3, hm4⟩ := hfm
          obtain ⟨tq, htq⟩ : ∃ tq, sumT g g2 L2 q = tq := ⟨_, rfl⟩
          obtain ⟨uq, huq⟩ : ∃ uq, sumU g g2 L2 q = uq := ⟨_, rfl⟩
          rw [htq] at hb0 hst hf3 ⊢
          rw [huq] at hb1 hst ⊢
          have HST := Aside0.mk hst
          have HF3 := Aside0.mk hf3
          obtain ⟨hb00, hb01⟩ := hb0
          obtain ⟨hb10, hb11⟩ := hb1
          clear hst hf3 htq huq
          have bkz_0 := (blk_cell BKz.out 0).trans (show _ = some (.slice (some ad2) L2.length cL2) from rfl); have bkz_1 := (blk_cell BKz.out 1).trans (show _ = some (.slice AD2 D2.length cD2) from rfl); have bkz_2 := (blk_cell BKz.out 2).trans (show _ = some (.int .i64 g2) from rfl); have bky_0 := (blk_cell BKy.out 0).trans (show _ = some (.slice AL L.length cL) from rfl); have bky_1 := (blk_cell BKy.out 1).trans (show _ = some (.slice AD D.length cD) from rfl); have bky_2 := (blk_cell BKy.out 2).trans (show _ = some (.int .i64 g) from rfl); have bkz_f := fun i => blk_frozen BKz.out i; have bky_f := fun i => blk_frozen BKy.out i
          go_upto_region 25 with (first | ((with_reducible refine gate_dst (N := 22) rfl ?_); refine box_event ?hg (N := 22) ?hd (cs := #[.int .i64 0, .int .i64 0, .int .u64 0, .int .u64 0, .int .u8 0, .int .i64 0]) (t := 65) ?hr ?_; (case hd => rfl); (case hg => rfl); (case hr => first | (go_simp; done) | (go_simp; rfl)); intro gb22 hg w3 hbox hb; have NE_gb9_gb22 := Aside0.mk (show gb9 ≠ gb22 from by rw [hg]; exact Nat.ne_of_lt (blk_lt (o := .cells #[.slice (some ad2) L2.length cL2, .slice AD2 D2.length cD2, .int .i64 g2] 58 (0, 0)) (by (with_reducible repeat (first | refine blk_drewN ?_ _ | refine blk_drew ?_ | refine blk_alloc ?_ _)); exact BKz.out))); have NE_gb15_gb22 := Aside0.mk (show gb15 ≠ gb22 from by rw [hg]; exact Nat.ne_of_lt (blk_lt (o := .cells #[.slice AL L.length cL, .slice AD D.length cD, .int .i64 g] 58 (0, 0)) (by (with_reducible repeat (first | refine blk_drewN ?_ _ | refine blk_drew ?_ | refine blk_alloc ?_ _)); exact BKy.out))); have GE_gb22 := Aside0.mk (show wc2.heap.size ≤ gb22 from by rw [hg]; exact below_size (by repeat (first | (with_reducible first | exact HB.out | apply below_alloc | apply pw_below_drewN | apply below_drew1) | exact HB.out))); clear hg; have n_BKz := Aside0.mk (blk_below (g := gb9) (o := .cells #[.slice (some ad2) L2.length cL2, .slice AD2 D2.length cD2, .int .i64 g2] 58 (0, 0)) (by (with_reducible repeat (first | refine blk_drewN ?_ _ | refine blk_drew ?_ | refine blk_alloc ?_ _)); exact BKz.out) hb); have n_BKy := Aside0.mk (blk_below (g := gb15) (o := .cells #[.slice AL L.length cL, .slice AD D.length cD, .int .i64 g] 58 (0, 0)) (by (with_reducible repeat (first | refine blk_drewN ?_ _ | refine blk_drew ?_ | refine blk_alloc ?_ _)); exact BKy.out) hb); have n_HB := Aside0.mk (below_step (by repeat (first | (with_reducible first | exact HB.out | apply below_alloc | apply pw_below_drewN | apply below_drew1) | exact HB.out)) hb); clear bkz_0 bkz_1 bkz_2 bkz_f bky_0 bky_1 bky_2 bky_f; clear BKz BKy HB hb; have BKz := n_BKz; have BKy := n_BKy; have HB := n_HB; clear n_BKz n_BKy n_HB; have BK22 := Aside0.mk hbox; clear hbox; have bkz_0 := (blk_cell BKz.out 0).trans (show _ = some (.slice (some ad2) L2.length cL2) from rfl); have bkz_1 := (blk_cell BKz.out 1).trans (show _ = some (.slice AD2 D2.length cD2) from rfl); have bkz_2 := (blk_cell BKz.out 2).trans (show _ = some (.int .i64 g2) from rfl); have bky_0 := (blk_cell BKy.out 0).trans (show _ = some (.slice AL L.length cL) from rfl); have bky_1 := (blk_cell BKy.out 1).trans (show _ = some (.slice AD D.length cD) from rfl); have bky_2 := (blk_cell BKy.out 2).trans (show _ = some (.int .i64 g) from rfl); have bk22_0 := (blk_cell BK22.out 0).trans (show _ = some (.int .i64 0) from rfl); have bk22_1 := (blk_cell BK22.out 1).trans (show _ = some (.int .i64 0) from rfl); have bk22_2 := (blk_cell BK22.out 2).trans (show _ = some (.int .u64 0) from rfl); have bk22_3 := (blk_cell BK22.out 3).trans (show _ = some (.int .u64 0) from rfl); have bk22_4 := (blk_cell BK22.out 4).trans (show _ = some (.int .u8 0) from rfl); have bk22_5 := (blk_cell BK22.out 5).trans (show _ = some (.int .i64 0) from rfl); have bkz_f := fun i => blk_frozen BKz.out i; have bky_f := fun i => blk_frozen BKy.out i; have bk22_f := fun i => blk_frozen BK22.out i))
          clear hy0 hy1 hy2 hy3 hy4 hy5
          clear bkz_0 bkz_1 bkz_2 bkz_f bky_0 bky_1 bky_2 bky_f bk22_0 bk22_1 bk22_2 bk22_3 bk22_4 bk22_5 bk22_f
          have s0_BKz := blk_far BKz.out (p := ⟨gb22, 0, none⟩) NE_gb9_gb22.out (.int .i64 x.f0)
          have s0_BKy := blk_far BKy.out (p := ⟨gb22, 0, none⟩) NE_gb15_gb22.out (.int .i64 x.f0)
          have s0_BK22 := blk_put (cs' := #[.int .i64 x.f0, .int .i64 0, .int .u64 0, .int .u64 0, .int .u8 0, .int .i64 0]) BK22.out 0 (.int .i64 x.f0) rfl
          have s0_HB := below_set (j := 0) (v := .int .i64 x.f0) HB.out GE_gb22.out
          have s1_BKz := blk_far s0_BKz (p := ⟨gb22, 1, none⟩) NE_gb9_gb22.out (.int .i64 x.f1)
          have s1_BKy := blk_far s0_BKy (p := ⟨gb22, 1, none⟩) NE_gb15_gb22.out (.int .i64 x.f1)
          have s1_BK22 := blk_put (cs' := #[.int .i64 x.f0, .int .i64 x.f1, .int .u64 0, .int .u64 0, .int .u8 0, .int .i64 0]) s0_BK22 1 (.int .i64 x.f1) rfl
          have s1_HB := below_set (j := 1) (v := .int .i64 x.f1) s0_HB GE_gb22.out
          have s2_BKz := blk_far s1_BKz (p := ⟨gb22, 2, none⟩) NE_gb9_gb22.out (.int .u64 x.f2)
          have s2_BKy := blk_far s1_BKy (p := ⟨gb22, 2, none⟩) NE_gb15_gb22.out (.int .u64 x.f2)
          have s2_BK22 := blk_put (cs' := #[.int .i64 x.f0, .int .i64 x.f1, .int .u64 x.f2, .int .u64 0, .int .u8 0, .int .i64 0]) s1_BK22 2 (.int .u64 x.f2) rfl
          have s2_HB := below_set (j := 2) (v := .int .u64 x.f2) s1_HB GE_gb22.out
          have s3_BKz := blk_far s2_BKz (p := ⟨gb22, 3, none⟩) NE_gb9_gb22.out (.int .u64 x.f3)
          have s3_BKy := blk_far s2_BKy (p := ⟨gb22, 3, none⟩) NE_gb15_gb22.out (.int .u64 x.f3)
          have s3_BK22 := blk_put (cs' := #[.int .i64 x.f0, .int .i64 x.f1, .int .u64 x.f2, .int .u64 x.f3, .int .u8 0, .int .i64 0]) s2_BK22 3 (.int .u64 x.f3) rfl
          have s3_HB := below_set (j := 3) (v := .int .u64 x.f3) s2_HB GE_gb22.out
          have s4_BKz := blk_far s3_BKz (p := ⟨gb22, 4, none⟩) NE_gb9_gb22.out (.int .u8 x.f4)
          have s4_BKy := blk_far s3_BKy (p := ⟨gb22, 4, none⟩) NE_gb15_gb22.out (.int .u8 x.f4)
          have s4_BK22 := blk_put (cs' := #[.int .i64 x.f0, .int .i64 x.f1, .int .u64 x.f2, .int .u64 x.f3, .int .u8 x.f4, .int .i64 0]) s3_BK22 4 (.int .u8 x.f4) rfl
          have s4_HB := below_set (j := 4) (v := .int .u8 x.f4) s3_HB GE_gb22.out
          have s5_BKz := blk_far s4_BKz (p := ⟨gb22, 5, none⟩) NE_gb9_gb22.out (.int .i64 x.f5)
          have s5_BKy := blk_far s4_BKy (p := ⟨gb22, 5, none⟩) NE_gb15_gb22.out (.int .i64 x.f5)
          have s5_BK22 := blk_put (cs' := #[.int .i64 x.f0, .int .i64 x.f1, .int .u64 x.f2, .int .u64 x.f3, .int .u8 x.f4, .int .i64 x.f5]) s4_BK22 5 (.int .i64 x.f5) rfl
          have s5_HB := below_set (j := 5) (v := .int .i64 x.f5) s4_HB GE_gb22.out
          have n_BKz := Aside0.mk s5_BKz
          have n_BKy := Aside0.mk s5_BKy
          have n_BK22 := Aside0.mk s5_BK22
          have n_HB := Aside0.mk s5_HB
          clear s0_BKz s0_BKy s0_BK22 s0_HB
          clear s1_BKz s1_BKy s1_BK22 s1_HB
          clear s2_BKz s2_BKy s2_BK22 s2_HB
          clear s3_BKz s3_BKy s3_BK22 s3_HB
          clear s4_BKz s4_BKy s4_BK22 s4_HB
          clear s5_BKz s5_BKy s5_BK22 s5_HB
          clear BKz BKy BK22 HB
          generalize ((((((w3.setCell ⟨gb22, 0, none⟩ (.int .i64 x.f0)).setCell ⟨gb22, 1, none⟩ (.int .i64 x.f1)).setCell ⟨gb22, 2, none⟩ (.int .u64 x.f2)).setCell ⟨gb22, 3, none⟩ (.int .u64 x.f3)).setCell ⟨gb22, 4, none⟩ (.int .u8 x.f4)).setCell ⟨gb22, 5, none⟩ (.int .i64 x.f5)) = w4 at n_BKz n_BKy n_BK22 n_HB ⊢
          have BKz := n_BKz
          have BKy := n_BKy
          have BK22 := n_BK22
          have HB := n_HB
          clear n_BKz n_BKy n_BK22 n_HB
          have bkz_0 := (blk_cell BKz.out 0).trans (show _ = some (.slice (some ad2) L2.length cL2) from rfl); have bkz_1 := (blk_cell BKz.out 1).trans (show _ = some (.slice AD2 D2.length cD2) from rfl); have bkz_2 := (blk_cell BKz.out 2).trans (show _ = some (.int .i64 g2) from rfl); have bky_0 := (blk_cell BKy.out 0).trans (show _ = some (.slice AL L.length cL) from rfl); have bky_1 := (blk_cell BKy.out 1).trans (show _ = some (.slice AD D.length cD) from rfl); have bky_2 := (blk_cell BKy.out 2).trans (show _ = some (.int .i64 g) from rfl); have bk22_0 := (blk_cell BK22.out 0).trans (show _ = some (.int .i64 x.f0) from rfl); have bk22_1 := (blk_cell BK22.out 1).trans (show _ = some (.int .i64 x.f1) from rfl); have bk22_2 := (blk_cell BK22.out 2).trans (show _ = some (.int .u64 x.f2) from rfl); have bk22_3 := (blk_cell BK22.out 3).trans (show _ = some (.int .u64 x.f3) from rfl); have bk22_4 := (blk_cell BK22.out 4).trans (show _ = some (.int .u8 x.f4) from rfl); have bk22_5 := (blk_cell BK22.out 5).trans (show _ = some (.int .i64 x.f5) from rfl); have bkz_f := fun i => blk_frozen BKz.out i; have bky_f := fun i => blk_frozen BKy.out i; have bk22_f := fun i => blk_frozen BK22.out i
          by_cases hc1 : (q : Int) < g2
          · have d1 : decide ((q : Int) < g2) = true := decide_eq_true hc1
            have d2 : decide (g2 ≤ (q : Int)) = false := decide_eq_false (by omega)
            by_cases hc2 : g = 0
            · have d3 : (g == 0) = true := beq_iff_eq.2 hc2
              have hx3 := HF3.out.1 hc2 hc1
              have hs1 := (HST.out.1 ⟨hc2, hc1⟩).1
              have hs2 := (HST.out.1 ⟨hc2, hc1⟩).2
              have HS1 := Aside0.mk hs1
              have HS2 := Aside0.mk hs2
              rw [hx3] at bk22_3
              clear hs1 hs2 hx3 hc2
              go_upto_region 28 with (fail)
              go_quiet (fail)
              as_aux_lemma =>
              go_wp2
              go_roundw
              case rel => exact ⟨q + 1, by omega, by go_num, by rw [HS1.out], by rw [HS2.out], ⟨by repeat (first | exact HB.out | apply pw_below_drewN | apply below_drew1)⟩⟩
              case measure => simp [intOf]; omega
            · have d3 : (g == 0) = false := beq_false_of_ne hc2
              have hs1 := (HST.out.2 (fun h => hc2 h.1)).1
              have hs2 := (HST.out.2 (fun h => hc2 h.1)).2
              have HS1 := Aside0.mk hs1
              have HS2 := Aside0.mk hs2
              clear hs1 hs2 hc2
              as_aux_lemma =>
              go_wp2
              go_roundw
              case rel => exact ⟨q + 1, by omega, by go_num, by rw [HS1.out], by rw [HS2.out], ⟨by repeat (first | exact HB.out | apply pw_below_drewN | apply below_drew1)⟩⟩
              case measure => simp [intOf]; omega
          · have d1 : decide ((q : Int) < g2) = false := decide_eq_false hc1
            have d2 : decide (g2 ≤ (q : Int)) = true := decide_eq_true (by omega)
            have hx3 := HF3.out.2 (by omega)
            have hs1 := (HST.out.2 (fun h => hc1 h.2)).1
            have hs2 := (HST.out.2 (fun h => hc1 h.2)).2
            have HS1 := Aside0.mk hs1
            have HS2 := Aside0.mk hs2
            rw [hx3] at bk22_3
            clear hs1 hs2 hx3
            as_aux_lemma =>
            go_wp2
            go_roundw
            case rel => exact ⟨q + 1, by omega, by go_num, by rw [HS1.out], by rw [HS2.out], ⟨by repeat (first | exact HB.out | apply pw_below_drewN | apply below_drew1)⟩⟩
            case measure => simp [intOf]; omega
        · obtain rfl : q = L2.length := by omega
          have n_HO2 := Aside0.mk (Kd.R_below HO2.out HB.out)
          have n_HO3 := Aside0.mk (Kd.R_below HO3.out HB.out)
          have n_HJ := Aside0.mk (Kd.R_below HJ.out HB.out)
          have n_HN := Aside0.mk (Kd.R_below HN.out HB.out)
          have n_HB := Aside0.mk (below_step HBo.out HB.out)
          clear BK9 BK14 BK15 HO2 HO3 HJ HN HB HBo
          have BK9 := BKz; have BK15 := BKy; have HO2 := n_HO2; have HO3 := n_HO3; have HJ := n_HJ; have HN := n_HN; have HB := n_HB
          clear BKz BKy n_HO2 n_HO3 n_HJ n_HN n_HB
          have hb0 := sumT_b HF2.out g g2 L2.length
          have hb1 := sumU_b HF2.out g g2 L2.length
          have he := fun hg : g = 0 => sums_end (L := L2) hg hg21
          generalize sumT g g2 L2 L2.length = sT at hb0 he ⊢
          generalize sumU g g2 L2 L2.length = sU at hb1 he ⊢
          obtain ⟨hb00, hb01⟩ := hb0
          obtain ⟨hb10, hb11⟩ := hb1
          have HE := Aside0.mk he
          clear he
          have bk9_0 := (blk_cell BK9.out 0).trans (show _ = some (.slice AL2 L2.length cL2) from rfl); have bk9_1 := (blk_cell BK9.out 1).trans (show _ = some (.slice AD2 D2.length cD2) from rfl); have bk9_2 := (blk_cell BK9.out 2).trans (show _ = some (.int .i64 g2) from rfl); have bk15_0 := (blk_cell BK15.out 0).trans (show _ = some (.slice AL L.length cL) from rfl); have bk15_1 := (blk_cell BK15.out 1).trans (show _ = some (.slice AD D.length cD) from rfl); have bk15_2 := (blk_cell BK15.out 2).trans (show _ = some (.int .i64 g) from rfl); have bk9_f := fun i => blk_frozen BK9.out i; have bk15_f := fun i => blk_frozen BK15.out i
          go_upto_region 32 with (fail)
          go_cut [182] (fun v182 wx => v182 = .bool false ∧ wq = wx)
          case first =>
            by_cases hg : g = 0
            · have h7 := P7.out hg
              have he := HE.out hg
              rw [← he.1, ← he.2] at h7
              obtain rfl := h7.2.1
              have d1 : (g == 0) = true := beq_iff_eq.2 hg
              have d2 : decide (0 < g) = false := decide_eq_false (by omega)
              have d3 : decide (m0 < sT) = false := decide_eq_false (by omega)
              have d4 : decide (u0 < sU) = false := decide_eq_false (by omega)
              clear h7 he hg
              go_wp2
              go_meet
              case rel => exact ⟨rfl, rfl⟩
            · obtain rfl := P8.out (by omega)
              have d1 : (g == 0) = false := beq_false_of_ne hg
              have d2 : decide (0 < g) = true := decide_eq_true (by omega)
              clear hg
              go_wp2
              go_meet
              case rel => exact ⟨rfl, rfl⟩
          case rest =>
          obtain ⟨rfl, rfl⟩ := hcut
          clear P7 P8 HE hb00 hb01 hb10 hb11
          have hmm := @run_makeMap Try.prog
          go_upto_region 35 with (fail)
          clear hmm bk9_0 bk9_1 bk9_2 bk9_f bk15_0 bk15_1 bk15_2 bk15_f
          have OW := Aside0.mk (HIntMap.owns_made im66 wq)
          have hgw : w.heap.size ≤ wq.heap.size := below_size HB.out
          obtain ⟨gm, hgm⟩ : ∃ gm, wq.heap.size = gm := ⟨_, rfl⟩
          have G2 : Aside0 (some gm ≠ (.slice AL2 L2.length cL2 : Value).ownBlock) := ⟨ne_fresh HO2.out (by omega)⟩
          have G3 : Aside0 (some gm ≠ (.slice AD2 D2.length cD2 : Value).ownBlock) := ⟨ne_fresh HO3.out (by omega)⟩
          have GJ : Aside0 (some gm ≠ (.slice AJ3 jn2.length cJ3 : Value).ownBlock) := ⟨ne_fresh HJ.out (by omega)⟩
          have GN : Aside0 (some gm ≠ (.slice AN3 dn2.length cN3 : Value).ownBlock) := ⟨ne_fresh HN.out (by omega)⟩
          have G9 : Aside0 (gb9 ≠ gm) := ⟨by have := blk_lt BK9.out; omega⟩
          have GW : Aside0 (w.heap.size ≤ gm) := ⟨by omega⟩
          have n_BK9 := Aside0.mk (blk_alloc BK9.out (.map #[] 0))
          have n_HO2 := Aside0.mk (Kd.R_alloc HO2.out (.map #[] 0))
          have n_HO3 := Aside0.mk (Kd.R_alloc HO3.out (.map #[] 0))
          have n_HJ := Aside0.mk (Kd.R_alloc HJ.out (.map #[] 0))
          have n_HN := Aside0.mk (Kd.R_alloc HN.out (.map #[] 0))
          have n_HB := Aside0.mk (below_alloc HB.out (.map #[] 0))
          clear BK9 HO2 HO3 HJ HN HB
          have BK9 := n_BK9; have HO2 := n_HO2; have HO3 := n_HO3; have HJ := n_HJ; have HN := n_HN; have HB := n_HB
          clear n_BK9 n_HO2 n_HO3 n_HJ n_HN n_HB
          rw [hgm] at OW ⊢
          clear hgm hgw BK15
          generalize wq.alloc (.map #[] 0) = w40 at OW BK9 HO2 HO3 HJ HN HB ⊢
          refine start_ (n := 9) (S := fun w' => w'.cell? ⟨gb9, 0, none⟩ = some (.slice AL2 L2.length cL2) ∧ w'.cell? ⟨gb9, 1, none⟩ = some (.slice AD2 D2.length cD2) ∧ w'.cell? ⟨gb9, 2, none⟩ = some (.int .i64 g2)) (ds := []) #[false, false, false, false, false, false, false, false, false] (by kernel_rfl) rfl rfl ⟨(blk_cell (blk_drew BK9.out) 0).trans rfl, (blk_cell (blk_drew BK9.out) 1).trans rfl, (blk_cell (blk_drew BK9.out) 2).trans rfl⟩ (fun hHeld => ?_)
          refine with_tabW order35.tab order35.bits (fun HT_ HW_ => ?_)
          have n_OW : Aside0 (HIntMap.Owns im66 w40.drew gm 0 (fun _ => none)) := ⟨OW.out⟩
          clear OW
          have OW := n_OW
          clear n_OW
          have n_BK9 := Aside0.mk (blk_drew BK9.out)
          have n_HO2 := Aside0.mk (Kd.R_drew HO2.out)
          have n_HO3 := Aside0.mk (Kd.R_drew HO3.out)
          have n_HJ := Aside0.mk (Kd.R_drew HJ.out)
          have n_HN := Aside0.mk (Kd.R_drew HN.out)
          have n_HB := Aside0.mk (below_drew1 HB.out)
          clear BK9 HO2 HO3 HJ HN HB
          have BK9 := n_BK9; have HO2 := n_HO2; have HO3 := n_HO3; have HJ := n_HJ; have HN := n_HN; have HB := n_HB
          clear n_BK9 n_HO2 n_HO3 n_HJ n_HN n_HB
          generalize w40.drew = w41 at OW BK9 HO2 HO3 HJ HN HB hHeld ⊢
          refine pure_ (i := 1) (N := some 185) (v := ?_) (a' := ?_) #[false, true, false, false, false, false, false, false, false] rfl rfl (any_of HT_.out (by kernel_rfl)) (fun _ _ _ h => h) (Or.inl ⟨by rfl, ?_⟩) ?_ ?_
          rotate_left
          · intro w'
            go_simp
            with_reducible rfl
          rotate_left
          · simp only [Act.put, List.setIfInBounds_toArray, List.set_cons_zero, List.set_cons_succ, i64_w, i32_w]
            rfl
          refine take_ (i := 2) (N := some 186) (v := ?_) (a' := ?_) #[false, true, true, false, false, false, false, false, false] rfl rfl (take_ofW HT_.out HW_.out (by kernel_rfl)) (fun _ _ _ h => h) (Or.inl ⟨by rfl, ?_⟩) hHeld ?_ ?_
          rotate_left
          · rintro w' ⟨s0, s1, s2⟩
            go_simp
            with_reducible rfl
          rotate_left
          · simp only [Act.put, List.setIfInBounds_toArray, List.set_cons_zero, List.set_cons_succ, i64_w, i32_w]
            rfl
          refine pure_ (i := 4) (N := some 188) (v := ?_) (a' := ?_) #[false, true, true, false, true, false, false, false, false] rfl rfl (any_of HT_.out (by kernel_rfl)) (fun _ _ _ h => h) (Or.inl ⟨by rfl, ?_⟩) ?_ ?_
          rotate_left
          · intro w'
            go_simp
            with_reducible rfl
          rotate_left
          · simp only [Act.put, List.setIfInBounds_toArray, List.set_cons_zero, List.set_cons_succ, i64_w, i32_w]
            rfl
          refine take_ (i := 5) (N := some 189) (v := ?_) (a' := ?_) #[false, true, true, false, true, true, false, false, false] rfl rfl (take_ofW HT_.out HW_.out (by kernel_rfl)) (fun _ _ _ h => h) (Or.inl ⟨by rfl, ?_⟩) hHeld ?_ ?_
          rotate_left
          · rintro w' ⟨s0, s1, s2⟩
            go_simp
            with_reducible rfl
          rotate_left
          · simp only [Act.put, List.setIfInBounds_toArray, List.set_cons_zero, List.set_cons_succ, i64_w, i32_w]
            rfl
          refine pure_ (i := 8) (N := some 192) (v := ?_) (a' := ?_) #[false, true, true, false, true, true, false, false, true] rfl rfl (any_of HT_.out (by kernel_rfl)) (fun _ _ _ h => h) (Or.inl ⟨by rfl, ?_⟩) ?_ ?_
          rotate_left
          · intro w'
            go_simp
            with_reducible rfl
          rotate_left
          · simp only [Act.put, List.setIfInBounds_toArray, List.set_cons_zero, List.set_cons_succ, i64_w, i32_w]
            rfl
          refine one_ (i := 0) (N := some 184) #[true, true, true, false, true, true, false, false, true] rfl rfl (one_of HT_.out (by kernel_rfl)) (by decide) (fun K hK => ?_)
          have GLT := HIntMap.owns_lt OW.out
          refine Kd.R_lit_step k65 (w0 := w) w.heap.size 65 (by rfl) rfl (xs := ([] : List S65)) (inner := []) (ok := fun _ => True) (okp := fun _ => False) ?hrun ?hrep (fun _ hk => hk.elim) trivial HB.out (below_size HB.out) (by simp) ?_
          case hrun => first | (go_simp; done) | (go_simp; rfl)
          case hrep => exact Reps.none _ _
          intro v84 w42 ho hb hg hat
          have GV : Aside0 (some gm ≠ v84.ownBlock) := ⟨ne_new GLT hat⟩
          have V2 := Aside0.mk (apart_new HO2.out hat)
          have V3 := Aside0.mk (apart_new HO3.out hat)
          clear GLT
          have HV := Aside0.mk ho
          have n_OW := Aside0.mk (HIntMap.owns_kept OW.out hg (by simp))
          have n_BK9 := Aside0.mk (blk_grown BK9.out hg (by simp))
          have n_HO2 := Aside0.mk (Kd.R_grown2 HO2.out rfl hg (fun k hk => by cases hk))
          have n_HO3 := Aside0.mk (Kd.R_grown2 HO3.out rfl hg (fun k hk => by cases hk))
          have n_HJ := Aside0.mk (Kd.R_grown2 HJ.out rfl hg (fun k hk => by cases hk))
          have n_HN := Aside0.mk (Kd.R_grown2 HN.out rfl hg (fun k hk => by cases hk))
          have n_HB := Aside0.mk (hb)
          clear OW BK9 HO2 HO3 HJ HN HB
          have OW := n_OW; have BK9 := n_BK9; have HO2 := n_HO2; have HO3 := n_HO3; have HJ := n_HJ; have HN := n_HN; have HB := n_HB
          clear n_OW n_BK9 n_HO2 n_HO3 n_HJ n_HN n_HB
          clear ho hb hg hat
          refine hK.out _ _ ⟨(blk_cell BK9.out 0).trans rfl, (blk_cell BK9.out 1).trans rfl, (blk_cell BK9.out 2).trans rfl⟩ (fun hHeld => ?_)
          clear hK K
          refine norm_ (a' := ?_) ?_ ?_
          rotate_left
          · show Act.put _ (some 184) _ = _
            simp only [Act.put, List.setIfInBounds_toArray, List.set_cons_zero, List.set_cons_succ, i64_w, i32_w]
            rfl
          refine one_ (i := 3) (N := some 187) #[true, true, true, true, true, true, false, false, true] rfl rfl (one_of HT_.out (by kernel_rfl)) (by decide) (fun K hK => ?_)
          have GLT := HIntMap.owns_lt OW.out
          have HRX := Aside0.mk (Kd.R_reads' HO2.out).2.2
          refine Kd.R_append_rows_step k65 (w0 := w) w.heap.size rfl (.tmp 184) (.tmp 186) 56 65 (.agg #[.int .i64 0, .int .i64 0, .int .u64 0, .int .u64 0, .int .u8 0, .int .i64 0]) 48 rfl Try.underlying56 info65 rfl (by decide) (by omega) v84 ([] : List S65) L2 AL2 L2.length cL2 (fun _ => True) (fun _ => False) (by simp [Act.eval]) (by simp [Act.eval]) HV.out HRX.out (fun x cs hx => by rw [k65_open hx]; exact k65_mkM _ _ _ x) (fun _ hk => hk.elim) (fun _ _ => trivial) HB.out (below_size HB.out) (by simp only [List.length_nil, List.length_append]; omega) ?_
          intro v87 w43 ho hb hg hat
          have n_GV : Aside0 (some gm ≠ v87.ownBlock) := ⟨ne_hat GV.out GLT hat⟩
          have n_V2 := Aside0.mk (apart_hat V2.out HO2.out hat)
          have n_V3 := Aside0.mk (apart_hat V3.out HO3.out hat)
          have HV7 := Aside0.mk ho
          have n_OW := Aside0.mk (HIntMap.owns_kept OW.out hg GV.out)
          have n_BK9 := Aside0.mk (blk_grown BK9.out hg (blk_rowG BK9.out HV.out (by decide)))
          have n_HO2 := Aside0.mk (Kd.R_grown2 HO2.out rfl hg V2.out)
          have n_HO3 := Aside0.mk (Kd.R_grown2 HO3.out rfl hg V3.out)
          have n_HJ := Aside0.mk (Kd.R_over' HJ.out (Kd.R_typed HV.out) (by decide) hg)
          have n_HN := Aside0.mk (Kd.R_over' HN.out (Kd.R_typed HV.out) (by decide) hg)
          have n_HB := Aside0.mk (hb)
          clear OW BK9 HO2 HO3 HJ HN HB
          have OW := n_OW; have BK9 := n_BK9; have HO2 := n_HO2; have HO3 := n_HO3; have HJ := n_HJ; have HN := n_HN; have HB := n_HB
          clear n_OW n_BK9 n_HO2 n_HO3 n_HJ n_HN n_HB
          clear GV V2 V3 GLT HRX HV ho hb hg hat
          have GV := n_GV; have V2 := n_V2; have V3 := n_V3
          clear n_GV n_V2 n_V3
          refine hK.out _ _ ⟨(blk_cell BK9.out 0).trans rfl, (blk_cell BK9.out 1).trans rfl, (blk_cell BK9.out 2).trans rfl⟩ (fun hHeld => ?_)
          clear hK K
          refine norm_ (a' := ?_) ?_ ?_
          rotate_left
          · show Act.put _ (some 187) _ = _
            simp only [Act.put, List.setIfInBounds_toArray, List.set_cons_zero, List.set_cons_succ, i64_w, i32_w]
            rfl
          refine one_ (i := 6) (N := some 190) #[true, true, true, true, true, true, true, false, true] rfl rfl (one_of HT_.out (by kernel_rfl)) (by decide) (fun K hK => ?_)
          have GLT := HIntMap.owns_lt OW.out
          have HRX := Aside0.mk (Kd.R_reads' HO3.out).2.2
          refine Kd.R_append_rows_step k65 (w0 := w) w.heap.size rfl (.tmp 187) (.tmp 189) 56 65 (.agg #[.int .i64 0, .int .i64 0, .int .u64 0, .int .u64 0, .int .u8 0, .int .i64 0]) 48 rfl Try.underlying56 info65 rfl (by decide) (by omega) v87 ([] ++ L2) D2 AD2 D2.length cD2 (fun _ => True) (fun _ => False) (by simp [Act.eval]) (by simp [Act.eval]) HV7.out HRX.out (fun x cs hx => by rw [k65_open hx]; exact k65_mkM _ _ _ x) (fun _ hk => hk.elim) (fun _ _ => trivial) HB.out (below_size HB.out) (by simp only [List.length_nil, List.length_append]; omega) ?_
          intro v90 w44 ho hb hg hat
          have n_GV : Aside0 (some gm ≠ v90.ownBlock) := ⟨ne_hat GV.out GLT hat⟩
          have n_V2 := Aside0.mk (apart_hat V2.out HO2.out hat)
          have n_V3 := Aside0.mk (apart_hat V3.out HO3.out hat)
          have HV9 := Aside0.mk ho
          have n_OW := Aside0.mk (HIntMap.owns_kept OW.out hg GV.out)
          have n_BK9 := Aside0.mk (blk_grown BK9.out hg (blk_rowG BK9.out HV7.out (by decide)))
          have n_HO2 := Aside0.mk (Kd.R_grown2 HO2.out rfl hg V2.out)
          have n_HO3 := Aside0.mk (Kd.R_grown2 HO3.out rfl hg V3.out)
          have n_HJ := Aside0.mk (Kd.R_over' HJ.out (Kd.R_typed HV7.out) (by decide) hg)
          have n_HN := Aside0.mk (Kd.R_over' HN.out (Kd.R_typed HV7.out) (by decide) hg)
          have n_HB := Aside0.mk (hb)
          clear OW BK9 HO2 HO3 HJ HN HB
          have OW := n_OW; have BK9 := n_BK9; have HO2 := n_HO2; have HO3 := n_HO3; have HJ := n_HJ; have HN := n_HN; have HB := n_HB
          clear n_OW n_BK9 n_HO2 n_HO3 n_HJ n_HN n_HB
          clear GV V2 V3 GLT HRX HV7 ho hb hg hat
          have GV := n_GV; have V2 := n_V2; have V3 := n_V3
          clear n_GV n_V2 n_V3
          refine hK.out _ _ ⟨(blk_cell BK9.out 0).trans rfl, (blk_cell BK9.out 1).trans rfl, (blk_cell BK9.out 2).trans rfl⟩ (fun hHeld => ?_)
          clear hK K
          refine norm_ (a' := ?_) ?_ ?_
          rotate_left
          · show Act.put _ (some 190) _ = _
            simp only [Act.put, List.setIfInBounds_toArray, List.set_cons_zero, List.set_cons_succ, i64_w, i32_w]
            rfl
          obtain ⟨Mm, hMm⟩ : ∃ Mm, [] ++ L2 ++ D2 = Mm := ⟨_, rfl⟩
          rw [hMm] at HV9
          have HMM : Aside0 (Mm = L2 ++ D2) := ⟨by rw [← hMm, List.nil_append]⟩
          clear hMm
          obtain ⟨AM, cM, ev⟩ := Kd.R_slice HV9.out
          subst ev
          refine pure_ (i := 7) (N := some 191) (v := ?_) (a' := ?_) #[true, true, true, true, true, true, true, true, true] rfl rfl (any_of HT_.out (by kernel_rfl)) (fun _ _ _ h => h) (Or.inl ⟨by rfl, ?_⟩) ?_ ?_
          rotate_left
          · intro w'
            go_simp
            with_reducible rfl
          rotate_left
          · simp only [Act.put, List.setIfInBounds_toArray, List.set_cons_zero, List.set_cons_succ, i64_w, i32_w]
            rfl
          refine done_ (done_of HT_.out (by kernel_rfl)) ?_
          have hML : Mm.length = L2.length + D2.length := by rw [HMM.out, List.length_append]
          have HNOD : Aside0 ((Mm.map S65.f0).Nodup) := ⟨by rw [HMM.out]; exact HI2.out.nod⟩
          have HRNG : Aside0 (∀ x ∈ Mm, 0 ≤ x.f0 ∧ x.f0 < 20) := ⟨by rw [HMM.out]; exact HI2.out.rng⟩
          have hMl : Mm.length ≤ i + 1 := by omega
          clear hML HMM V2 V3
          go_wp2
          go_loopw [192] (fun v192 wr => ∃ (q n : Nat) (f : Int → Option Int), q ≤ Mm.length ∧ v192 = .int .i64 q ∧ n ≤ q ∧ Aside0 (Metf f ((Mm.take q).map S65.f0)) ∧ Aside0 (HIntMap.Owns im66 wr gm n f) ∧ Aside0 (wr.heap[gb9]? = some (.cells #[.slice AL2 L2.length cL2, .slice AD2 D2.length cD2, .int .i64 g2] 58 (0, 0))) ∧ Aside0 (Kd.R k65 65 wr w.heap.size (fun _ => True) (.slice AL2 L2.length cL2) L2) ∧ Aside0 (Kd.R k65 65 wr w.heap.size (fun _ => True) (.slice AD2 D2.length cD2) D2) ∧ Aside0 (Kd.R (Kd.int .i64) 3 wr w.heap.size (fun _ => True) (.slice AJ3 jn2.length cJ3) jn2) ∧ Aside0 (Kd.R (Kd.int .i64) 3 wr w.heap.size (fun _ => True) (.slice AN3 dn2.length cN3) dn2) ∧ Aside0 (Kd.R k65 65 wr w.heap.size (fun _ => True) (.slice AM Mm.length cM) Mm) ∧ Aside0 (Below w.heap.size w wr)) (fun v192 _ => Mm.length - (intOf v192).toNat)
          case atStart => exact ⟨0, 0, fun _ => none, Nat.zero_le _, rfl, Nat.zero_le _, ⟨fun x => by simp⟩, OW, BK9, HO2, HO3, HJ, HN, HV9, HB⟩
          case round =>
            clear OW BK9 HO2 HO3 HJ HN HV9 HB hHeld
            obtain ⟨q, n, f, hq, rfl, hnq, HMF, OW, BK9, HO2, HO3, HJ, HN, HV9, HBo⟩ := hrel
            rename World => wr0
            by_cases hlq : q < Mm.length
            · obtain ⟨ad2, e2, hy0, hy1, hy2, hy3, hy4, hy5⟩ := at_T65 (Kd.R_reads' HV9.out).2.2 (q : Int) (by omega) (by omega)
              subst e2
              simp only [rd65_nat, Int.toNat_natCast] at hy0 hy1 hy2 hy3 hy4 hy5
              have hfr := nod_fresh HNOD.out q hlq
              have hrg := HRNG.out _ (getD_mem65 hlq)
              have htk := take_map_succ S65.f0 z65 Mm q hlq
              generalize Mm.getD q z65 = x at hy0 hy1 hy2 hy3 hy4 hy5 hfr hrg htk
              have hfx : f x.f0 = none := by rw [HMF.out x.f0, if_neg hfr]
              have hwf : (Lit.int .i64 x.f0).wf = true := wf_in (by omega) (by omega)
              have HTK := Aside0.mk htk
              have HNX : Aside0 (n < maxLen) := ⟨by unfold maxLen; omega⟩
              clear hfr htk hrg
              have HB := Aside0.mk (Below.refl wr0.heap.size wr0)
              go_upto_region 38 with (first | ((with_reducible refine gate_dst (N := 25) rfl ?_); refine box_event ?hg (N := 25) ?hd (cs := #[.int .i64 0, .int .i64 0, .int .u64 0, .int .u64 0, .int .u8 0, .int .i64 0]) (t := 65) ?hr ?_; (case hd => rfl); (case hg => rfl); (case hr => first | (go_simp; done) | (go_simp; rfl)); intro gb25 hg w3 hbox hb; have GE_gb25 := Aside0.mk (show wr0.heap.size ≤ gb25 from by rw [hg]; exact below_size (by repeat (first | (with_reducible first | exact HB.out | apply below_alloc | apply pw_below_drewN | apply below_drew1) | exact HB.out))); clear hg; have n_HB := Aside0.mk (below_step (by repeat (first | (with_reducible first | exact HB.out | apply below_alloc | apply pw_below_drewN | apply below_drew1) | exact HB.out)) hb); skip; clear HB hb; have HB := n_HB; clear n_HB; have BK25 := Aside0.mk hbox; clear hbox; have bk25_0 := (blk_cell BK25.out 0).trans (show _ = some (.int .i64 0) from rfl); have bk25_1 := (blk_cell BK25.out 1).trans (show _ = some (.int .i64 0) from rfl); have bk25_2 := (blk_cell BK25.out 2).trans (show _ = some (.int .u64 0) from rfl); have bk25_3 := (blk_cell BK25.out 3).trans (show _ = some (.int .u64 0) from rfl); have bk25_4 := (blk_cell BK25.out 4).trans (show _ = some (.int .u8 0) from rfl); have bk25_5 := (blk_cell BK25.out 5).trans (show _ = some (.int .i64 0) from rfl); have bk25_f := fun i => blk_frozen BK25.out i))
              clear hy0 hy1 hy2 hy3 hy4 hy5
              clear bk25_0 bk25_1 bk25_2 bk25_3 bk25_4 bk25_5 bk25_f
              have s0_BK25 := blk_put (cs' := #[.int .i64 x.f0, .int .i64 0, .int .u64 0, .int .u64 0, .int .u8 0, .int .i64 0]) BK25.out 0 (.int .i64 x.f0) rfl
              have s0_HB := below_set (j := 0) (v := .int .i64 x.f0) HB.out GE_gb25.out
              have s1_BK25 := blk_put (cs' := #[.int .i64 x.f0, .int .i64 x.f1, .int .u64 0, .int .u64 0, .int .u8 0, .int .i64 0]) s0_BK25 1 (.int .i64 x.f1) rfl
              have s1_HB := below_set (j := 1) (v := .int .i64 x.f1) s0_HB GE_gb25.out
              have s2_BK25 := blk_put (cs' := #[.int .i64 x.f0, .int .i64 x.f1, .int .u64 x.f2, .int .u64 0, .int .u8 0, .int .i64 0]) s1_BK25 2 (.int .u64 x.f2) rfl
              have s2_HB := below_set (j := 2) (v := .int .u64 x.f2) s1_HB GE_gb25.out
              have s3_BK25 := blk_put (cs' := #[.int .i64 x.f0, .int .i64 x.f1, .int .u64 x.f2, .int .u64 x.f3, .int .u8 0, .int .i64 0]) s2_BK25 3 (.int .u64 x.f3) rfl
              have s3_HB := below_set (j := 3) (v := .int .u64 x.f3) s2_HB GE_gb25.out
              have s4_BK25 := blk_put (cs' := #[.int .i64 x.f0, .int .i64 x.f1, .int .u64 x.f2, .int .u64 x.f3, .int .u8 x.f4, .int .i64 0]) s3_BK25 4 (.int .u8 x.f4) rfl
              have s4_HB := below_set (j := 4) (v := .int .u8 x.f4) s3_HB GE_gb25.out
              have s5_BK25 := blk_put (cs' := #[.int .i64 x.f0, .int .i64 x.f1, .int .u64 x.f2, .int .u64 x.f3, .int .u8 x.f4, .int .i64 x.f5]) s4_BK25 5 (.int .i64 x.f5) rfl
              have s5_HB := below_set (j := 5) (v := .int .i64 x.f5) s4_HB GE_gb25.out
              have n_BK25 := Aside0.mk s5_BK25
              have n_HB := Aside0.mk s5_HB
              clear s0_BK25 s0_HB
              clear s1_BK25 s1_HB
              clear s2_BK25 s2_HB
              clear s3_BK25 s3_HB
              clear s4_BK25 s4_HB
              clear s5_BK25 s5_HB
              clear BK25 HB
              generalize ((((((w3.setCell ⟨gb25, 0, none⟩ (.int .i64 x.f0)).setCell ⟨gb25, 1, none⟩ (.int .i64 x.f1)).setCell ⟨gb25, 2, none⟩ (.int .u64 x.f2)).setCell ⟨gb25, 3, none⟩ (.int .u64 x.f3)).setCell ⟨gb25, 4, none⟩ (.int .u8 x.f4)).setCell ⟨gb25, 5, none⟩ (.int .i64 x.f5)) = w4 at n_BK25 n_HB ⊢
              have BK25 := n_BK25
              have HB := n_HB
              clear n_BK25 n_HB
              have bk25_0 := (blk_cell BK25.out 0).trans (show _ = some (.int .i64 x.f0) from rfl); have bk25_1 := (blk_cell BK25.out 1).trans (show _ = some (.int .i64 x.f1) from rfl); have bk25_2 := (blk_cell BK25.out 2).trans (show _ = some (.int .u64 x.f2) from rfl); have bk25_3 := (blk_cell BK25.out 3).trans (show _ = some (.int .u64 x.f3) from rfl); have bk25_4 := (blk_cell BK25.out 4).trans (show _ = some (.int .u8 x.f4) from rfl); have bk25_5 := (blk_cell BK25.out 5).trans (show _ = some (.int .i64 x.f5) from rfl); have bk25_f := fun i => blk_frozen BK25.out i
              have OWw := Aside0.mk (owns_below OW.out HB.out)
              have NGM : Aside0 (gb25 ≠ gm) := ⟨by have := HIntMap.owns_lt OW.out; have := GE_gb25.out; omega⟩
              go_wp2_with (first | (at_lookup; (with_reducible refine HIntMap.wp_look im66 _ rfl (.tmp 201) (.tmp 203) rfl gm (n + 1) (fun y => if y = x.f0 then some 1 else f y) ?h1 OW9.out x.f0 ?h2 hwf ?_); (case h1 => rfl); (case h2 => rfl)) | (at_lookup; (with_reducible refine HIntMap.wp_look im66 _ rfl (.tmp 196) (.tmp 198) rfl gm n f ?h1 OWw.out x.f0 ?h2 hwf ?_); (case h1 => rfl); (case h2 => rfl)) | (at_mapUpdate; ((with_reducible refine HIntMap.wp_store im66 _ rfl (.tmp 196) (.tmp 198) (.tmp 200) rfl gm n f ?sq1 OWw.out ?sq2 x.f0 1 ?sq3 ?sq4 hwf ?sq5 ?_); (case sq1 => rfl); (case sq2 => exact HNX.out); (case sq3 => rfl); (case sq4 => first | rfl | (go_simp; done)); (case sq5 => rfl); intro w9 ho9 hg9; have OW9 := Aside0.mk ho9; have m_BK9 := Aside0.mk (blk_grown (blk_below (g := gb9) (o := .cells #[.slice AL2 L2.length cL2, .slice AD2 D2.length cD2, .int .i64 g2] 58 (0, 0)) BK9.out HB.out) hg9 (fun q => G9.out (Option.some.inj q))); have m_HO2 := Aside0.mk (Kd.R_grown2 (Kd.R_below HO2.out HB.out) rfl hg9 (fun k hk => by rw [← hk]; exact G2.out)); have m_HO3 := Aside0.mk (Kd.R_grown2 (Kd.R_below HO3.out HB.out) rfl hg9 (fun k hk => by rw [← hk]; exact G3.out)); have m_HJ := Aside0.mk (Kd.R_grown2 (Kd.R_below HJ.out HB.out) rfl hg9 (fun k hk => by rw [← hk]; exact GJ.out)); have m_HN := Aside0.mk (Kd.R_grown2 (Kd.R_below HN.out HB.out) rfl hg9 (fun k hk => by rw [← hk]; exact GN.out)); have m_HM := Aside0.mk (Kd.R_grown2 (Kd.R_below HV9.out HB.out) rfl hg9 (fun k hk => by rw [← hk]; exact GV.out)); have m_HB := Aside0.mk (pw_below_grown (below_step HBo.out HB.out) _ (below_size (below_step HBo.out HB.out)) hg9 (fun k e => by cases e; exact GW.out)); have bk25_0 := (blk_cell (blk_grown BK25.out hg9 (fun q => NGM.out (Option.some.inj q))) 0).trans (show _ = some (.int .i64 x.f0) from rfl); clear ho9 hg9)))
              go_roundw
              case rel => exact ⟨q + 1, n + 1, _, by omega, by go_num, by omega, ⟨by rw [HTK.out]; exact met_put HMF.out _⟩, OW9, m_BK9, m_HO2, m_HO3, m_HJ, m_HN, m_HM, m_HB⟩
              case measure => simp [intOf]; omega
            · obtain rfl : q = Mm.length := by omega
              go_wp2
              go_roundw
              case rel => exact ⟨i + 1, L2, D2, g2, last2, jn2, dn2, AL2, cL2, AD2, cD2, AJ3, cJ3, AN3, cN3, by omega, by go_num, rfl, rfl, rfl, HI2, OR2, BK9, HO2, HO3, HJ, HN, HAP, HBo⟩
              case measure => simp [intOf]; omega
    · obtain rfl : i = l2.length := by omega
      have hdj : dn.length ≤ jn.length := by rw [HOR.out.all, List.length_append]; omega
      have hjn : jn.length ≤ l2.length := HOR.out.few
      have htk : jn.take dn.length = dn := by rw [HOR.out.all, List.take_left]
      obtain ⟨i3, hi3, hs3⟩ := Option.map_eq_some_iff.1 inf3
      have hcut3 := cut_to (P := Try.prog) 36 3 .i64 Try.underlying36 hi3 AJ jn.length cJ (dn.length : Int) (by omega) (by omega) (Kd.R_reads' HJ.out).2.1
      rw [Int.toNat_natCast] at hcut3
      have hct := Kd.C_take (Kd.R_reads' HJ.out).2.2 (m := dn.length) hdj
      rw [htk] at hct
      have HCT := Aside0.mk hct
      have HCC : Aside0 (dn.length ≤ cJ) := ⟨by have := (Kd.R_reads' HJ.out).2.1; omega⟩
      have HD3 : Aside0 (dn.length ≤ 1000) := ⟨by omega⟩
      clear htk hi3 hs3 hct
      go_wp2_with (first
        | (go_at_call 40; (with_reducible refine (ints_q _ _ _ _ dn _ (Kd.R_reads' HN.out).2.2 (Kd.R_reads' HN.out).2.1 HCT.out HCC.out HD3.out).mono ?_); rintro e w20 ⟨rfl, hbb⟩; have n0 := Aside0.mk (below_step HB.out hbb); clear HB; have HB := n0; clear n0 hbb)
        | (go_at_call 41; (with_reducible refine (ratlinelaw21_awake.calls true _ rfl).mono ?_); rintro e w20 ⟨rfl, hbb⟩; have n0 := Aside0.mk (below_step HB.out hbb); clear HB; have HB := n0; clear n0 hbb))
      go_ret
      exact ⟨rfl, HB.out⟩
#print axioms order_walk
end Go.Proofs.Ythlahhkjoocigaa.XQueue
