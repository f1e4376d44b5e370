/- The document's own answer for layer 21, walked by hand: what find, Of, Join, Apply, gone, Fail, Give, Take and End hand back. Conditions: rows in memory as they are, within 1000 members. -/
import Derived.Test.YthlahhkjoocigaaQHQueueAt
import Derived.Test.YthlahhkjoocigaaQHRef
namespace Go.Proofs.Ythlahhkjoocigaa.XQueue
open Go Go.RowKit Go.Proofs.YthlahhkjoocigaaW.PrintWords Go.Proofs.YthlahhkjoocigaaW.PrintLast Go.Proofs.YthlahhkjoocigaaW.PrintMore
attribute [local go_sem] max2_int min2_int max_two min_two max_three min_three max_four min_four
set_option linter.unusedVariables false
set_option linter.unusedSimpArgs false
theorem blk_c {W : World} {g ty : Nat} {cs : Array Value} {v : Value} (h : W.heap[g]? = some (.cells cs ty (0, 0))) (i : Nat) (e : cs[i]? = some v) : W.cell? ⟨g, i, none⟩ = some v := (blk_cell h i).trans e
theorem ap_hatG {α : Type} {d : Kd α} {e : Nat} {W : World} {v v1 v2 : Value} {base : Nat} {ok : Nat → Prop} {xs : List α} (h : v2.ownBlock = none ∨ v2.ownBlock ≠ v.ownBlock) (hat : v1.ownBlock = v.ownBlock ∨ ∃ b, v1.ownBlock = some b ∧ W.heap.size ≤ b) (h2 : d.R e W base ok v2 xs) : v2.ownBlock = none ∨ v2.ownBlock ≠ v1.ownBlock := by
  rcases hat with q | ⟨b, q, hb⟩
  · rw [q]; exact h
  · refine .inr (fun e2 => ?_)
    have := Kd.R_lt h2 b (e2.trans q)
    omega
theorem blk_rowG {α : Type} {d : Kd α} {e : Nat} {W : World} {base g t : Nat} {ok : Nat → Prop} {cs : Array Value} {v : Value} {xs : List α} (hb : W.heap[g]? = some (.cells cs t (0, 0))) (h : d.R e W base ok v xs) (ht : t ≠ e) : some g ≠ v.ownBlock := fun q => by
  obtain ⟨c, hc⟩ := Kd.R_typed h g q.symm
  exact blk_ne hb hc ht rfl
theorem blk_far3 {W : World} {g' g ty : Nat} {cs : Array Value} (h : W.heap[g']? = some (.cells cs ty (0, 0))) (ne : g' ≠ g) (a0 a1 a2 : Value) : (((W.setCell ⟨g, 0, none⟩ a0).setCell ⟨g, 1, none⟩ a1).setCell ⟨g, 2, none⟩ a2).heap[g']? = some (.cells cs ty (0, 0)) := blk_far (blk_far (blk_far h (p := ⟨g, 0, none⟩) ne a0) (p := ⟨g, 1, none⟩) ne a1) (p := ⟨g, 2, none⟩) ne a2
theorem blk_put3 {W : World} {g ty : Nat} {x0 x1 x2 : Value} (h : W.heap[g]? = some (.cells #[x0, x1, x2] ty (0, 0))) (a0 a1 a2 : Value) : (((W.setCell ⟨g, 0, none⟩ a0).setCell ⟨g, 1, none⟩ a1).setCell ⟨g, 2, none⟩ a2).heap[g]? = some (.cells #[a0, a1, a2] ty (0, 0)) := blk_put (cs' := #[a0, a1, a2]) (blk_put (cs' := #[a0, a1, x2]) (blk_put (cs' := #[a0, x1, x2]) (h) 0 a0 rfl) 1 a1 rfl) 2 a2 rfl
theorem far_set3 {W : World} {base g : Nat} {v : Value} {xs : List S65} (h : Kd.R k65 65 W base (fun _ => True) v xs) (hne : some g ≠ v.ownBlock) (a0 a1 a2 : Value) : Kd.R k65 65 (((W.setCell ⟨g, 0, none⟩ a0).setCell ⟨g, 1, none⟩ a1).setCell ⟨g, 2, none⟩ a2) base (fun _ => True) v xs := far_set (p := ⟨g, 2, none⟩) (far_set (p := ⟨g, 1, none⟩) (far_set (p := ⟨g, 0, none⟩) (h) hne a0) hne a1) hne a2
theorem far_int3 {W : World} {base g : Nat} {v : Value} {xs : List Int} (h : Kd.R (Kd.int .i64) 3 W base (fun _ => True) v xs) (hne : some g ≠ v.ownBlock) (a0 a1 a2 : Value) : Kd.R (Kd.int .i64) 3 (((W.setCell ⟨g, 0, none⟩ a0).setCell ⟨g, 1, none⟩ a1).setCell ⟨g, 2, none⟩ a2) base (fun _ => True) v xs := Kd.R_mono (Kd.R_far (p := ⟨g, 2, none⟩) (Kd.R_far1 (Kd.R_mono (Kd.R_far (p := ⟨g, 1, none⟩) (Kd.R_far1 (Kd.R_mono (Kd.R_far (p := ⟨g, 0, none⟩) (Kd.R_far1 (h) rfl hne) (fun _ hk => hk.2) a0) (fun _ hk => hk.1)) rfl hne) (fun _ hk => hk.2) a1) (fun _ hk => hk.1)) rfl hne) (fun _ hk => hk.2) a2) (fun _ hk => hk.1)
theorem below_set3 {w W : World} {g : Nat} (h : Below w.heap.size w W) (hg : w.heap.size ≤ g) (a0 a1 a2 : Value) : Below w.heap.size w (((W.setCell ⟨g, 0, none⟩ a0).setCell ⟨g, 1, none⟩ a1).setCell ⟨g, 2, none⟩ a2) := below_set (j := 2) (v := a2) (below_set (j := 1) (v := a1) (below_set (j := 0) (v := a0) (h) hg) hg) hg
theorem blk_far6 {W : World} {g' g ty : Nat} {cs : Array Value} (h : W.heap[g']? = some (.cells cs ty (0, 0))) (ne : g' ≠ g) (a0 a1 a2 a3 a4 a5 : Value) : ((((((W.setCell ⟨g, 0, none⟩ a0).setCell ⟨g, 1, none⟩ a1).setCell ⟨g, 2, none⟩ a2).setCell ⟨g, 3, none⟩ a3).setCell ⟨g, 4, none⟩ a4).setCell ⟨g, 5, none⟩ a5).heap[g']? = some (.cells cs ty (0, 0)) := blk_far (blk_far (blk_far (blk_far (blk_far (blk_far h (p := ⟨g, 0, none⟩) ne a0) (p := ⟨g, 1, none⟩) ne a1) (p := ⟨g, 2, none⟩) ne a2) (p := ⟨g, 3, none⟩) ne a3) (p := ⟨g, 4, none⟩) ne a4) (p := ⟨g, 5, none⟩) ne a5
theorem blk_put6 {W : World} {g ty : Nat} {x0 x1 x2 x3 x4 x5 : Value} (h : W.heap[g]? = some (.cells #[x0, x1, x2, x3, x4, x5] ty (0, 0))) (a0 a1 a2 a3 a4 a5 : Value) : ((((((W.setCell ⟨g, 0, none⟩ a0).setCell ⟨g, 1, none⟩ a1).setCell ⟨g, 2, none⟩ a2).setCell ⟨g, 3, none⟩ a3).setCell ⟨g, 4, none⟩ a4).setCell ⟨g, 5, none⟩ a5).heap[g]? = some (.cells #[a0, a1, a2, a3, a4, a5] ty (0, 0)) := blk_put (cs' := #[a0, a1, a2, a3, a4, a5]) (blk_put (cs' := #[a0, a1, a2, a3, a4, x5]) (blk_put (cs' := #[a0, a1, a2, a3, x4, x5]) (blk_put (cs' := #[a0, a1, a2, x3, x4, x5]) (blk_put (cs' := #[a0, a1, x2, x3, x4, x5]) (blk_put (cs' := #[a0, x1, x2, x3, x4, x5]) (h) 0 a0 rfl) 1 a1 rfl) 2 a2 rfl) 3 a3 rfl) 4 a4 rfl) 5 a5 rfl
theorem far_set6 {W : World} {base g : Nat} {v : Value} {xs : List S65} (h : Kd.R k65 65 W base (fun _ => True) v xs) (hne : some g ≠ v.ownBlock) (a0 a1 a2 a3 a4 a5 : Value) : Kd.R k65 65 ((((((W.setCell ⟨g, 0, none⟩ a0).setCell ⟨g, 1, none⟩ a1).setCell ⟨g, 2, none⟩ a2).setCell ⟨g, 3, none⟩ a3).setCell ⟨g, 4, none⟩ a4).setCell ⟨g, 5, none⟩ a5) base (fun _ => True) v xs := far_set (p := ⟨g, 5, none⟩) (far_set (p := ⟨g, 4, none⟩) (far_set (p := ⟨g, 3, none⟩) (far_set (p := ⟨g, 2, none⟩) (far_set (p := ⟨g, 1, none⟩) (far_set (p := ⟨g, 0, none⟩) (h) hne a0) hne a1) hne a2) hne a3) hne a4) hne a5
theorem far_int6 {W : World} {base g : Nat} {v : Value} {xs : List Int} (h : Kd.R (Kd.int .i64) 3 W base (fun _ => True) v xs) (hne : some g ≠ v.ownBlock) (a0 a1 a2 a3 a4 a5 : Value) : Kd.R (Kd.int .i64) 3 ((((((W.setCell ⟨g, 0, none⟩ a0).setCell ⟨g, 1, none⟩ a1).setCell ⟨g, 2, none⟩ a2).setCell ⟨g, 3, none⟩ a3).setCell ⟨g, 4, none⟩ a4).setCell ⟨g, 5, none⟩ a5) base (fun _ => True) v xs := Kd.R_mono (Kd.R_far (p := ⟨g, 5, none⟩) (Kd.R_far1 (Kd.R_mono (Kd.R_far (p := ⟨g, 4, none⟩) (Kd.R_far1 (Kd.R_mono (Kd.R_far (p := ⟨g, 3, none⟩) (Kd.R_far1 (Kd.R_mono (Kd.R_far (p := ⟨g, 2, none⟩) (Kd.R_far1 (Kd.R_mono (Kd.R_far (p := ⟨g, 1, none⟩) (Kd.R_far1 (Kd.R_mono (Kd.R_far (p := ⟨g, 0, none⟩) (Kd.R_far1 (h) rfl hne) (fun _ hk => hk.2) a0) (fun _ hk => hk.1)) rfl hne) (fun _ hk => hk.2) a1) (fun _ hk => hk.1)) rfl hne) (fun _ hk => hk.2) a2) (fun _ hk => hk.1)) rfl hne) (fun _ hk => hk.2) a3) (fun _ hk => hk.1)) rfl hne) (fun _ hk => hk.2) a4) (fun _ hk => hk.1)) rfl hne) (fun _ hk => hk.2) a5) (fun _ hk => hk.1)
theorem below_set6 {w W : World} {g : Nat} (h : Below w.heap.size w W) (hg : w.heap.size ≤ g) (a0 a1 a2 a3 a4 a5 : Value) : Below w.heap.size w ((((((W.setCell ⟨g, 0, none⟩ a0).setCell ⟨g, 1, none⟩ a1).setCell ⟨g, 2, none⟩ a2).setCell ⟨g, 3, none⟩ a3).setCell ⟨g, 4, none⟩ a4).setCell ⟨g, 5, none⟩ a5) := below_set (j := 5) (v := a5) (below_set (j := 4) (v := a4) (below_set (j := 3) (v := a3) (below_set (j := 2) (v := a2) (below_set (j := 1) (v := a1) (below_set (j := 0) (v := a0) (h) hg) hg) hg) hg) hg) hg
theorem ne_hat {k : Nat} {W : World} {v v1 : Value} (h : some k ≠ v.ownBlock) (hk : k < W.heap.size) (hat : v1.ownBlock = v.ownBlock ∨ ∃ b, v1.ownBlock = some b ∧ W.heap.size ≤ b) : some k ≠ v1.ownBlock := by
  rcases hat with e | ⟨b, e, hb⟩
  · rw [e]; exact h
  · rw [e]; intro q; have := Option.some.inj q; omega
theorem find_at (A0 : Option Addr) (c0 : Nat) (L : List S65) (t : Int) (w : World) (hr0 : Kd.C k65 w A0 L.length L) (hc0 : L.length ≤ c0) (hl : L.length ≤ 1000000) :
    Calls Try.prog 77 #[.slice A0 L.length c0, .int .i64 t] w fun e w' => e = .returned (.int .i64 (atIdx t L 0)) ∧ Below w.heap.size w w' := by
  have hev : Ev (fun k => ratlineref21_find.f k L t) (atIdx t L 0) := by
    unfold ratlineref21_find.f
    have key : ∀ (q i : Nat), L.length - i = q → i ≤ L.length → Ev (fun k => ratlineref21_find.l0 k L t (i : Int)) (atIdx t (L.drop i) (i : Int)) := by
      intro q
      induction q with
      | zero =>
        intro i hq hi
        obtain rfl : i = L.length := by omega
        refine Ev.step (fun k => ?_) (Ev.now _)
        rw [ratlineref21_find.l0, if_neg (by omega)]
        simp [atIdx]
      | succ q ih =>
        intro i hq hi
        have hlt : i < L.length := by omega
        rw [drop65 L i hlt]
        by_cases he : (L.getD i z65).f0 = t
        · refine Ev.step (fun k => ?_) (Ev.now _)
          rw [ratlineref21_find.l0, if_pos (by omega), if_pos (by omega), rd65_nat, if_pos he]
          simp only [atIdx, if_pos he]
        · refine Ev.step (f := fun k => ratlineref21_find.l0 k L t ((i + 1 : Nat) : Int)) (fun k => ?_) ?_
          · rw [ratlineref21_find.l0, if_pos (by omega), if_pos (by omega), rd65_nat, if_neg he, w64 (by omega) (by omega)]
            rfl
          · have := ih (i + 1) (by omega) (by omega)
            simp only [atIdx, if_neg he]
            exact this
    have := key L.length 0 rfl (Nat.zero_le _)
    simpa using this
  obtain ⟨k, hk⟩ := hev
  exact (ratlineref21_find.calls k A0 c0 L t _ w hr0 hc0 (hk k (Nat.le_refl _))).mono (fun e w' h => ⟨h.1, h.2.below⟩)

set_option maxHeartbeats 8000000 in
set_option maxRecDepth 100000 in
theorem refOf_at (A0 : Option Addr) (c0 : Nat) (L : List S65) (A1 : Option Addr) (c1 : Nat) (D : List S65) (g t : Int) (w : World) (hr0 : Kd.C k65 w A0 L.length L) (hc0 : L.length ≤ c0) (hr1 : Kd.C k65 w A1 D.length D) (hc1 : D.length ≤ c1) (hl0 : L.length ≤ 1000000) (hl1 : D.length ≤ 1000000) :
    Calls Try.prog 56 #[.agg #[.slice A0 L.length c0, .slice A1 D.length c1, .int .i64 g], .int .i64 t] w fun e w' => e = .returned (.tuple #[.agg #[.int .i64 (ofP L D t).1.f0, .int .i64 (ofP L D t).1.f1, .int .u64 (ofP L D t).1.f2, .int .u64 (ofP L D t).1.f3, .int .u8 (ofP L D t).1.f4, .int .i64 (ofP L D t).1.f5], .bool (ofP L D t).2]) ∧ Below w.heap.size w w' := by
  have HR0 := Aside0.mk hr0
  have HR1 := Aside0.mk hr1
  have HC0 := Aside0.mk hc0
  have HC1 := Aside0.mk hc1
  have HB := Aside0.mk (Below.refl w.heap.size w)
  have F0 := Aside0.mk (at_from t L 0)
  have F1 := Aside0.mk (at_from t D 0)
  clear hr0 hr1 hc0 hc1
  go_enter Try.func56, Try.ntmps56
  go_upto_region 1 with (first | ((with_reducible refine gate_dst (N := 2) rfl ?_); refine box_event ?hg (N := 2) ?hd (cs := #[.slice A0 L.length c0, .slice A1 D.length c1, .int .i64 g]) (t := 58) ?hr ?_; (case hd => rfl); (case hg => rfl); (case hr => first | (go_simp; done) | (go_simp; rfl)); intro gb2 hg w3 hbox hb; have GE_gb2 := Aside0.mk (show w.heap.size ≤ gb2 from by rw [hg]; exact below_size HB.out); clear hg; skip; replace HB := Aside0.mk (below_step HB.out hb); clear hb; have BK2 := Aside0.mk hbox; clear hbox; have bk2_0 := blk_c BK2.out 0 rfl; have bk2_1 := blk_c BK2.out 1 rfl; have bk2_2 := blk_c BK2.out 2 rfl; have bk2_f := fun i => blk_frozen BK2.out i) | ((with_reducible refine gate_dst (N := 4) rfl ?_); refine box_event ?hg (N := 4) ?hd (cs := #[.int .i64 0, .int .i64 0, .int .u64 0, .int .u64 0, .int .u8 0, .int .i64 0]) (t := 65) ?hr ?_; (case hd => rfl); (case hg => rfl); (case hr => first | (go_simp; done) | (go_simp; rfl)); intro gb4 hg w3 hbox hb; have NE_gb2_gb4 := Aside0.mk (show gb2 ≠ gb4 from by rw [hg]; exact Nat.ne_of_lt (blk_lt BK2.out)); have GE_gb4 := Aside0.mk (show w.heap.size ≤ gb4 from by rw [hg]; exact below_size HB.out); clear hg; clear bk2_0 bk2_1 bk2_2 bk2_f; replace BK2 := Aside0.mk (blk_below BK2.out hb); replace HB := Aside0.mk (below_step HB.out hb); clear hb; have BK4 := Aside0.mk hbox; clear hbox; have bk2_0 := blk_c BK2.out 0 rfl; have bk2_1 := blk_c BK2.out 1 rfl; have bk2_2 := blk_c BK2.out 2 rfl; have bk4_0 := blk_c BK4.out 0 rfl; have bk4_1 := blk_c BK4.out 1 rfl; have bk4_2 := blk_c BK4.out 2 rfl; have bk4_3 := blk_c BK4.out 3 rfl; have bk4_4 := blk_c BK4.out 4 rfl; have bk4_5 := blk_c BK4.out 5 rfl; have bk2_f := fun i => blk_frozen BK2.out i; have bk4_f := fun i => blk_frozen BK4.out i))
  go_upto_region 2 with (first | (go_at_call 77; (with_reducible refine (find_at _ _ L t _ (Kd.C_below HR0.out HB.out) HC0.out (by omega)).mono ?_); rintro e w5 ⟨rfl, hb⟩; have hsz := below_size HB.out; clear bk2_0 bk2_1 bk2_2 bk2_f bk4_0 bk4_1 bk4_2 bk4_3 bk4_4 bk4_5 bk4_f; replace BK2 := Aside0.mk (blk_below BK2.out hb); replace BK4 := Aside0.mk (blk_below BK4.out hb); replace HB := Aside0.mk (below_step HB.out hb); clear hb; clear hsz; have bk2_0 := blk_c BK2.out 0 rfl; have bk2_1 := blk_c BK2.out 1 rfl; have bk2_2 := blk_c BK2.out 2 rfl; have bk4_0 := blk_c BK4.out 0 rfl; have bk4_1 := blk_c BK4.out 1 rfl; have bk4_2 := blk_c BK4.out 2 rfl; have bk4_3 := blk_c BK4.out 3 rfl; have bk4_4 := blk_c BK4.out 4 rfl; have bk4_5 := blk_c BK4.out 5 rfl; have bk2_f := fun i => blk_frozen BK2.out i; have bk4_f := fun i => blk_frozen BK4.out i))
  rcases F0.out with h0 | ⟨j, h0, hj, -⟩
  case' inr =>
    have e0 : atIdx t L 0 = (j : Int) := by rw [show (j : Int) = ((0 + j : Nat) : Int) by omega]; exact h0
    rw [e0]
    have d0 : decide (0 ≤ (j : Int)) = true := decide_eq_true (by omega)
    have EO : Aside0 (ofP L D t = (L.getD j z65, true)) := ⟨by unfold ofP; rw [if_pos (by omega), e0, rd65_nat]⟩
    clear h0 e0
    obtain ⟨ad, ea, hx0, hx1, hx2, hx3, hx4, hx5⟩ := at_T65 HR0.out (j : Int) (by omega) (by omega)
    subst ea
    replace hx0 := (HB.out.cell (World.block_lt_of_cell? w _ hx0)).trans hx0
    replace hx1 := (HB.out.cell (World.block_lt_of_cell? w _ hx1)).trans hx1
    replace hx2 := (HB.out.cell (World.block_lt_of_cell? w _ hx2)).trans hx2
    replace hx3 := (HB.out.cell (World.block_lt_of_cell? w _ hx3)).trans hx3
    replace hx4 := (HB.out.cell (World.block_lt_of_cell? w _ hx4)).trans hx4
    replace hx5 := (HB.out.cell (World.block_lt_of_cell? w _ hx5)).trans hx5
    simp only [rd65_nat, Int.toNat_natCast] at hx0 hx1 hx2 hx3 hx4 hx5
    obtain ⟨x, hx⟩ : ∃ x, L.getD j z65 = x := ⟨_, rfl⟩
    rw [hx] at hx0 hx1 hx2 hx3 hx4 hx5
    have HX := Aside0.mk hx
    clear hx
    have n24 := NE_gb2_gb4.out
    go_wp2
    clear n24 hx0 hx1 hx2 hx3 hx4 hx5
    clear bk2_0 bk2_1 bk2_2 bk2_f bk4_0 bk4_1 bk4_2 bk4_3 bk4_4 bk4_5 bk4_f
    have s0_BK2 := blk_far6 BK2.out NE_gb2_gb4.out (.int .i64 x.f0) (.int .i64 x.f1) (.int .u64 x.f2) (.int .u64 x.f3) (.int .u8 x.f4) (.int .i64 x.f5)
    have s0_BK4 := blk_put6 BK4.out (.int .i64 x.f0) (.int .i64 x.f1) (.int .u64 x.f2) (.int .u64 x.f3) (.int .u8 x.f4) (.int .i64 x.f5)
    have s0_HB := below_set6 HB.out GE_gb4.out (.int .i64 x.f0) (.int .i64 x.f1) (.int .u64 x.f2) (.int .u64 x.f3) (.int .u8 x.f4) (.int .i64 x.f5)
    have n_BK2 := Aside0.mk s0_BK2
    have n_BK4 := Aside0.mk s0_BK4
    have n_HB := Aside0.mk s0_HB
    clear s0_BK2 s0_BK4 s0_HB
    clear BK2 BK4 HB
    generalize ((((((w5.setCell ⟨gb4, 0, none⟩ (.int .i64 x.f0)).setCell ⟨gb4, 1, none⟩ (.int .i64 x.f1)).setCell ⟨gb4, 2, none⟩ (.int .u64 x.f2)).setCell ⟨gb4, 3, none⟩ (.int .u64 x.f3)).setCell ⟨gb4, 4, none⟩ (.int .u8 x.f4)).setCell ⟨gb4, 5, none⟩ (.int .i64 x.f5)) = w9 at n_BK2 n_BK4 n_HB ⊢
    have BK2 := n_BK2
    have BK4 := n_BK4
    have HB := n_HB
    clear n_BK2 n_BK4 n_HB
    have bk2_0 := blk_c BK2.out 0 rfl; have bk2_1 := blk_c BK2.out 1 rfl; have bk2_2 := blk_c BK2.out 2 rfl; have bk4_0 := blk_c BK4.out 0 rfl; have bk4_1 := blk_c BK4.out 1 rfl; have bk4_2 := blk_c BK4.out 2 rfl; have bk4_3 := blk_c BK4.out 3 rfl; have bk4_4 := blk_c BK4.out 4 rfl; have bk4_5 := blk_c BK4.out 5 rfl; have bk2_f := fun i => blk_frozen BK2.out i; have bk4_f := fun i => blk_frozen BK4.out i
    refine bodyPost_ret (results_ct rfl _ _ gb4 65 #[.int .i64 x.f0, .int .i64 x.f1, .int .u64 x.f2, .int .u64 x.f3, .int .u8 x.f4, .int .i64 x.f5] (0, 0) _ rfl BK4.out Try.underlying65 rfl (by kernel_rfl)) rfl ?_
    rw [EO.out, HX.out]
    exact ⟨rfl, HB.out⟩
  case' inl =>
    have e0 : atIdx t L 0 = -1 := h0
    rw [e0]
    clear h0
    go_upto_region 5 with (first | (go_at_call 77; (with_reducible refine (find_at _ _ D t _ (Kd.C_below HR1.out HB.out) HC1.out (by omega)).mono ?_); rintro e w5 ⟨rfl, hb⟩; have hsz := below_size HB.out; clear bk2_0 bk2_1 bk2_2 bk2_f bk4_0 bk4_1 bk4_2 bk4_3 bk4_4 bk4_5 bk4_f; replace BK2 := Aside0.mk (blk_below BK2.out hb); replace BK4 := Aside0.mk (blk_below BK4.out hb); replace HB := Aside0.mk (below_step HB.out hb); clear hb; clear hsz; have bk2_0 := blk_c BK2.out 0 rfl; have bk2_1 := blk_c BK2.out 1 rfl; have bk2_2 := blk_c BK2.out 2 rfl; have bk4_0 := blk_c BK4.out 0 rfl; have bk4_1 := blk_c BK4.out 1 rfl; have bk4_2 := blk_c BK4.out 2 rfl; have bk4_3 := blk_c BK4.out 3 rfl; have bk4_4 := blk_c BK4.out 4 rfl; have bk4_5 := blk_c BK4.out 5 rfl; have bk2_f := fun i => blk_frozen BK2.out i; have bk4_f := fun i => blk_frozen BK4.out i))
    rcases F1.out with h1 | ⟨j, h1, hj, -⟩
    case' inr =>
      have e1 : atIdx t D 0 = (j : Int) := by rw [show (j : Int) = ((0 + j : Nat) : Int) by omega]; exact h1
      rw [e1]
      have d0 : decide (0 ≤ (j : Int)) = true := decide_eq_true (by omega)
      have EO : Aside0 (ofP L D t = (D.getD j z65, true)) := ⟨by unfold ofP; rw [if_neg (by omega), if_pos (by omega), e1, rd65_nat]⟩
      clear h1 e0 e1
      obtain ⟨ad, ea, hx0, hx1, hx2, hx3, hx4, hx5⟩ := at_T65 HR1.out (j : Int) (by omega) (by omega)
      subst ea
      replace hx0 := (HB.out.cell (World.block_lt_of_cell? w _ hx0)).trans hx0
      replace hx1 := (HB.out.cell (World.block_lt_of_cell? w _ hx1)).trans hx1
      replace hx2 := (HB.out.cell (World.block_lt_of_cell? w _ hx2)).trans hx2
      replace hx3 := (HB.out.cell (World.block_lt_of_cell? w _ hx3)).trans hx3
      replace hx4 := (HB.out.cell (World.block_lt_of_cell? w _ hx4)).trans hx4
      replace hx5 := (HB.out.cell (World.block_lt_of_cell? w _ hx5)).trans hx5
      simp only [rd65_nat, Int.toNat_natCast] at hx0 hx1 hx2 hx3 hx4 hx5
      obtain ⟨x, hx⟩ : ∃ x, D.getD j z65 = x := ⟨_, rfl⟩
      rw [hx] at hx0 hx1 hx2 hx3 hx4 hx5
      have HX := Aside0.mk hx
      clear hx
      have n24 := NE_gb2_gb4.out
      go_wp2
      clear n24 hx0 hx1 hx2 hx3 hx4 hx5
      clear bk2_0 bk2_1 bk2_2 bk2_f bk4_0 bk4_1 bk4_2 bk4_3 bk4_4 bk4_5 bk4_f
      have s0_BK2 := blk_far6 BK2.out NE_gb2_gb4.out (.int .i64 x.f0) (.int .i64 x.f1) (.int .u64 x.f2) (.int .u64 x.f3) (.int .u8 x.f4) (.int .i64 x.f5)
      have s0_BK4 := blk_put6 BK4.out (.int .i64 x.f0) (.int .i64 x.f1) (.int .u64 x.f2) (.int .u64 x.f3) (.int .u8 x.f4) (.int .i64 x.f5)
      have s0_HB := below_set6 HB.out GE_gb4.out (.int .i64 x.f0) (.int .i64 x.f1) (.int .u64 x.f2) (.int .u64 x.f3) (.int .u8 x.f4) (.int .i64 x.f5)
      have n_BK2 := Aside0.mk s0_BK2
      have n_BK4 := Aside0.mk s0_BK4
      have n_HB := Aside0.mk s0_HB
      clear s0_BK2 s0_BK4 s0_HB
      clear BK2 BK4 HB
      generalize ((((((w5.setCell ⟨gb4, 0, none⟩ (.int .i64 x.f0)).setCell ⟨gb4, 1, none⟩ (.int .i64 x.f1)).setCell ⟨gb4, 2, none⟩ (.int .u64 x.f2)).setCell ⟨gb4, 3, none⟩ (.int .u64 x.f3)).setCell ⟨gb4, 4, none⟩ (.int .u8 x.f4)).setCell ⟨gb4, 5, none⟩ (.int .i64 x.f5)) = w9 at n_BK2 n_BK4 n_HB ⊢
      have BK2 := n_BK2
      have BK4 := n_BK4
      have HB := n_HB
      clear n_BK2 n_BK4 n_HB
      have bk2_0 := blk_c BK2.out 0 rfl; have bk2_1 := blk_c BK2.out 1 rfl; have bk2_2 := blk_c BK2.out 2 rfl; have bk4_0 := blk_c BK4.out 0 rfl; have bk4_1 := blk_c BK4.out 1 rfl; have bk4_2 := blk_c BK4.out 2 rfl; have bk4_3 := blk_c BK4.out 3 rfl; have bk4_4 := blk_c BK4.out 4 rfl; have bk4_5 := blk_c BK4.out 5 rfl; have bk2_f := fun i => blk_frozen BK2.out i; have bk4_f := fun i => blk_frozen BK4.out i
      refine bodyPost_ret (results_ct rfl _ _ gb4 65 #[.int .i64 x.f0, .int .i64 x.f1, .int .u64 x.f2, .int .u64 x.f3, .int .u8 x.f4, .int .i64 x.f5] (0, 0) _ rfl BK4.out Try.underlying65 rfl (by kernel_rfl)) rfl ?_
      rw [EO.out, HX.out]
      exact ⟨rfl, HB.out⟩
    case' inl =>
      have e1 : atIdx t D 0 = -1 := h1
      rw [e1]
      have EO : Aside0 (ofP L D t = (⟨0, 0, 0, 0, 0, 0⟩, false)) := ⟨by unfold ofP; rw [if_neg (by omega), if_neg (by omega)]⟩
      clear h1 e0 e1
      have n24 := NE_gb2_gb4.out
      go_wp2
      clear n24
      clear bk2_0 bk2_1 bk2_2 bk2_f bk4_0 bk4_1 bk4_2 bk4_3 bk4_4 bk4_5 bk4_f
      have s0_BK2 := blk_far6 BK2.out NE_gb2_gb4.out (.int .i64 0) (.int .i64 0) (.int .u64 0) (.int .u64 0) (.int .u8 0) (.int .i64 0)
      have s0_BK4 := blk_put6 BK4.out (.int .i64 0) (.int .i64 0) (.int .u64 0) (.int .u64 0) (.int .u8 0) (.int .i64 0)
      have s0_HB := below_set6 HB.out GE_gb4.out (.int .i64 0) (.int .i64 0) (.int .u64 0) (.int .u64 0) (.int .u8 0) (.int .i64 0)
      have n_BK2 := Aside0.mk s0_BK2
      have n_BK4 := Aside0.mk s0_BK4
      have n_HB := Aside0.mk s0_HB
      clear s0_BK2 s0_BK4 s0_HB
      clear BK2 BK4 HB
      generalize ((((((w5.setCell ⟨gb4, 0, none⟩ (.int .i64 0)).setCell ⟨gb4, 1, none⟩ (.int .i64 0)).setCell ⟨gb4, 2, none⟩ (.int .u64 0)).setCell ⟨gb4, 3, none⟩ (.int .u64 0)).setCell ⟨gb4, 4, none⟩ (.int .u8 0)).setCell ⟨gb4, 5, none⟩ (.int .i64 0)) = w9 at n_BK2 n_BK4 n_HB ⊢
      have BK2 := n_BK2
      have BK4 := n_BK4
      have HB := n_HB
      clear n_BK2 n_BK4 n_HB
      have bk2_0 := blk_c BK2.out 0 rfl; have bk2_1 := blk_c BK2.out 1 rfl; have bk2_2 := blk_c BK2.out 2 rfl; have bk4_0 := blk_c BK4.out 0 rfl; have bk4_1 := blk_c BK4.out 1 rfl; have bk4_2 := blk_c BK4.out 2 rfl; have bk4_3 := blk_c BK4.out 3 rfl; have bk4_4 := blk_c BK4.out 4 rfl; have bk4_5 := blk_c BK4.out 5 rfl; have bk2_f := fun i => blk_frozen BK2.out i; have bk4_f := fun i => blk_frozen BK4.out i
      refine bodyPost_ret (results_ct rfl _ _ gb4 65 #[.int .i64 0, .int .i64 0, .int .u64 0, .int .u64 0, .int .u8 0, .int .i64 0] (0, 0) _ rfl BK4.out Try.underlying65 rfl (by kernel_rfl)) rfl ?_
      rw [EO.out]
      exact ⟨rfl, HB.out⟩
def join12.T : Bool × List (List Nat × List Nat) := (true, [([], []), ([], []), ([1], [1]), ([2], [2]), ([0, 0], [0]), ([3, 4, 0, 1, 2, 3, 4], [3]), ([5, 0, 1, 2, 3, 4, 5], [])])
def join12.B : List Nat := [0, 0, 2, 6, 1, 31, 63]
theorem join12.tab : rtab .any (opsOf Try.f46 12) = join12.T := by kernel_rfl
theorem join12.bits : waitsOk join12.T.2 join12.B = true := by kernel_rfl
/-- What Join makes of the line. -/
def joinR (L D : List S65) (t o n : Int) : List S65 × Bool × Int := if badJ t o n = true then (L, false, 2) else if (ofP L D t).2 = true then (L, false, 210) else (L ++ [(⟨t, o, n, 0, if L.length = 0 then 1 else 0, 0⟩ : S65)], decide (L.length = 0), 0)
set_option maxHeartbeats 8000000 in
set_option maxRecDepth 100000 in
theorem refJoin_at (A0 : Option Addr) (c0 : Nat) (L : List S65) (A1 : Option Addr) (c1 : Nat) (D : List S65) (b : Nat) (g t o n : Int) (w : World) (hbw : b ≤ w.heap.size) (hr0 : Kd.R k65 65 w b (fun _ => True) (.slice A0 L.length c0) L) (hr1 : Kd.R k65 65 w b (fun _ => True) (.slice A1 D.length c1) D) (hl0 : L.length ≤ 1000000) (hl1d : D.length ≤ 1000000) :
    Calls Try.prog 46 #[.agg #[.slice A0 L.length c0, .slice A1 D.length c1, .int .i64 g], .int .i64 t, .int .i64 o, .int .u64 n] w fun e w' => ∃ (AL : Option Addr) (cL : Nat), e = .returned (.tuple #[.agg #[.slice AL (joinR L D t o n).1.length cL, .slice A1 D.length c1, .int .i64 g], .bool (joinR L D t o n).2.1, .int .i64 (joinR L D t o n).2.2]) ∧ Kd.R k65 65 w' b (fun _ => True) (.slice AL (joinR L D t o n).1.length cL) (joinR L D t o n).1 ∧ Kd.R k65 65 w' b (fun _ => True) (.slice A1 D.length c1) D ∧ Below w.heap.size w w' := by
  have HO0 := Aside0.mk hr0
  have HO1 := Aside0.mk hr1
  have HB := Aside0.mk (Below.refl w.heap.size w)
  have HBW := Aside0.mk hbw
  obtain ⟨q, inl, hq⟩ : ∃ (q : S65) (inl : Bool), ofP L D t = (q, inl) := ⟨_, _, rfl⟩
  have HQ := Aside0.mk hq
  have Q0 : Aside0 (∀ k, (.slice A0 L.length c0 : Value).ownBlock = some k → k < w.heap.size) := ⟨Kd.R_lt hr0⟩
  have Q1 : Aside0 (∀ k, (.slice A1 D.length c1 : Value).ownBlock = some k → k < w.heap.size) := ⟨Kd.R_lt hr1⟩
  clear hr0 hr1 hq hbw
  go_enter Try.func46, Try.ntmps46
  go_upto_region 1 with (first | ((with_reducible refine gate_dst (N := 4) rfl ?_); refine box_event ?hg (N := 4) ?hd (cs := #[.slice A0 L.length c0, .slice A1 D.length c1, .int .i64 g]) (t := 58) ?hr ?_; (case hd => rfl); (case hg => rfl); (case hr => first | (go_simp; done) | (go_simp; rfl)); intro gb4 hg w3 hbox hb; have GE_gb4 := Aside0.mk (show w.heap.size ≤ gb4 from by rw [hg]; exact below_size HB.out); clear hg; skip; replace HO0 := Aside0.mk (Kd.R_below HO0.out hb); replace HO1 := Aside0.mk (Kd.R_below HO1.out hb); replace HB := Aside0.mk (below_step HB.out hb); clear hb; have BK4 := Aside0.mk hbox; clear hbox; have bk4_0 := blk_c BK4.out 0 rfl; have bk4_1 := blk_c BK4.out 1 rfl; have bk4_2 := blk_c BK4.out 2 rfl; have bk4_f := fun i => blk_frozen BK4.out i) | ((with_reducible refine gate_dst (N := 8) rfl ?_); refine box_event ?hg (N := 8) ?hd (cs := #[.slice none 0 0, .slice none 0 0, .int .i64 0]) (t := 58) ?hr ?_; (case hd => rfl); (case hg => rfl); (case hr => first | (go_simp; done) | (go_simp; rfl)); intro gb8 hg w3 hbox hb; have NE_gb4_gb8 := Aside0.mk (show gb4 ≠ gb8 from by rw [hg]; exact Nat.ne_of_lt (blk_lt BK4.out)); have GE_gb8 := Aside0.mk (show w.heap.size ≤ gb8 from by rw [hg]; exact below_size HB.out); clear hg; clear bk4_0 bk4_1 bk4_2 bk4_f; replace BK4 := Aside0.mk (blk_below BK4.out hb); replace HO0 := Aside0.mk (Kd.R_below HO0.out hb); replace HO1 := Aside0.mk (Kd.R_below HO1.out hb); replace HB := Aside0.mk (below_step HB.out hb); clear hb; have BK8 := Aside0.mk hbox; clear hbox; have bk4_0 := blk_c BK4.out 0 rfl; have bk4_1 := blk_c BK4.out 1 rfl; have bk4_2 := blk_c BK4.out 2 rfl; have bk8_0 := blk_c BK8.out 0 rfl; have bk8_1 := blk_c BK8.out 1 rfl; have bk8_2 := blk_c BK8.out 2 rfl; have bk4_f := fun i => blk_frozen BK4.out i; have bk8_f := fun i => blk_frozen BK8.out i))
  go_cut [36] (fun v36 wx => v36 = .bool (badJ t o n) ∧ w3 = wx)
  case first =>
    by_cases b0 : t < 0
    · have d0 : decide (t < 0) = true := decide_eq_true (by omega)
      have e0 : decide (t < 0) = true := decide_eq_true (by omega)
      go_wp2
      go_meet
      case rel => exact ⟨by unfold badJ; rw [d0]; rfl, rfl⟩
    have d0 : decide (t < 0) = false := decide_eq_false (by omega)
    have e0 : decide (t < 0) = false := decide_eq_false (by omega)
    by_cases b1 : 64 ≤ t
    · have d1 : decide (64 ≤ t) = true := decide_eq_true (by omega)
      have e1 : decide (63 < t) = true := decide_eq_true (by omega)
      go_wp2
      go_meet
      case rel => exact ⟨by unfold badJ; rw [d0, d1]; rfl, rfl⟩
    have d1 : decide (64 ≤ t) = false := decide_eq_false (by omega)
    have e1 : decide (63 < t) = false := decide_eq_false (by omega)
    by_cases b2 : o < 1
    · have d2 : decide (o < 1) = true := decide_eq_true (by omega)
      have e2 : decide (o < 1) = true := decide_eq_true (by omega)
      go_wp2
      go_meet
      case rel => exact ⟨by unfold badJ; rw [d0, d1, d2]; rfl, rfl⟩
    have d2 : decide (o < 1) = false := decide_eq_false (by omega)
    have e2 : decide (o < 1) = false := decide_eq_false (by omega)
    by_cases b3 : 32 < o
    · have d3 : decide (32 < o) = true := decide_eq_true (by omega)
      have e3 : decide (32 < o) = true := decide_eq_true (by omega)
      go_wp2
      go_meet
      case rel => exact ⟨by unfold badJ; rw [d0, d1, d2, d3]; rfl, rfl⟩
    have d3 : decide (32 < o) = false := decide_eq_false (by omega)
    have e3 : decide (32 < o) = false := decide_eq_false (by omega)
    by_cases b4 : n < 1
    · have d4 : decide (n < 1) = true := decide_eq_true (by omega)
      have e4 : decide (n < 1) = true := decide_eq_true (by omega)
      go_wp2
      go_meet
      case rel => exact ⟨by unfold badJ; rw [d0, d1, d2, d3, d4]; rfl, rfl⟩
    have d4 : decide (n < 1) = false := decide_eq_false (by omega)
    have e4 : decide (n < 1) = false := decide_eq_false (by omega)
    by_cases b5 : 1073741824 < n
    · have d5 : decide (1073741824 < n) = true := decide_eq_true (by omega)
      have e5 : decide (1073741824 < n) = true := decide_eq_true (by omega)
      go_wp2
      go_meet
      case rel => exact ⟨by unfold badJ; rw [d0, d1, d2, d3, d4, d5]; rfl, rfl⟩
    have d5 : decide (1073741824 < n) = false := decide_eq_false (by omega)
    have e5 : decide (1073741824 < n) = false := decide_eq_false (by omega)
    go_wp2
    go_meet
    case rel => exact ⟨by unfold badJ; rw [d0, d1, d2, d3, d4, d5]; rfl, rfl⟩
  case rest =>
  obtain ⟨rfl, rfl⟩ := hcut
  cases hbad : badJ t o n
  case' true =>
    have n48 := NE_gb4_gb8.out
    have HBAD := Aside0.mk hbad
    clear hbad
    go_wp2
    clear n48
    clear bk4_0 bk4_1 bk4_2 bk4_f bk8_0 bk8_1 bk8_2 bk8_f
    have s0_HO0 := far_set3 HO0.out (blk_rowG BK8.out HO0.out (by decide)) (.slice A0 L.length c0) (.slice A1 D.length c1) (.int .i64 g)
    have s0_HO1 := far_set3 HO1.out (blk_rowG BK8.out HO1.out (by decide)) (.slice A0 L.length c0) (.slice A1 D.length c1) (.int .i64 g)
    have s0_BK4 := blk_far3 BK4.out NE_gb4_gb8.out (.slice A0 L.length c0) (.slice A1 D.length c1) (.int .i64 g)
    have s0_BK8 := blk_put3 BK8.out (.slice A0 L.length c0) (.slice A1 D.length c1) (.int .i64 g)
    have s0_HB := below_set3 HB.out GE_gb8.out (.slice A0 L.length c0) (.slice A1 D.length c1) (.int .i64 g)
    have n_BK4 := Aside0.mk s0_BK4
    have n_BK8 := Aside0.mk s0_BK8
    have n_HO0 := Aside0.mk s0_HO0
    have n_HO1 := Aside0.mk s0_HO1
    have n_HB := Aside0.mk s0_HB
    clear s0_BK4 s0_BK8 s0_HO0 s0_HO1 s0_HB
    clear BK4 BK8 HO0 HO1 HB
    generalize (((w3.setCell ⟨gb8, 0, none⟩ (.slice A0 L.length c0)).setCell ⟨gb8, 1, none⟩ (.slice A1 D.length c1)).setCell ⟨gb8, 2, none⟩ (.int .i64 g)) = w12 at n_BK4 n_BK8 n_HO0 n_HO1 n_HB ⊢
    have BK4 := n_BK4
    have BK8 := n_BK8
    have HO0 := n_HO0
    have HO1 := n_HO1
    have HB := n_HB
    clear n_BK4 n_BK8 n_HO0 n_HO1 n_HB
    have bk4_0 := blk_c BK4.out 0 rfl; have bk4_1 := blk_c BK4.out 1 rfl; have bk4_2 := blk_c BK4.out 2 rfl; have bk8_0 := blk_c BK8.out 0 rfl; have bk8_1 := blk_c BK8.out 1 rfl; have bk8_2 := blk_c BK8.out 2 rfl; have bk4_f := fun i => blk_frozen BK4.out i; have bk8_f := fun i => blk_frozen BK8.out i
    refine bodyPost_ret (results_ctt rfl _ _ gb8 58 #[.slice A0 L.length c0, .slice A1 D.length c1, .int .i64 g] (0, 0) _ rfl BK8.out Try.underlying58 rfl (by kernel_rfl)) rfl ?_
    rw [show joinR L D t o n = (L, false, 2) from by unfold joinR; rw [if_pos HBAD.out]]
    exact ⟨_, _, rfl, HO0.out, HO1.out, HB.out⟩
  case' false =>
    have HBAD := Aside0.mk hbad
    clear hbad
    go_upto_region 4 with (first | (go_at_call 56; (with_reducible refine (refOf_at _ _ L _ _ D g t _ (Kd.R_reads' HO0.out).2.2 (Kd.R_reads' HO0.out).2.1 (Kd.R_reads' HO1.out).2.2 (Kd.R_reads' HO1.out).2.1 hl0 hl1d).mono ?_); rw [HQ.out]; rintro e w5 ⟨rfl, hb⟩; have hsz := below_size HB.out; clear bk4_0 bk4_1 bk4_2 bk4_f bk8_0 bk8_1 bk8_2 bk8_f; replace BK4 := Aside0.mk (blk_below BK4.out hb); replace BK8 := Aside0.mk (blk_below BK8.out hb); replace HO0 := Aside0.mk (Kd.R_below HO0.out hb); replace HO1 := Aside0.mk (Kd.R_below HO1.out hb); replace HB := Aside0.mk (below_step HB.out hb); clear hb; clear hsz; have bk4_0 := blk_c BK4.out 0 rfl; have bk4_1 := blk_c BK4.out 1 rfl; have bk4_2 := blk_c BK4.out 2 rfl; have bk8_0 := blk_c BK8.out 0 rfl; have bk8_1 := blk_c BK8.out 1 rfl; have bk8_2 := blk_c BK8.out 2 rfl; have bk4_f := fun i => blk_frozen BK4.out i; have bk8_f := fun i => blk_frozen BK8.out i) | ((with_reducible refine gate_dst (N := 11) rfl ?_); refine box_event ?hg (N := 11) ?hd (cs := #[.int .i64 0, .int .i64 0, .int .u64 0, .int .u64 0, .int .u8 0, .int .i64 0]) (t := 65) ?hr ?_; (case hd => rfl); (case hg => rfl); (case hr => first | (go_simp; done) | (go_simp; rfl)); intro gb11 hg w3 hbox hb; have NE_gb4_gb11 := Aside0.mk (show gb4 ≠ gb11 from by rw [hg]; exact Nat.ne_of_lt (blk_lt BK4.out)); have NE_gb8_gb11 := Aside0.mk (show gb8 ≠ gb11 from by rw [hg]; exact Nat.ne_of_lt (blk_lt BK8.out)); have X_gb11_HO0 : Aside0 (some gb11 ≠ (.slice A0 L.length c0 : Value).ownBlock) := ⟨fun e => by have := Kd.R_lt HO0.out gb11 e.symm; rw [hg] at this; exact absurd this (Nat.lt_irrefl _)⟩; have X_gb11_HO1 : Aside0 (some gb11 ≠ (.slice A1 D.length c1 : Value).ownBlock) := ⟨fun e => by have := Kd.R_lt HO1.out gb11 e.symm; rw [hg] at this; exact absurd this (Nat.lt_irrefl _)⟩; have GE_gb11 := Aside0.mk (show w.heap.size ≤ gb11 from by rw [hg]; exact below_size HB.out); clear hg; clear bk4_0 bk4_1 bk4_2 bk4_f bk8_0 bk8_1 bk8_2 bk8_f; replace BK4 := Aside0.mk (blk_below BK4.out hb); replace BK8 := Aside0.mk (blk_below BK8.out hb); replace HO0 := Aside0.mk (Kd.R_below HO0.out hb); replace HO1 := Aside0.mk (Kd.R_below HO1.out hb); replace HB := Aside0.mk (below_step HB.out hb); clear hb; have BK11 := Aside0.mk hbox; clear hbox; have bk4_0 := blk_c BK4.out 0 rfl; have bk4_1 := blk_c BK4.out 1 rfl; have bk4_2 := blk_c BK4.out 2 rfl; have bk8_0 := blk_c BK8.out 0 rfl; have bk8_1 := blk_c BK8.out 1 rfl; have bk8_2 := blk_c BK8.out 2 rfl; have bk11_0 := blk_c BK11.out 0 rfl; have bk11_1 := blk_c BK11.out 1 rfl; have bk11_2 := blk_c BK11.out 2 rfl; have bk11_3 := blk_c BK11.out 3 rfl; have bk11_4 := blk_c BK11.out 4 rfl; have bk11_5 := blk_c BK11.out 5 rfl; have bk4_f := fun i => blk_frozen BK4.out i; have bk8_f := fun i => blk_frozen BK8.out i; have bk11_f := fun i => blk_frozen BK11.out i))
    clear bk4_0 bk4_1 bk4_2 bk4_f bk8_0 bk8_1 bk8_2 bk8_f bk11_0 bk11_1 bk11_2 bk11_3 bk11_4 bk11_5 bk11_f
    have s0_HO0 := far_set6 HO0.out (X_gb11_HO0.out) (.int .i64 q.f0) (.int .i64 q.f1) (.int .u64 q.f2) (.int .u64 q.f3) (.int .u8 q.f4) (.int .i64 q.f5)
    have s0_HO1 := far_set6 HO1.out (X_gb11_HO1.out) (.int .i64 q.f0) (.int .i64 q.f1) (.int .u64 q.f2) (.int .u64 q.f3) (.int .u8 q.f4) (.int .i64 q.f5)
    have s0_BK4 := blk_far6 BK4.out NE_gb4_gb11.out (.int .i64 q.f0) (.int .i64 q.f1) (.int .u64 q.f2) (.int .u64 q.f3) (.int .u8 q.f4) (.int .i64 q.f5)
    have s0_BK8 := blk_far6 BK8.out NE_gb8_gb11.out (.int .i64 q.f0) (.int .i64 q.f1) (.int .u64 q.f2) (.int .u64 q.f3) (.int .u8 q.f4) (.int .i64 q.f5)
    have s0_BK11 := blk_put6 BK11.out (.int .i64 q.f0) (.int .i64 q.f1) (.int .u64 q.f2) (.int .u64 q.f3) (.int .u8 q.f4) (.int .i64 q.f5)
    have s0_HB := below_set6 HB.out GE_gb11.out (.int .i64 q.f0) (.int .i64 q.f1) (.int .u64 q.f2) (.int .u64 q.f3) (.int .u8 q.f4) (.int .i64 q.f5)
    have n_BK4 := Aside0.mk s0_BK4
    have n_BK8 := Aside0.mk s0_BK8
    have n_BK11 := Aside0.mk s0_BK11
    have n_HO0 := Aside0.mk s0_HO0
    have n_HO1 := Aside0.mk s0_HO1
    have n_HB := Aside0.mk s0_HB
    clear s0_BK4 s0_BK8 s0_BK11 s0_HO0 s0_HO1 s0_HB
    clear BK4 BK8 BK11 HO0 HO1 HB
    generalize ((((((w3.setCell ⟨gb11, 0, none⟩ (.int .i64 q.f0)).setCell ⟨gb11, 1, none⟩ (.int .i64 q.f1)).setCell ⟨gb11, 2, none⟩ (.int .u64 q.f2)).setCell ⟨gb11, 3, none⟩ (.int .u64 q.f3)).setCell ⟨gb11, 4, none⟩ (.int .u8 q.f4)).setCell ⟨gb11, 5, none⟩ (.int .i64 q.f5)) = w4 at n_BK4 n_BK8 n_BK11 n_HO0 n_HO1 n_HB ⊢
    have BK4 := n_BK4
    have BK8 := n_BK8
    have BK11 := n_BK11
    have HO0 := n_HO0
    have HO1 := n_HO1
    have HB := n_HB
    clear n_BK4 n_BK8 n_BK11 n_HO0 n_HO1 n_HB
    have bk4_0 := blk_c BK4.out 0 rfl; have bk4_1 := blk_c BK4.out 1 rfl; have bk4_2 := blk_c BK4.out 2 rfl; have bk8_0 := blk_c BK8.out 0 rfl; have bk8_1 := blk_c BK8.out 1 rfl; have bk8_2 := blk_c BK8.out 2 rfl; have bk11_0 := blk_c BK11.out 0 rfl; have bk11_1 := blk_c BK11.out 1 rfl; have bk11_2 := blk_c BK11.out 2 rfl; have bk11_3 := blk_c BK11.out 3 rfl; have bk11_4 := blk_c BK11.out 4 rfl; have bk11_5 := blk_c BK11.out 5 rfl; have bk4_f := fun i => blk_frozen BK4.out i; have bk8_f := fun i => blk_frozen BK8.out i; have bk11_f := fun i => blk_frozen BK11.out i
    cases inl
    case' true =>
      have n48 := NE_gb4_gb8.out
      go_wp2
      clear n48
      clear bk4_0 bk4_1 bk4_2 bk4_f bk8_0 bk8_1 bk8_2 bk8_f bk11_0 bk11_1 bk11_2 bk11_3 bk11_4 bk11_5 bk11_f
      have s0_HO0 := far_set3 HO0.out (blk_rowG BK8.out HO0.out (by decide)) (.slice A0 L.length c0) (.slice A1 D.length c1) (.int .i64 g)
      have s0_HO1 := far_set3 HO1.out (blk_rowG BK8.out HO1.out (by decide)) (.slice A0 L.length c0) (.slice A1 D.length c1) (.int .i64 g)
      have s0_BK4 := blk_far3 BK4.out NE_gb4_gb8.out (.slice A0 L.length c0) (.slice A1 D.length c1) (.int .i64 g)
      have s0_BK8 := blk_put3 BK8.out (.slice A0 L.length c0) (.slice A1 D.length c1) (.int .i64 g)
      have s0_BK11 := blk_far3 BK11.out (Ne.symm NE_gb8_gb11.out) (.slice A0 L.length c0) (.slice A1 D.length c1) (.int .i64 g)
      have s0_HB := below_set3 HB.out GE_gb8.out (.slice A0 L.length c0) (.slice A1 D.length c1) (.int .i64 g)
      have n_BK4 := Aside0.mk s0_BK4
      have n_BK8 := Aside0.mk s0_BK8
      have n_BK11 := Aside0.mk s0_BK11
      have n_HO0 := Aside0.mk s0_HO0
      have n_HO1 := Aside0.mk s0_HO1
      have n_HB := Aside0.mk s0_HB
      clear s0_BK4 s0_BK8 s0_BK11 s0_HO0 s0_HO1 s0_HB
      clear BK4 BK8 BK11 HO0 HO1 HB
      generalize (((w4.setCell ⟨gb8, 0, none⟩ (.slice A0 L.length c0)).setCell ⟨gb8, 1, none⟩ (.slice A1 D.length c1)).setCell ⟨gb8, 2, none⟩ (.int .i64 g)) = w12 at n_BK4 n_BK8 n_BK11 n_HO0 n_HO1 n_HB ⊢
      have BK4 := n_BK4
      have BK8 := n_BK8
      have BK11 := n_BK11
      have HO0 := n_HO0
      have HO1 := n_HO1
      have HB := n_HB
      clear n_BK4 n_BK8 n_BK11 n_HO0 n_HO1 n_HB
      have bk4_0 := blk_c BK4.out 0 rfl; have bk4_1 := blk_c BK4.out 1 rfl; have bk4_2 := blk_c BK4.out 2 rfl; have bk8_0 := blk_c BK8.out 0 rfl; have bk8_1 := blk_c BK8.out 1 rfl; have bk8_2 := blk_c BK8.out 2 rfl; have bk11_0 := blk_c BK11.out 0 rfl; have bk11_1 := blk_c BK11.out 1 rfl; have bk11_2 := blk_c BK11.out 2 rfl; have bk11_3 := blk_c BK11.out 3 rfl; have bk11_4 := blk_c BK11.out 4 rfl; have bk11_5 := blk_c BK11.out 5 rfl; have bk4_f := fun i => blk_frozen BK4.out i; have bk8_f := fun i => blk_frozen BK8.out i; have bk11_f := fun i => blk_frozen BK11.out i
      refine bodyPost_ret (results_ctt rfl _ _ gb8 58 #[.slice A0 L.length c0, .slice A1 D.length c1, .int .i64 g] (0, 0) _ rfl BK8.out Try.underlying58 rfl (by kernel_rfl)) rfl ?_
      rw [show joinR L D t o n = (L, false, 210) from by unfold joinR; rw [if_neg (by rw [HBAD.out]; decide), HQ.out, if_pos rfl]]
      exact ⟨_, _, rfl, HO0.out, HO1.out, HB.out⟩
    case' false =>
      clear bk11_0 bk11_1 bk11_2 bk11_3 bk11_4 bk11_5 bk11_f BK11
      go_upto_region 7 with (first | ((with_reducible refine gate_dst (N := 13) rfl ?_); refine box_event ?hg (N := 13) ?hd (cs := #[.int .i64 0, .int .i64 0, .int .u64 0, .int .u64 0, .int .u8 0, .int .i64 0]) (t := 65) ?hr ?_; (case hd => rfl); (case hg => rfl); (case hr => first | (go_simp; done) | (go_simp; rfl)); intro gb13 hg w3 hbox hb; have NE_gb4_gb13 := Aside0.mk (show gb4 ≠ gb13 from by rw [hg]; exact Nat.ne_of_lt (blk_lt BK4.out)); have NE_gb8_gb13 := Aside0.mk (show gb8 ≠ gb13 from by rw [hg]; exact Nat.ne_of_lt (blk_lt BK8.out)); have X_gb13_HO0 : Aside0 (some gb13 ≠ (.slice A0 L.length c0 : Value).ownBlock) := ⟨fun e => by have := Kd.R_lt HO0.out gb13 e.symm; rw [hg] at this; exact absurd this (Nat.lt_irrefl _)⟩; have X_gb13_HO1 : Aside0 (some gb13 ≠ (.slice A1 D.length c1 : Value).ownBlock) := ⟨fun e => by have := Kd.R_lt HO1.out gb13 e.symm; rw [hg] at this; exact absurd this (Nat.lt_irrefl _)⟩; have GE_gb13 := Aside0.mk (show w.heap.size ≤ gb13 from by rw [hg]; exact below_size HB.out); clear hg; clear bk4_0 bk4_1 bk4_2 bk4_f bk8_0 bk8_1 bk8_2 bk8_f; replace BK4 := Aside0.mk (blk_below BK4.out hb); replace BK8 := Aside0.mk (blk_below BK8.out hb); replace HO0 := Aside0.mk (Kd.R_below HO0.out hb); replace HO1 := Aside0.mk (Kd.R_below HO1.out hb); replace HB := Aside0.mk (below_step HB.out hb); clear hb; have BK13 := Aside0.mk hbox; clear hbox; have bk4_0 := blk_c BK4.out 0 rfl; have bk4_1 := blk_c BK4.out 1 rfl; have bk4_2 := blk_c BK4.out 2 rfl; have bk8_0 := blk_c BK8.out 0 rfl; have bk8_1 := blk_c BK8.out 1 rfl; have bk8_2 := blk_c BK8.out 2 rfl; have bk13_0 := blk_c BK13.out 0 rfl; have bk13_1 := blk_c BK13.out 1 rfl; have bk13_2 := blk_c BK13.out 2 rfl; have bk13_3 := blk_c BK13.out 3 rfl; have bk13_4 := blk_c BK13.out 4 rfl; have bk13_5 := blk_c BK13.out 5 rfl; have bk4_f := fun i => blk_frozen BK4.out i; have bk8_f := fun i => blk_frozen BK8.out i; have bk13_f := fun i => blk_frozen BK13.out i))
      clear bk4_0 bk4_1 bk4_2 bk4_f bk8_0 bk8_1 bk8_2 bk8_f bk13_0 bk13_1 bk13_2 bk13_3 bk13_4 bk13_5 bk13_f
      have s0_HO0 := far_set6 HO0.out (X_gb13_HO0.out) (.int .i64 t) (.int .i64 o) (.int .u64 n) (.int .u64 0) (.int .u8 0) (.int .i64 0)
      have s0_HO1 := far_set6 HO1.out (X_gb13_HO1.out) (.int .i64 t) (.int .i64 o) (.int .u64 n) (.int .u64 0) (.int .u8 0) (.int .i64 0)
      have s0_BK4 := blk_far6 BK4.out NE_gb4_gb13.out (.int .i64 t) (.int .i64 o) (.int .u64 n) (.int .u64 0) (.int .u8 0) (.int .i64 0)
      have s0_BK8 := blk_far6 BK8.out NE_gb8_gb13.out (.int .i64 t) (.int .i64 o) (.int .u64 n) (.int .u64 0) (.int .u8 0) (.int .i64 0)
      have s0_BK13 := blk_put6 BK13.out (.int .i64 t) (.int .i64 o) (.int .u64 n) (.int .u64 0) (.int .u8 0) (.int .i64 0)
      have s0_HB := below_set6 HB.out GE_gb13.out (.int .i64 t) (.int .i64 o) (.int .u64 n) (.int .u64 0) (.int .u8 0) (.int .i64 0)
      have n_BK4 := Aside0.mk s0_BK4
      have n_BK8 := Aside0.mk s0_BK8
      have n_BK13 := Aside0.mk s0_BK13
      have n_HO0 := Aside0.mk s0_HO0
      have n_HO1 := Aside0.mk s0_HO1
      have n_HB := Aside0.mk s0_HB
      clear s0_BK4 s0_BK8 s0_BK13 s0_HO0 s0_HO1 s0_HB
      clear BK4 BK8 BK13 HO0 HO1 HB
      generalize ((((((w3.setCell ⟨gb13, 0, none⟩ (.int .i64 t)).setCell ⟨gb13, 1, none⟩ (.int .i64 o)).setCell ⟨gb13, 2, none⟩ (.int .u64 n)).setCell ⟨gb13, 3, none⟩ (.int .u64 0)).setCell ⟨gb13, 4, none⟩ (.int .u8 0)).setCell ⟨gb13, 5, none⟩ (.int .i64 0)) = w6 at n_BK4 n_BK8 n_BK13 n_HO0 n_HO1 n_HB ⊢
      have BK4 := n_BK4
      have BK8 := n_BK8
      have BK13 := n_BK13
      have HO0 := n_HO0
      have HO1 := n_HO1
      have HB := n_HB
      clear n_BK4 n_BK8 n_BK13 n_HO0 n_HO1 n_HB
      have bk4_0 := blk_c BK4.out 0 rfl; have bk4_1 := blk_c BK4.out 1 rfl; have bk4_2 := blk_c BK4.out 2 rfl; have bk8_0 := blk_c BK8.out 0 rfl; have bk8_1 := blk_c BK8.out 1 rfl; have bk8_2 := blk_c BK8.out 2 rfl; have bk13_0 := blk_c BK13.out 0 rfl; have bk13_1 := blk_c BK13.out 1 rfl; have bk13_2 := blk_c BK13.out 2 rfl; have bk13_3 := blk_c BK13.out 3 rfl; have bk13_4 := blk_c BK13.out 4 rfl; have bk13_5 := blk_c BK13.out 5 rfl; have bk4_f := fun i => blk_frozen BK4.out i; have bk8_f := fun i => blk_frozen BK8.out i; have bk13_f := fun i => blk_frozen BK13.out i
      obtain ⟨sj, hsj⟩ : ∃ sj : Int, (if L.length = 0 then (1 : Int) else 0) = sj := ⟨_, rfl⟩
      have HSJ := Aside0.mk hsj
      obtain ⟨bz, hbz⟩ : ∃ b, ((L.length : Int) == 0) = b := ⟨_, rfl⟩
      have HBZ := Aside0.mk hbz
      clear hsj
      go_upto_if 53 with (fail)
      clear hbz
      go_cut [] (fun wx => Aside0 (wx.heap[gb4]? = some (.cells #[.slice A0 L.length c0, .slice A1 D.length c1, .int .i64 g] 58 (0, 0))) ∧ Aside0 (wx.heap[gb8]? = some (.cells #[.slice none 0 0, .slice none 0 0, .int .i64 0] 58 (0, 0))) ∧ Aside0 (wx.heap[gb13]? = some (.cells #[.int .i64 t, .int .i64 o, .int .u64 n, .int .u64 0, .int .u8 sj, .int .i64 0] 65 (0, 0))) ∧ Aside0 (Kd.R k65 65 wx b (fun _ => True) (.slice A0 L.length c0) L) ∧ Aside0 (Kd.R k65 65 wx b (fun _ => True) (.slice A1 D.length c1) D) ∧ Aside0 (Below w.heap.size w wx))
      case first =>
        cases bz
        case' true =>
          have ej : (1 : Int) = sj := by rw [← HSJ.out, if_pos (by have := beq_iff_eq.1 HBZ.out; omega)]
          go_wp2
          subst ej
          go_meet
          case rel =>
            clear bk4_0 bk4_1 bk4_2 bk4_f bk8_0 bk8_1 bk8_2 bk8_f bk13_0 bk13_1 bk13_2 bk13_3 bk13_4 bk13_5 bk13_f
            have s0_HO0 := far_set (p := ⟨gb13, 4, none⟩) HO0.out (X_gb13_HO0.out) (.int .u8 1)
            have s0_HO1 := far_set (p := ⟨gb13, 4, none⟩) HO1.out (X_gb13_HO1.out) (.int .u8 1)
            have s0_BK4 := blk_far BK4.out (p := ⟨gb13, 4, none⟩) NE_gb4_gb13.out (.int .u8 1)
            have s0_BK8 := blk_far BK8.out (p := ⟨gb13, 4, none⟩) NE_gb8_gb13.out (.int .u8 1)
            have s0_BK13 := blk_put (cs' := #[.int .i64 t, .int .i64 o, .int .u64 n, .int .u64 0, .int .u8 1, .int .i64 0]) BK13.out 4 (.int .u8 1) rfl
            have s0_HB := below_set (j := 4) (v := .int .u8 1) HB.out GE_gb13.out
            have n_BK4 := Aside0.mk s0_BK4
            have n_BK8 := Aside0.mk s0_BK8
            have n_BK13 := Aside0.mk s0_BK13
            have n_HO0 := Aside0.mk s0_HO0
            have n_HO1 := Aside0.mk s0_HO1
            have n_HB := Aside0.mk s0_HB
            clear s0_BK4 s0_BK8 s0_BK13 s0_HO0 s0_HO1 s0_HB
            clear BK4 BK8 BK13 HO0 HO1 HB
            generalize (w6.setCell ⟨gb13, 4, none⟩ (.int .u8 1)) = w7 at n_BK4 n_BK8 n_BK13 n_HO0 n_HO1 n_HB ⊢
            have BK4 := n_BK4
            have BK8 := n_BK8
            have BK13 := n_BK13
            have HO0 := n_HO0
            have HO1 := n_HO1
            have HB := n_HB
            clear n_BK4 n_BK8 n_BK13 n_HO0 n_HO1 n_HB
            have bk4_0 := blk_c BK4.out 0 rfl; have bk4_1 := blk_c BK4.out 1 rfl; have bk4_2 := blk_c BK4.out 2 rfl; have bk8_0 := blk_c BK8.out 0 rfl; have bk8_1 := blk_c BK8.out 1 rfl; have bk8_2 := blk_c BK8.out 2 rfl; have bk13_0 := blk_c BK13.out 0 rfl; have bk13_1 := blk_c BK13.out 1 rfl; have bk13_2 := blk_c BK13.out 2 rfl; have bk13_3 := blk_c BK13.out 3 rfl; have bk13_4 := blk_c BK13.out 4 rfl; have bk13_5 := blk_c BK13.out 5 rfl; have bk4_f := fun i => blk_frozen BK4.out i; have bk8_f := fun i => blk_frozen BK8.out i; have bk13_f := fun i => blk_frozen BK13.out i
            exact ⟨BK4, BK8, BK13, HO0, HO1, HB⟩
        case' false =>
          have ej : (0 : Int) = sj := by rw [← HSJ.out, if_neg (fun e => by have := HBZ.out; rw [e] at this; cases this)]
          go_wp2
          subst ej
          go_meet
          case rel => exact ⟨BK4, BK8, BK13, HO0, HO1, HB⟩
      case rest =>
      clear bk4_0 bk4_1 bk4_2 bk4_f bk8_0 bk8_1 bk8_2 bk8_f bk13_0 bk13_1 bk13_2 bk13_3 bk13_4 bk13_5 bk13_f
      clear BK4 BK8 BK13 HO0 HO1 HB
      obtain ⟨BK4, BK8, BK13, HO0, HO1, HB⟩ := hcut
      rename World => w7
      obtain ⟨l1, hl1⟩ : ∃ l1, L ++ [(⟨t, o, n, 0, sj, 0⟩ : S65)] = l1 := ⟨_, rfl⟩
      have HL1 := Aside0.mk hl1
      clear hl1
      have bk4_0 := blk_c BK4.out 0 rfl; have bk4_1 := blk_c BK4.out 1 rfl; have bk4_2 := blk_c BK4.out 2 rfl; have bk8_0 := blk_c BK8.out 0 rfl; have bk8_1 := blk_c BK8.out 1 rfl; have bk8_2 := blk_c BK8.out 2 rfl; have bk13_0 := blk_c BK13.out 0 rfl; have bk13_1 := blk_c BK13.out 1 rfl; have bk13_2 := blk_c BK13.out 2 rfl; have bk13_3 := blk_c BK13.out 3 rfl; have bk13_4 := blk_c BK13.out 4 rfl; have bk13_5 := blk_c BK13.out 5 rfl; have bk4_f := fun i => blk_frozen BK4.out i; have bk8_f := fun i => blk_frozen BK8.out i; have bk13_f := fun i => blk_frozen BK13.out i
      have HNIL := Aside0.mk (Kd.R_nil k65 65 w7 w.heap.size (fun _ => True))
      have HCL := Aside0.mk (Kd.R_reads' HO0.out).2.2
      skip
      go_upto_region 12 with (first | ((with_reducible refine gate_builtin (b := .append) (xs := #[.tmp 55, .tmp 57]) rfl ?_); at_builtin; (refine Kd.R_append_rows k65 (w0 := w) w.heap.size rfl (.tmp 55) (.tmp 57) 56 65 (.agg #[.int .i64 0, .int .i64 0, .int .u64 0, .int .u64 0, .int .u8 0, .int .i64 0]) 48 rfl Try.underlying56 info65 rfl (by decide) (by omega) (.slice none 0 0) ([] : List S65) L A0 L.length c0 (fun _ => True) (fun _ => False) (by first | rfl | (go_simp; done)) (by first | rfl | (go_simp; done)) HNIL.out HCL.out (fun x cs hx => by rw [k65_open hx]; exact k65_mkM _ _ _ x) (fun _ hk => hk.elim) (fun _ _ => trivial) HB.out (below_size HB.out) (by simp only [List.length_nil]; omega) ?_); intro v6 w6 ho hb hg hat; rw [List.nil_append] at ho; obtain ⟨Av, cv, ev⟩ := Kd.R_slice ho; subst ev; have X13V : Aside0 (some gb13 ≠ (.slice Av L.length cv : Value).ownBlock) := ⟨ne_hat (v := .slice none 0 0) (by simp [Value.ownBlock]) (blk_lt BK13.out) hat⟩; clear bk4_0 bk4_1 bk4_2 bk4_f bk8_0 bk8_1 bk8_2 bk8_f bk13_0 bk13_1 bk13_2 bk13_3 bk13_4 bk13_5 bk13_f; replace BK4 := Aside0.mk (blk_grown BK4.out hg (by simp [Value.ownBlock])); replace BK8 := Aside0.mk (blk_grown BK8.out hg (by simp [Value.ownBlock])); replace BK13 := Aside0.mk (blk_grown BK13.out hg (by simp [Value.ownBlock])); replace HO0 := Aside0.mk (Kd.R_grown2 HO0.out rfl hg (fun k hk => by simp [Value.ownBlock] at hk)); replace HO1 := Aside0.mk (Kd.R_grown2 HO1.out rfl hg (fun k hk => by simp [Value.ownBlock] at hk)); have HV := Aside0.mk (ho); replace HB := Aside0.mk (hb); have bk4_0 := blk_c BK4.out 0 rfl; have bk4_1 := blk_c BK4.out 1 rfl; have bk4_2 := blk_c BK4.out 2 rfl; have bk8_0 := blk_c BK8.out 0 rfl; have bk8_1 := blk_c BK8.out 1 rfl; have bk8_2 := blk_c BK8.out 2 rfl; have bk13_0 := blk_c BK13.out 0 rfl; have bk13_1 := blk_c BK13.out 1 rfl; have bk13_2 := blk_c BK13.out 2 rfl; have bk13_3 := blk_c BK13.out 3 rfl; have bk13_4 := blk_c BK13.out 4 rfl; have bk13_5 := blk_c BK13.out 5 rfl; have bk4_f := fun i => blk_frozen BK4.out i; have bk8_f := fun i => blk_frozen BK8.out i; have bk13_f := fun i => blk_frozen BK13.out i; clear ho hb hg hat) | ((with_reducible refine gate_builtin (b := .append) (xs := #[.tmp 59, .tmp 61]) rfl ?_); at_builtin; (refine Kd.R_append k65 (w0 := w) w.heap.size rfl (.tmp 59) (.tmp 61) 56 65 (.agg #[.int .i64 0, .int .i64 0, .int .u64 0, .int .u64 0, .int .u8 0, .int .i64 0]) 48 rfl Try.underlying56 info65 rfl (by decide) (by omega) (.slice Av L.length cv) L (⟨t, o, n, 0, sj, 0⟩ : S65) [.int .i64 t, .int .i64 o, .int .u64 n, .int .u64 0, .int .u8 sj, .int .i64 0] (fun _ => True) (fun _ => False) (by first | rfl | (go_simp; done)) (by first | rfl | (go_simp; done)) (k65_mkM _ _ _ (⟨t, o, n, 0, sj, 0⟩ : S65)) (fun _ hk => hk.elim) (fun _ _ => trivial) HV.out HB.out (below_size HB.out) (by omega) ?_); intro v6 w6 ho hb hg hat; rw [HL1.out] at ho; obtain ⟨Aw, cw, ev⟩ := Kd.R_slice ho; subst ev; clear bk4_0 bk4_1 bk4_2 bk4_f bk8_0 bk8_1 bk8_2 bk8_f bk13_0 bk13_1 bk13_2 bk13_3 bk13_4 bk13_5 bk13_f; replace BK4 := Aside0.mk (blk_grown BK4.out hg (blk_row BK4.out HV.out (by decide))); replace BK8 := Aside0.mk (blk_grown BK8.out hg (blk_row BK8.out HV.out (by decide))); replace BK13 := Aside0.mk (blk_grown BK13.out hg X13V.out); replace HO0 := Aside0.mk (Kd.R_grown2 HO0.out rfl hg (fun k hk e => by have h1 := Kd.R_base HV.out k hk; have h2 := Q0.out k e.symm; omega)); replace HO1 := Aside0.mk (Kd.R_grown2 HO1.out rfl hg (fun k hk e => by have h1 := Kd.R_base HV.out k hk; have h2 := Q1.out k e.symm; omega)); have HW := Aside0.mk (ho); replace HB := Aside0.mk (hb); clear HV; have bk4_0 := blk_c BK4.out 0 rfl; have bk4_1 := blk_c BK4.out 1 rfl; have bk4_2 := blk_c BK4.out 2 rfl; have bk8_0 := blk_c BK8.out 0 rfl; have bk8_1 := blk_c BK8.out 1 rfl; have bk8_2 := blk_c BK8.out 2 rfl; have bk13_0 := blk_c BK13.out 0 rfl; have bk13_1 := blk_c BK13.out 1 rfl; have bk13_2 := blk_c BK13.out 2 rfl; have bk13_3 := blk_c BK13.out 3 rfl; have bk13_4 := blk_c BK13.out 4 rfl; have bk13_5 := blk_c BK13.out 5 rfl; have bk4_f := fun i => blk_frozen BK4.out i; have bk8_f := fun i => blk_frozen BK8.out i; have bk13_f := fun i => blk_frozen BK13.out i; clear ho hb hg hat))
      clear HNIL HCL
      clear bk4_0 bk4_1 bk4_2 bk4_f bk8_0 bk8_1 bk8_2 bk8_f bk13_0 bk13_1 bk13_2 bk13_3 bk13_4 bk13_5 bk13_f
      have s0_HO0 := Kd.R_set HO0.out BK4.out (by decide) 0 (.slice Aw l1.length cw)
      have s0_HO1 := Kd.R_set HO1.out BK4.out (by decide) 0 (.slice Aw l1.length cw)
      have s0_HW := Kd.R_set HW.out BK4.out (by decide) 0 (.slice Aw l1.length cw)
      have s0_BK4 := blk_put (cs' := #[.slice Aw l1.length cw, .slice A1 D.length c1, .int .i64 g]) BK4.out 0 (.slice Aw l1.length cw) rfl
      have s0_BK8 := blk_far BK8.out (p := ⟨gb4, 0, none⟩) (Ne.symm NE_gb4_gb8.out) (.slice Aw l1.length cw)
      have s0_BK13 := blk_far BK13.out (p := ⟨gb4, 0, none⟩) (Ne.symm NE_gb4_gb13.out) (.slice Aw l1.length cw)
      have s0_HB := below_set (j := 0) (v := .slice Aw l1.length cw) HB.out GE_gb4.out
      have n_BK4 := Aside0.mk s0_BK4
      have n_BK8 := Aside0.mk s0_BK8
      have n_BK13 := Aside0.mk s0_BK13
      have n_HO0 := Aside0.mk s0_HO0
      have n_HO1 := Aside0.mk s0_HO1
      have n_HW := Aside0.mk s0_HW
      have n_HB := Aside0.mk s0_HB
      clear s0_BK4 s0_BK8 s0_BK13 s0_HO0 s0_HO1 s0_HW s0_HB
      clear BK4 BK8 BK13 HO0 HO1 HW HB
      generalize (w6.setCell ⟨gb4, 0, none⟩ (.slice Aw l1.length cw)) = w8 at n_BK4 n_BK8 n_BK13 n_HO0 n_HO1 n_HW n_HB ⊢
      have BK4 := n_BK4
      have BK8 := n_BK8
      have BK13 := n_BK13
      have HO0 := n_HO0
      have HO1 := n_HO1
      have HW := n_HW
      have HB := n_HB
      clear n_BK4 n_BK8 n_BK13 n_HO0 n_HO1 n_HW n_HB
      have bk4_0 := blk_c BK4.out 0 rfl; have bk4_1 := blk_c BK4.out 1 rfl; have bk4_2 := blk_c BK4.out 2 rfl; have bk8_0 := blk_c BK8.out 0 rfl; have bk8_1 := blk_c BK8.out 1 rfl; have bk8_2 := blk_c BK8.out 2 rfl; have bk13_0 := blk_c BK13.out 0 rfl; have bk13_1 := blk_c BK13.out 1 rfl; have bk13_2 := blk_c BK13.out 2 rfl; have bk13_3 := blk_c BK13.out 3 rfl; have bk13_4 := blk_c BK13.out 4 rfl; have bk13_5 := blk_c BK13.out 5 rfl; have bk4_f := fun i => blk_frozen BK4.out i; have bk8_f := fun i => blk_frozen BK8.out i; have bk13_f := fun i => blk_frozen BK13.out i
      refine start_ (n := 7) (S := fun w' => w'.cell? ⟨gb4, 0, none⟩ = some (.slice Aw l1.length cw) ∧ w'.cell? ⟨gb4, 1, none⟩ = some (.slice A1 D.length c1) ∧ w'.cell? ⟨gb4, 2, none⟩ = some (.int .i64 g) ∧ w'.cell? ⟨gb13, 4, none⟩ = some (.int .u8 sj)) (ds := []) #[false, false, false, false, false, false, false] (by kernel_rfl) rfl rfl ⟨(blk_cell (blk_drew BK4.out) 0).trans rfl, (blk_cell (blk_drew BK4.out) 1).trans rfl, (blk_cell (blk_drew BK4.out) 2).trans rfl, (blk_cell (blk_drew BK13.out) 4).trans rfl⟩ (fun hHeld => ?_)
      refine with_tabW join12.tab join12.bits (fun HT_ HW_ => ?_)
      clear bk4_0 bk4_1 bk4_2 bk4_f bk8_0 bk8_1 bk8_2 bk8_f bk13_0 bk13_1 bk13_2 bk13_3 bk13_4 bk13_5 bk13_f
      replace BK4 := Aside0.mk (blk_drew BK4.out); replace BK8 := Aside0.mk (blk_drew BK8.out); replace BK13 := Aside0.mk (blk_drew BK13.out); replace HO0 := Aside0.mk (Kd.R_drew HO0.out); replace HO1 := Aside0.mk (Kd.R_drew HO1.out); replace HW := Aside0.mk (Kd.R_drew HW.out); replace HB := Aside0.mk (below_drew1 HB.out); have bk4_0 := blk_c BK4.out 0 rfl; have bk4_1 := blk_c BK4.out 1 rfl; have bk4_2 := blk_c BK4.out 2 rfl; have bk8_0 := blk_c BK8.out 0 rfl; have bk8_1 := blk_c BK8.out 1 rfl; have bk8_2 := blk_c BK8.out 2 rfl; have bk13_0 := blk_c BK13.out 0 rfl; have bk13_1 := blk_c BK13.out 1 rfl; have bk13_2 := blk_c BK13.out 2 rfl; have bk13_3 := blk_c BK13.out 3 rfl; have bk13_4 := blk_c BK13.out 4 rfl; have bk13_5 := blk_c BK13.out 5 rfl; have bk4_f := fun i => blk_frozen BK4.out i; have bk8_f := fun i => blk_frozen BK8.out i; have bk13_f := fun i => blk_frozen BK13.out i
      clear bk4_0 bk4_1 bk4_2 bk4_f bk8_0 bk8_1 bk8_2 bk8_f bk13_0 bk13_1 bk13_2 bk13_3 bk13_4 bk13_5 bk13_f
      generalize w8.drew = w9 at BK4 BK8 BK13 HO0 HO1 HW HB hHeld ⊢
      refine take_ (i := 0) (N := some 64) (v := ?_) (a' := ?_) #[true, false, false, false, false, false, false] rfl rfl (take_ofW HT_.out HW_.out (by kernel_rfl)) (fun _ _ _ h => h) (Or.inl ⟨by rfl, ?_⟩) hHeld ?_ ?_
      rotate_left
      · rintro w' ⟨s0, s1, s2, s3⟩
        go_simp
        with_reducible rfl
      rotate_left
      · simp only [Act.put, List.setIfInBounds_toArray, List.set_cons_zero, List.set_cons_succ, i64_w, i32_w]
        rfl
      refine pure_ (i := 1) (N := some 65) (v := ?_) (a' := ?_) #[true, true, false, false, false, false, false] rfl rfl (any_of HT_.out (by kernel_rfl)) (fun _ _ _ h => h) (Or.inl ⟨by rfl, ?_⟩) ?_ ?_
      rotate_left
      · intro w'
        go_simp
        with_reducible rfl
      rotate_left
      · simp only [Act.put, List.setIfInBounds_toArray, List.set_cons_zero, List.set_cons_succ, i64_w, i32_w]
        rfl
      refine take_ (i := 2) (N := some 66) (v := ?_) (a' := ?_) #[true, true, true, false, false, false, false] rfl rfl (take_ofW HT_.out HW_.out (by kernel_rfl)) (fun _ _ _ h => h) (Or.inl ⟨by rfl, ?_⟩) hHeld ?_ ?_
      rotate_left
      · rintro w' ⟨s0, s1, s2, s3⟩
        go_simp
        with_reducible rfl
      rotate_left
      · simp only [Act.put, List.setIfInBounds_toArray, List.set_cons_zero, List.set_cons_succ, i64_w, i32_w]
        rfl
      refine pure_ (i := 3) (N := some 67) (v := ?_) (a' := ?_) #[true, true, true, true, false, false, false] rfl rfl (any_of HT_.out (by kernel_rfl)) (fun _ _ _ h => h) (Or.inl ⟨by rfl, ?_⟩) ?_ ?_
      rotate_left
      · intro w'
        go_simp
        with_reducible rfl
      rotate_left
      · simp only [Act.put, List.setIfInBounds_toArray, List.set_cons_zero, List.set_cons_succ, i64_w, i32_w]
        rfl
      refine one_ (i := 4) (N := none) #[true, true, true, true, true, false, false] rfl rfl (one_of HT_.out (by kernel_rfl)) (by decide) (fun K hK => ?_)
      have st4_0 := (blk_cell BK8.out 0).trans (show _ = some (.slice none 0 0) from rfl)
      have st4_1 := (blk_cell BK8.out 1).trans (show _ = some (.slice none 0 0) from rfl)
      have st4_2 := (blk_cell BK8.out 2).trans (show _ = some (.int .i64 0) from rfl)
      have st4_3 := blk_frozen BK8.out 0
      have st4_4 := blk_frozen BK8.out 1
      have st4_5 := blk_frozen BK8.out 2
      have st4_6 := NE_gb4_gb8.out
      have st4_7 := Ne.symm NE_gb4_gb8.out
      have st4_8 := NE_gb8_gb13.out
      have st4_9 := Ne.symm NE_gb8_gb13.out
      refine skip_ (w1 := ?_) (by rfl) rfl ?_ ?_
      rotate_left
      · go_simp
        rfl
      refine hK.out _ _ ⟨((cell_far (p := ⟨gb8, _, none⟩) NE_gb4_gb8.out _).trans ((cell_far (p := ⟨gb8, _, none⟩) NE_gb4_gb8.out _).trans ((cell_far (p := ⟨gb8, _, none⟩) NE_gb4_gb8.out _).trans hHeld.1))), ((cell_far (p := ⟨gb8, _, none⟩) NE_gb4_gb8.out _).trans ((cell_far (p := ⟨gb8, _, none⟩) NE_gb4_gb8.out _).trans ((cell_far (p := ⟨gb8, _, none⟩) NE_gb4_gb8.out _).trans hHeld.2.1))), ((cell_far (p := ⟨gb8, _, none⟩) NE_gb4_gb8.out _).trans ((cell_far (p := ⟨gb8, _, none⟩) NE_gb4_gb8.out _).trans ((cell_far (p := ⟨gb8, _, none⟩) NE_gb4_gb8.out _).trans hHeld.2.2.1))), ((cell_far (p := ⟨gb8, _, none⟩) (Ne.symm NE_gb8_gb13.out) _).trans ((cell_far (p := ⟨gb8, _, none⟩) (Ne.symm NE_gb8_gb13.out) _).trans ((cell_far (p := ⟨gb8, _, none⟩) (Ne.symm NE_gb8_gb13.out) _).trans hHeld.2.2.2)))⟩ (fun hHeld => ?_)
      clear hK K
      clear st4_0 st4_1 st4_2 st4_3 st4_4 st4_5 st4_6 st4_7 st4_8 st4_9
      refine pure_ (i := 5) (N := some 9) (v := ?_) (a' := ?_) #[true, true, true, true, true, true, false] rfl rfl (any_of HT_.out (by kernel_rfl)) (fun _ _ _ h => h) (Or.inl ⟨by rfl, ?_⟩) ?_ ?_
      rotate_left
      · intro w'
        go_simp
        with_reducible rfl
      rotate_left
      · simp only [Act.put, List.setIfInBounds_toArray, List.set_cons_zero, List.set_cons_succ, i64_w, i32_w]
        rfl
      refine pure_ (i := 6) (N := some 10) (v := ?_) (a' := ?_) #[true, true, true, true, true, true, true] rfl rfl (any_of HT_.out (by kernel_rfl)) (fun _ _ _ h => h) (Or.inl ⟨by rfl, ?_⟩) ?_ ?_
      rotate_left
      · intro w'
        go_simp
        with_reducible rfl
      rotate_left
      · simp only [Act.put, List.setIfInBounds_toArray, List.set_cons_zero, List.set_cons_succ, i64_w, i32_w]
        rfl
      refine done_ (done_of HT_.out (by kernel_rfl)) ?_
      have bk4_0 := blk_c BK4.out 0 rfl; have bk4_1 := blk_c BK4.out 1 rfl; have bk4_2 := blk_c BK4.out 2 rfl; have bk8_0 := blk_c BK8.out 0 rfl; have bk8_1 := blk_c BK8.out 1 rfl; have bk8_2 := blk_c BK8.out 2 rfl; have bk13_0 := blk_c BK13.out 0 rfl; have bk13_1 := blk_c BK13.out 1 rfl; have bk13_2 := blk_c BK13.out 2 rfl; have bk13_3 := blk_c BK13.out 3 rfl; have bk13_4 := blk_c BK13.out 4 rfl; have bk13_5 := blk_c BK13.out 5 rfl; have bk4_f := fun i => blk_frozen BK4.out i; have bk8_f := fun i => blk_frozen BK8.out i; have bk13_f := fun i => blk_frozen BK13.out i
      go_wp2
      clear bk4_0 bk4_1 bk4_2 bk4_f bk8_0 bk8_1 bk8_2 bk8_f bk13_0 bk13_1 bk13_2 bk13_3 bk13_4 bk13_5 bk13_f
      have s0_HO0 := far_set3 HO0.out (blk_rowG BK8.out HO0.out (by decide)) (.slice Aw l1.length cw) (.slice A1 D.length c1) (.int .i64 g)
      have s0_HO1 := far_set3 HO1.out (blk_rowG BK8.out HO1.out (by decide)) (.slice Aw l1.length cw) (.slice A1 D.length c1) (.int .i64 g)
      have s0_HW := far_set3 HW.out (blk_rowG BK8.out HW.out (by decide)) (.slice Aw l1.length cw) (.slice A1 D.length c1) (.int .i64 g)
      have s0_BK4 := blk_far3 BK4.out NE_gb4_gb8.out (.slice Aw l1.length cw) (.slice A1 D.length c1) (.int .i64 g)
      have s0_BK8 := blk_put3 BK8.out (.slice Aw l1.length cw) (.slice A1 D.length c1) (.int .i64 g)
      have s0_BK13 := blk_far3 BK13.out (Ne.symm NE_gb8_gb13.out) (.slice Aw l1.length cw) (.slice A1 D.length c1) (.int .i64 g)
      have s0_HB := below_set3 HB.out GE_gb8.out (.slice Aw l1.length cw) (.slice A1 D.length c1) (.int .i64 g)
      have n_BK4 := Aside0.mk s0_BK4
      have n_BK8 := Aside0.mk s0_BK8
      have n_BK13 := Aside0.mk s0_BK13
      have n_HO0 := Aside0.mk s0_HO0
      have n_HO1 := Aside0.mk s0_HO1
      have n_HW := Aside0.mk s0_HW
      have n_HB := Aside0.mk s0_HB
      clear s0_BK4 s0_BK8 s0_BK13 s0_HO0 s0_HO1 s0_HW s0_HB
      clear BK4 BK8 BK13 HO0 HO1 HW HB
      generalize (((w9.setCell ⟨gb8, 0, none⟩ (.slice Aw l1.length cw)).setCell ⟨gb8, 1, none⟩ (.slice A1 D.length c1)).setCell ⟨gb8, 2, none⟩ (.int .i64 g)) = w12 at n_BK4 n_BK8 n_BK13 n_HO0 n_HO1 n_HW n_HB ⊢
      have BK4 := n_BK4
      have BK8 := n_BK8
      have BK13 := n_BK13
      have HO0 := n_HO0
      have HO1 := n_HO1
      have HW := n_HW
      have HB := n_HB
      clear n_BK4 n_BK8 n_BK13 n_HO0 n_HO1 n_HW n_HB
      have bk4_0 := blk_c BK4.out 0 rfl; have bk4_1 := blk_c BK4.out 1 rfl; have bk4_2 := blk_c BK4.out 2 rfl; have bk8_0 := blk_c BK8.out 0 rfl; have bk8_1 := blk_c BK8.out 1 rfl; have bk8_2 := blk_c BK8.out 2 rfl; have bk13_0 := blk_c BK13.out 0 rfl; have bk13_1 := blk_c BK13.out 1 rfl; have bk13_2 := blk_c BK13.out 2 rfl; have bk13_3 := blk_c BK13.out 3 rfl; have bk13_4 := blk_c BK13.out 4 rfl; have bk13_5 := blk_c BK13.out 5 rfl; have bk4_f := fun i => blk_frozen BK4.out i; have bk8_f := fun i => blk_frozen BK8.out i; have bk13_f := fun i => blk_frozen BK13.out i
      refine bodyPost_ret (results_ctt rfl _ _ gb8 58 #[.slice Aw l1.length cw, .slice A1 D.length c1, .int .i64 g] (0, 0) _ rfl BK8.out Try.underlying58 rfl (by kernel_rfl)) rfl ?_
      have ez : (sj == 1) = decide (L.length = 0) := by rw [← HSJ.out]; by_cases h : L.length = 0 <;> simp [h]
      rw [show joinR L D t o n = (l1, decide (L.length = 0), 0) from by unfold joinR; rw [if_neg (by rw [HBAD.out]; decide), HQ.out, if_neg (fun h => by cases h), HSJ.out, HL1.out], ← ez]
      exact ⟨_, _, rfl, Kd.R_lower HW.out HBW.out, HO1.out, HB.out⟩
theorem updN_take1 (up : S65 → S65) (n : Nat) (L : List S65) (i : Nat) (h : i < L.length) : (updN up n L).take (i + 1) = (updN up n L).take i ++ [if i < n then up (L.getD i z65) else L.getD i z65] := by
  rw [List.take_succ_eq_append_getElem (by rw [updN_len]; exact h)]
  congr 2
  have := updN_get up n L i h
  rw [List.getD_eq_getElem?_getD, List.getElem?_eq_getElem (by rw [updN_len]; exact h)] at this
  exact this
set_option maxHeartbeats 8000000 in
set_option maxRecDepth 100000 in
theorem refApply_at (A0 : Option Addr) (c0 : Nat) (L : List S65) (A1 : Option Addr) (c1 : Nat) (D : List S65) (b : Nat) (g : Int) (w : World) (hbw : b ≤ w.heap.size) (hr0 : Kd.R k65 65 w b (fun _ => True) (.slice A0 L.length c0) L) (hr1 : Kd.R k65 65 w b (fun _ => True) (.slice A1 D.length c1) D) (hl0 : L.length ≤ 1000) (hg0 : 0 ≤ g) (hg1 : g ≤ L.length) :
    Calls Try.prog 49 #[.agg #[.slice A0 L.length c0, .slice A1 D.length c1, .int .i64 g]] w fun e w' => ∃ (AL : Option Addr) (cL : Nat) (AT : Option Addr) (cT : Nat), e = .returned (.tuple #[.agg #[.slice AL L.length cL, .slice A1 D.length c1, .int .i64 g], .slice AT ((L.take g.toNat).map S65.f0).length cT]) ∧ Kd.R k65 65 w' b (fun _ => True) (.slice AL L.length cL) (updN sayApply g.toNat L) ∧ Kd.R k65 65 w' b (fun _ => True) (.slice A1 D.length c1) D ∧ Kd.R (Kd.int .i64) 3 w' b (fun _ => True) (.slice AT ((L.take g.toNat).map S65.f0).length cT) ((L.take g.toNat).map S65.f0) ∧ Below w.heap.size w w' := by
  obtain ⟨N, rfl⟩ : ∃ N : Nat, g = (N : Int) := ⟨g.toNat, by omega⟩
  have hN : N ≤ L.length := by omega
  rw [Int.toNat_natCast]
  have HO0 := Aside0.mk hr0
  have HO1 := Aside0.mk hr1
  have HB := Aside0.mk (Below.refl w.heap.size w)
  have HBW := Aside0.mk hbw
  have Q0 : Aside0 (∀ k, (.slice A0 L.length c0 : Value).ownBlock = some k → k < w.heap.size) := ⟨Kd.R_lt hr0⟩
  have Q1 : Aside0 (∀ k, (.slice A1 D.length c1 : Value).ownBlock = some k → k < w.heap.size) := ⟨Kd.R_lt hr1⟩
  clear hr0 hr1 hbw hg0 hg1
  go_enter Try.func49, Try.ntmps49
  go_wp2_with (first | ((with_reducible refine gate_dst (N := 1) rfl ?_); refine box_event ?hg (N := 1) ?hd (cs := #[.slice A0 L.length c0, .slice A1 D.length c1, .int .i64 (N : Int)]) (t := 58) ?hr ?_; (case hd => rfl); (case hg => rfl); (case hr => first | (go_simp; done) | (go_simp; rfl)); intro gb1 hg w3 hbox hb; have GE_gb1 := Aside0.mk (show w.heap.size ≤ gb1 from by rw [hg]; exact below_size HB.out); clear hg; skip; replace HO0 := Aside0.mk (Kd.R_below HO0.out hb); replace HO1 := Aside0.mk (Kd.R_below HO1.out hb); replace HB := Aside0.mk (below_step HB.out hb); clear hb; have BK1 := Aside0.mk hbox; clear hbox; have bk1_0 := blk_c BK1.out 0 rfl; have bk1_1 := blk_c BK1.out 1 rfl; have bk1_2 := blk_c BK1.out 2 rfl; have bk1_f := fun i => blk_frozen BK1.out i) | ((with_reducible refine gate_dst (N := 2) rfl ?_); refine box_event ?hg (N := 2) ?hd (cs := #[.slice none 0 0, .slice none 0 0, .int .i64 0]) (t := 58) ?hr ?_; (case hd => rfl); (case hg => rfl); (case hr => first | (go_simp; done) | (go_simp; rfl)); intro gb2 hg w3 hbox hb; have NE_gb1_gb2 := Aside0.mk (show gb1 ≠ gb2 from by rw [hg]; exact Nat.ne_of_lt (blk_lt BK1.out)); have GE_gb2 := Aside0.mk (show w.heap.size ≤ gb2 from by rw [hg]; exact below_size HB.out); clear hg; clear bk1_0 bk1_1 bk1_2 bk1_f; replace BK1 := Aside0.mk (blk_below BK1.out hb); replace HO0 := Aside0.mk (Kd.R_below HO0.out hb); replace HO1 := Aside0.mk (Kd.R_below HO1.out hb); replace HB := Aside0.mk (below_step HB.out hb); clear hb; have BK2 := Aside0.mk hbox; clear hbox; have bk1_0 := blk_c BK1.out 0 rfl; have bk1_1 := blk_c BK1.out 1 rfl; have bk1_2 := blk_c BK1.out 2 rfl; have bk2_0 := blk_c BK2.out 0 rfl; have bk2_1 := blk_c BK2.out 1 rfl; have bk2_2 := blk_c BK2.out 2 rfl; have bk1_f := fun i => blk_frozen BK1.out i; have bk2_f := fun i => blk_frozen BK2.out i))
  clear bk1_0 bk1_1 bk1_2 bk1_f bk2_0 bk2_1 bk2_2 bk2_f
  go_loopw [4, 5, 6] (fun v4 v5 v6 wr => ∃ (i : Nat) (A4 : Option Addr) (c4 : Nat) (A5 : Option Addr) (c5 : Nat), i ≤ L.length ∧ v6 = .int .i64 i ∧ v4 = .slice A4 i c4 ∧ v5 = .slice A5 (min i N) c5 ∧ Aside0 (wr.heap[gb1]? = some (.cells #[.slice A0 L.length c0, .slice A1 D.length c1, .int .i64 (N : Int)] 58 (0, 0))) ∧ Aside0 (wr.heap[gb2]? = some (.cells #[.slice none 0 0, .slice none 0 0, .int .i64 0] 58 (0, 0))) ∧ Aside0 (Kd.R k65 65 wr b (fun _ => True) (.slice A0 L.length c0) L) ∧ Aside0 (Kd.R k65 65 wr b (fun _ => True) (.slice A1 D.length c1) D) ∧ Aside0 (Kd.R k65 65 wr w.heap.size (fun _ => True) (.slice A4 i c4) ((updN sayApply N L).take i)) ∧ Aside0 (Kd.R (Kd.int .i64) 3 wr w.heap.size (fun _ => True) (.slice A5 (min i N) c5) ((L.take (min i N)).map S65.f0)) ∧ Aside0 (Below w.heap.size w wr)) (fun v4 v5 v6 _ => L.length - (intOf v6).toNat)
  case atStart => exact ⟨0, none, 0, none, 0, Nat.zero_le _, rfl, rfl, by simp, BK1, BK2, HO0, HO1, ⟨Kd.R_nil _ _ _ _ _⟩, ⟨by simpa using Kd.R_nil (Kd.int .i64) 3 _ _ _⟩, HB⟩
  case round =>
    clear BK1 BK2 HO0 HO1 HB
    obtain ⟨i, A4, c4, A5, c5, hi, rfl, rfl, rfl, BK1, BK2, HO0, HO1, HV, HT, HB⟩ := hrel
    rename World => wo
    by_cases hlt : i < L.length
    · obtain ⟨ad, e0, hx0, hx1, hx2, hx3, hx4, hx5⟩ := at_T65 (Kd.R_reads' HO0.out).2.2 (i : Int) (by omega) (by omega)
      subst e0
      simp only [rd65_nat, Int.toNat_natCast] at hx0 hx1 hx2 hx3 hx4 hx5
      have htk := updN_take1 sayApply N L i hlt
      have htm := take_map_succ S65.f0 z65 L i hlt
      generalize L.getD i z65 = x at hx0 hx1 hx2 hx3 hx4 hx5 htk htm
      have HTK := Aside0.mk htk
      have HTM := Aside0.mk htm
      clear htk htm
      have bk1_0 := blk_c BK1.out 0 rfl; have bk1_1 := blk_c BK1.out 1 rfl; have bk1_2 := blk_c BK1.out 2 rfl; have bk2_0 := blk_c BK2.out 0 rfl; have bk2_1 := blk_c BK2.out 1 rfl; have bk2_2 := blk_c BK2.out 2 rfl; have bk1_f := fun i => blk_frozen BK1.out i; have bk2_f := fun i => blk_frozen BK2.out i
      go_upto_region 7 with (first | ((with_reducible refine gate_dst (N := 7) rfl ?_); refine box_event ?hg (N := 7) ?hd (cs := #[.int .i64 0, .int .i64 0, .int .u64 0, .int .u64 0, .int .u8 0, .int .i64 0]) (t := 65) ?hr ?_; (case hd => rfl); (case hg => rfl); (case hr => first | (go_simp; done) | (go_simp; rfl)); intro gb7 hg w3 hbox hb; have NE_gb1_gb7 := Aside0.mk (show gb1 ≠ gb7 from by rw [hg]; exact Nat.ne_of_lt (blk_lt BK1.out)); have NE_gb2_gb7 := Aside0.mk (show gb2 ≠ gb7 from by rw [hg]; exact Nat.ne_of_lt (blk_lt BK2.out)); have X_gb7_HO0 : Aside0 (some gb7 ≠ (.slice (some ad) L.length c0 : Value).ownBlock) := ⟨fun e => by have := Kd.R_lt HO0.out gb7 e.symm; rw [hg] at this; exact absurd this (Nat.lt_irrefl _)⟩; have X_gb7_HO1 : Aside0 (some gb7 ≠ (.slice A1 D.length c1 : Value).ownBlock) := ⟨fun e => by have := Kd.R_lt HO1.out gb7 e.symm; rw [hg] at this; exact absurd this (Nat.lt_irrefl _)⟩; have X_gb7_HV : Aside0 (some gb7 ≠ (.slice A4 i c4 : Value).ownBlock) := ⟨fun e => by have := Kd.R_lt HV.out gb7 e.symm; rw [hg] at this; exact absurd this (Nat.lt_irrefl _)⟩; have GE_gb7 := Aside0.mk (show w.heap.size ≤ gb7 from by rw [hg]; exact below_size HB.out); clear hg; clear bk1_0 bk1_1 bk1_2 bk1_f bk2_0 bk2_1 bk2_2 bk2_f; replace BK1 := Aside0.mk (blk_below BK1.out hb); replace BK2 := Aside0.mk (blk_below BK2.out hb); replace HO0 := Aside0.mk (Kd.R_below HO0.out hb); replace HO1 := Aside0.mk (Kd.R_below HO1.out hb); replace HV := Aside0.mk (Kd.R_below HV.out hb); replace HT := Aside0.mk (Kd.R_below HT.out hb); replace HB := Aside0.mk (below_step HB.out hb); clear hb; have BK7 := Aside0.mk hbox; clear hbox; have bk1_0 := blk_c BK1.out 0 rfl; have bk1_1 := blk_c BK1.out 1 rfl; have bk1_2 := blk_c BK1.out 2 rfl; have bk2_0 := blk_c BK2.out 0 rfl; have bk2_1 := blk_c BK2.out 1 rfl; have bk2_2 := blk_c BK2.out 2 rfl; have bk7_0 := blk_c BK7.out 0 rfl; have bk7_1 := blk_c BK7.out 1 rfl; have bk7_2 := blk_c BK7.out 2 rfl; have bk7_3 := blk_c BK7.out 3 rfl; have bk7_4 := blk_c BK7.out 4 rfl; have bk7_5 := blk_c BK7.out 5 rfl; have bk1_f := fun i => blk_frozen BK1.out i; have bk2_f := fun i => blk_frozen BK2.out i; have bk7_f := fun i => blk_frozen BK7.out i))
      clear hx0 hx1 hx2 hx3 hx4 hx5
      clear bk1_0 bk1_1 bk1_2 bk1_f bk2_0 bk2_1 bk2_2 bk2_f bk7_0 bk7_1 bk7_2 bk7_3 bk7_4 bk7_5 bk7_f
      have s0_HO0 := far_set6 HO0.out (X_gb7_HO0.out) (.int .i64 x.f0) (.int .i64 x.f1) (.int .u64 x.f2) (.int .u64 x.f3) (.int .u8 x.f4) (.int .i64 x.f5)
      have s0_HO1 := far_set6 HO1.out (X_gb7_HO1.out) (.int .i64 x.f0) (.int .i64 x.f1) (.int .u64 x.f2) (.int .u64 x.f3) (.int .u8 x.f4) (.int .i64 x.f5)
      have s0_HV := far_set6 HV.out (X_gb7_HV.out) (.int .i64 x.f0) (.int .i64 x.f1) (.int .u64 x.f2) (.int .u64 x.f3) (.int .u8 x.f4) (.int .i64 x.f5)
      have s0_HT := far_int6 HT.out (blk_rowG BK7.out HT.out (by decide)) (.int .i64 x.f0) (.int .i64 x.f1) (.int .u64 x.f2) (.int .u64 x.f3) (.int .u8 x.f4) (.int .i64 x.f5)
      have s0_BK1 := blk_far6 BK1.out NE_gb1_gb7.out (.int .i64 x.f0) (.int .i64 x.f1) (.int .u64 x.f2) (.int .u64 x.f3) (.int .u8 x.f4) (.int .i64 x.f5)
      have s0_BK2 := blk_far6 BK2.out NE_gb2_gb7.out (.int .i64 x.f0) (.int .i64 x.f1) (.int .u64 x.f2) (.int .u64 x.f3) (.int .u8 x.f4) (.int .i64 x.f5)
      have s0_BK7 := blk_put6 BK7.out (.int .i64 x.f0) (.int .i64 x.f1) (.int .u64 x.f2) (.int .u64 x.f3) (.int .u8 x.f4) (.int .i64 x.f5)
      have s0_HB := below_set6 HB.out GE_gb7.out (.int .i64 x.f0) (.int .i64 x.f1) (.int .u64 x.f2) (.int .u64 x.f3) (.int .u8 x.f4) (.int .i64 x.f5)
      have n_BK1 := Aside0.mk s0_BK1
      have n_BK2 := Aside0.mk s0_BK2
      have n_BK7 := Aside0.mk s0_BK7
      have n_HO0 := Aside0.mk s0_HO0
      have n_HO1 := Aside0.mk s0_HO1
      have n_HV := Aside0.mk s0_HV
      have n_HT := Aside0.mk s0_HT
      have n_HB := Aside0.mk s0_HB
      clear s0_BK1 s0_BK2 s0_BK7 s0_HO0 s0_HO1 s0_HV s0_HT s0_HB
      clear BK1 BK2 BK7 HO0 HO1 HV HT HB
      generalize ((((((w3.setCell ⟨gb7, 0, none⟩ (.int .i64 x.f0)).setCell ⟨gb7, 1, none⟩ (.int .i64 x.f1)).setCell ⟨gb7, 2, none⟩ (.int .u64 x.f2)).setCell ⟨gb7, 3, none⟩ (.int .u64 x.f3)).setCell ⟨gb7, 4, none⟩ (.int .u8 x.f4)).setCell ⟨gb7, 5, none⟩ (.int .i64 x.f5)) = w4 at n_BK1 n_BK2 n_BK7 n_HO0 n_HO1 n_HV n_HT n_HB ⊢
      have BK1 := n_BK1
      have BK2 := n_BK2
      have BK7 := n_BK7
      have HO0 := n_HO0
      have HO1 := n_HO1
      have HV := n_HV
      have HT := n_HT
      have HB := n_HB
      clear n_BK1 n_BK2 n_BK7 n_HO0 n_HO1 n_HV n_HT n_HB
      have bk1_0 := blk_c BK1.out 0 rfl; have bk1_1 := blk_c BK1.out 1 rfl; have bk1_2 := blk_c BK1.out 2 rfl; have bk2_0 := blk_c BK2.out 0 rfl; have bk2_1 := blk_c BK2.out 1 rfl; have bk2_2 := blk_c BK2.out 2 rfl; have bk7_0 := blk_c BK7.out 0 rfl; have bk7_1 := blk_c BK7.out 1 rfl; have bk7_2 := blk_c BK7.out 2 rfl; have bk7_3 := blk_c BK7.out 3 rfl; have bk7_4 := blk_c BK7.out 4 rfl; have bk7_5 := blk_c BK7.out 5 rfl; have bk1_f := fun i => blk_frozen BK1.out i; have bk2_f := fun i => blk_frozen BK2.out i; have bk7_f := fun i => blk_frozen BK7.out i
      by_cases hc : i < N
      · have d0 : decide ((i : Int) < (N : Int)) = true := decide_eq_true (by omega)
        have d1 : decide (i < N) = true := decide_eq_true hc
        have HVE : Aside0 (((updN sayApply N L).take i) ++ [(⟨x.f0, x.f1, x.f2, x.f3, 2, x.f5⟩ : S65)] = (updN sayApply N L).take (i + 1)) := ⟨by rw [HTK.out, if_pos hc]; rfl⟩
        have HTE : Aside0 (((L.take (min i N)).map S65.f0) ++ [x.f0] = ((L.take (i + 1)).map S65.f0)) := ⟨by rw [Nat.min_eq_left (by omega), HTM.out]⟩
        go_upto_region 9 with (fail)
        clear bk1_0 bk1_1 bk1_2 bk1_f bk2_0 bk2_1 bk2_2 bk2_f bk7_0 bk7_1 bk7_2 bk7_3 bk7_4 bk7_5 bk7_f
        have s0_HO0 := far_set (p := ⟨gb7, 4, none⟩) HO0.out (X_gb7_HO0.out) (.int .u8 2)
        have s0_HO1 := far_set (p := ⟨gb7, 4, none⟩) HO1.out (X_gb7_HO1.out) (.int .u8 2)
        have s0_HV := far_set (p := ⟨gb7, 4, none⟩) HV.out (X_gb7_HV.out) (.int .u8 2)
        have s0_HT := Kd.R_set HT.out BK7.out (by decide) 4 (.int .u8 2)
        have s0_BK1 := blk_far BK1.out (p := ⟨gb7, 4, none⟩) NE_gb1_gb7.out (.int .u8 2)
        have s0_BK2 := blk_far BK2.out (p := ⟨gb7, 4, none⟩) NE_gb2_gb7.out (.int .u8 2)
        have s0_BK7 := blk_put (cs' := #[.int .i64 x.f0, .int .i64 x.f1, .int .u64 x.f2, .int .u64 x.f3, .int .u8 2, .int .i64 x.f5]) BK7.out 4 (.int .u8 2) rfl
        have s0_HB := below_set (j := 4) (v := .int .u8 2) HB.out GE_gb7.out
        have n_BK1 := Aside0.mk s0_BK1
        have n_BK2 := Aside0.mk s0_BK2
        have n_BK7 := Aside0.mk s0_BK7
        have n_HO0 := Aside0.mk s0_HO0
        have n_HO1 := Aside0.mk s0_HO1
        have n_HV := Aside0.mk s0_HV
        have n_HT := Aside0.mk s0_HT
        have n_HB := Aside0.mk s0_HB
        clear s0_BK1 s0_BK2 s0_BK7 s0_HO0 s0_HO1 s0_HV s0_HT s0_HB
        clear BK1 BK2 BK7 HO0 HO1 HV HT HB
        generalize (w4.setCell ⟨gb7, 4, none⟩ (.int .u8 2)) = w7 at n_BK1 n_BK2 n_BK7 n_HO0 n_HO1 n_HV n_HT n_HB ⊢
        have BK1 := n_BK1
        have BK2 := n_BK2
        have BK7 := n_BK7
        have HO0 := n_HO0
        have HO1 := n_HO1
        have HV := n_HV
        have HT := n_HT
        have HB := n_HB
        clear n_BK1 n_BK2 n_BK7 n_HO0 n_HO1 n_HV n_HT n_HB
        have bk1_0 := blk_c BK1.out 0 rfl; have bk1_1 := blk_c BK1.out 1 rfl; have bk1_2 := blk_c BK1.out 2 rfl; have bk2_0 := blk_c BK2.out 0 rfl; have bk2_1 := blk_c BK2.out 1 rfl; have bk2_2 := blk_c BK2.out 2 rfl; have bk7_0 := blk_c BK7.out 0 rfl; have bk7_1 := blk_c BK7.out 1 rfl; have bk7_2 := blk_c BK7.out 2 rfl; have bk7_3 := blk_c BK7.out 3 rfl; have bk7_4 := blk_c BK7.out 4 rfl; have bk7_5 := blk_c BK7.out 5 rfl; have bk1_f := fun i => blk_frozen BK1.out i; have bk2_f := fun i => blk_frozen BK2.out i; have bk7_f := fun i => blk_frozen BK7.out i
        go_wp2_with (first | ((with_reducible refine gate_builtin (b := .append) (xs := #[.tmp 25, .tmp 28]) rfl ?_); at_builtin; (refine Kd.R_append (Kd.int .i64) (w0 := w) w.heap.size rfl (.tmp 25) (.tmp 28) 36 3 (.int .i64 0) 8 rfl Try.underlying36 info3 rfl (by decide) (by omega) (.slice A5 (min i N) c5) ((L.take (min i N)).map S65.f0) x.f0 [.int .i64 x.f0] (fun _ => True) (fun _ => False) (by first | rfl | (go_simp; done)) (by first | rfl | (go_simp; done)) rfl (fun _ hk => hk.elim) (fun _ _ => trivial) HT.out HB.out (below_size HB.out) (by rw [List.length_map, List.length_take]; omega) ?_); intro v6 w6 ho hb hg hat; rw [HTE.out] at ho; obtain ⟨A6, c6, ev⟩ := Kd.R_slice ho; subst ev; clear bk1_0 bk1_1 bk1_2 bk1_f bk2_0 bk2_1 bk2_2 bk2_f bk7_0 bk7_1 bk7_2 bk7_3 bk7_4 bk7_5 bk7_f; replace BK1 := Aside0.mk (blk_grown BK1.out hg (blk_rowG BK1.out HT.out (by decide))); replace BK2 := Aside0.mk (blk_grown BK2.out hg (blk_rowG BK2.out HT.out (by decide))); replace BK7 := Aside0.mk (blk_grown BK7.out hg (blk_rowG BK7.out HT.out (by decide))); replace HO0 := Aside0.mk (Kd.R_over' HO0.out (Kd.R_typed HT.out) (by decide) hg); replace HO1 := Aside0.mk (Kd.R_over' HO1.out (Kd.R_typed HT.out) (by decide) hg); replace HV := Aside0.mk (Kd.R_over' HV.out (Kd.R_typed HT.out) (by decide) hg); replace HT := Aside0.mk (ho); replace HB := Aside0.mk (hb); have bk1_0 := blk_c BK1.out 0 rfl; have bk1_1 := blk_c BK1.out 1 rfl; have bk1_2 := blk_c BK1.out 2 rfl; have bk2_0 := blk_c BK2.out 0 rfl; have bk2_1 := blk_c BK2.out 1 rfl; have bk2_2 := blk_c BK2.out 2 rfl; have bk7_0 := blk_c BK7.out 0 rfl; have bk7_1 := blk_c BK7.out 1 rfl; have bk7_2 := blk_c BK7.out 2 rfl; have bk7_3 := blk_c BK7.out 3 rfl; have bk7_4 := blk_c BK7.out 4 rfl; have bk7_5 := blk_c BK7.out 5 rfl; have bk1_f := fun i => blk_frozen BK1.out i; have bk2_f := fun i => blk_frozen BK2.out i; have bk7_f := fun i => blk_frozen BK7.out i; clear ho hb hg hat) | ((with_reducible refine gate_builtin (b := .append) (xs := #[.tmp 30, .tmp 32]) rfl ?_); at_builtin; (refine Kd.R_append k65 (w0 := w) w.heap.size rfl (.tmp 30) (.tmp 32) 56 65 (.agg #[.int .i64 0, .int .i64 0, .int .u64 0, .int .u64 0, .int .u8 0, .int .i64 0]) 48 rfl Try.underlying56 info65 rfl (by decide) (by omega) (.slice A4 i c4) ((updN sayApply N L).take i) (⟨x.f0, x.f1, x.f2, x.f3, 2, x.f5⟩ : S65) [.int .i64 x.f0, .int .i64 x.f1, .int .u64 x.f2, .int .u64 x.f3, .int .u8 2, .int .i64 x.f5] (fun _ => True) (fun _ => False) (by first | rfl | (go_simp; done)) (by first | rfl | (go_simp; done)) (k65_mkM _ _ _ (⟨x.f0, x.f1, x.f2, x.f3, 2, x.f5⟩ : S65)) (fun _ hk => hk.elim) (fun _ _ => trivial) HV.out HB.out (below_size HB.out) (by rw [List.length_take]; omega) ?_); intro v6 w6 ho hb hg hat; rw [HVE.out] at ho; obtain ⟨A7, c7, ev⟩ := Kd.R_slice ho; subst ev; clear bk1_0 bk1_1 bk1_2 bk1_f bk2_0 bk2_1 bk2_2 bk2_f bk7_0 bk7_1 bk7_2 bk7_3 bk7_4 bk7_5 bk7_f; replace BK1 := Aside0.mk (blk_grown BK1.out hg (blk_rowG BK1.out HV.out (by decide))); replace BK2 := Aside0.mk (blk_grown BK2.out hg (blk_rowG BK2.out HV.out (by decide))); replace BK7 := Aside0.mk (blk_grown BK7.out hg X_gb7_HV.out); replace HO0 := Aside0.mk (Kd.R_grown2 HO0.out rfl hg (fun k hk e => by have h1 := Kd.R_base HV.out k hk; have h2 := Q0.out k e.symm; omega)); replace HO1 := Aside0.mk (Kd.R_grown2 HO1.out rfl hg (fun k hk e => by have h1 := Kd.R_base HV.out k hk; have h2 := Q1.out k e.symm; omega)); replace HT := Aside0.mk (Kd.R_over' HT.out (Kd.R_typed HV.out) (by decide) hg); replace HV := Aside0.mk (ho); replace HB := Aside0.mk (hb); have bk1_0 := blk_c BK1.out 0 rfl; have bk1_1 := blk_c BK1.out 1 rfl; have bk1_2 := blk_c BK1.out 2 rfl; have bk2_0 := blk_c BK2.out 0 rfl; have bk2_1 := blk_c BK2.out 1 rfl; have bk2_2 := blk_c BK2.out 2 rfl; have bk7_0 := blk_c BK7.out 0 rfl; have bk7_1 := blk_c BK7.out 1 rfl; have bk7_2 := blk_c BK7.out 2 rfl; have bk7_3 := blk_c BK7.out 3 rfl; have bk7_4 := blk_c BK7.out 4 rfl; have bk7_5 := blk_c BK7.out 5 rfl; have bk1_f := fun i => blk_frozen BK1.out i; have bk2_f := fun i => blk_frozen BK2.out i; have bk7_f := fun i => blk_frozen BK7.out i; clear ho hb hg hat))
        go_roundw
        case rel => exact ⟨i + 1, A7, c7, A6, c6, by omega, by go_num, by first | rfl | (congr 1; omega) | (simp only [List.length_take, updN_len]; first | rfl | (congr 1; omega)), by first | rfl | (congr 1; omega) | (simp only [List.length_map, List.length_take]; congr 1; omega), BK1, BK2, HO0, HO1, ⟨by have h := HV.out; rw [show ((updN sayApply N L).take (i + 1)).length = i + 1 by rw [List.length_take, updN_len]; omega] at h; exact h⟩, ⟨by have h := HT.out; rw [show ((L.take (i + 1)).map S65.f0).length = i + 1 by rw [List.length_map, List.length_take]; omega] at h; rw [Nat.min_eq_left (by omega)]; exact h⟩, HB⟩
        case measure => simp [intOf]; omega
      · have d0 : decide ((i : Int) < (N : Int)) = false := decide_eq_false (by omega)
        have d1 : decide (i < N) = false := decide_eq_false hc
        have HVE : Aside0 (((updN sayApply N L).take i) ++ [x] = (updN sayApply N L).take (i + 1)) := ⟨by rw [HTK.out, if_neg hc]⟩
        go_wp2_with (first | ((with_reducible refine gate_builtin (b := .append) (xs := #[.tmp 30, .tmp 32]) rfl ?_); at_builtin; (refine Kd.R_append k65 (w0 := w) w.heap.size rfl (.tmp 30) (.tmp 32) 56 65 (.agg #[.int .i64 0, .int .i64 0, .int .u64 0, .int .u64 0, .int .u8 0, .int .i64 0]) 48 rfl Try.underlying56 info65 rfl (by decide) (by omega) (.slice A4 i c4) ((updN sayApply N L).take i) x [.int .i64 x.f0, .int .i64 x.f1, .int .u64 x.f2, .int .u64 x.f3, .int .u8 x.f4, .int .i64 x.f5] (fun _ => True) (fun _ => False) (by first | rfl | (go_simp; done)) (by first | rfl | (go_simp; done)) (k65_mkM _ _ _ x) (fun _ hk => hk.elim) (fun _ _ => trivial) HV.out HB.out (below_size HB.out) (by rw [List.length_take]; omega) ?_); intro v6 w6 ho hb hg hat; rw [HVE.out] at ho; obtain ⟨A7, c7, ev⟩ := Kd.R_slice ho; subst ev; clear bk1_0 bk1_1 bk1_2 bk1_f bk2_0 bk2_1 bk2_2 bk2_f bk7_0 bk7_1 bk7_2 bk7_3 bk7_4 bk7_5 bk7_f; replace BK1 := Aside0.mk (blk_grown BK1.out hg (blk_rowG BK1.out HV.out (by decide))); replace BK2 := Aside0.mk (blk_grown BK2.out hg (blk_rowG BK2.out HV.out (by decide))); replace BK7 := Aside0.mk (blk_grown BK7.out hg X_gb7_HV.out); replace HO0 := Aside0.mk (Kd.R_grown2 HO0.out rfl hg (fun k hk e => by have h1 := Kd.R_base HV.out k hk; have h2 := Q0.out k e.symm; omega)); replace HO1 := Aside0.mk (Kd.R_grown2 HO1.out rfl hg (fun k hk e => by have h1 := Kd.R_base HV.out k hk; have h2 := Q1.out k e.symm; omega)); replace HT := Aside0.mk (Kd.R_over' HT.out (Kd.R_typed HV.out) (by decide) hg); replace HV := Aside0.mk (ho); replace HB := Aside0.mk (hb); have bk1_0 := blk_c BK1.out 0 rfl; have bk1_1 := blk_c BK1.out 1 rfl; have bk1_2 := blk_c BK1.out 2 rfl; have bk2_0 := blk_c BK2.out 0 rfl; have bk2_1 := blk_c BK2.out 1 rfl; have bk2_2 := blk_c BK2.out 2 rfl; have bk7_0 := blk_c BK7.out 0 rfl; have bk7_1 := blk_c BK7.out 1 rfl; have bk7_2 := blk_c BK7.out 2 rfl; have bk7_3 := blk_c BK7.out 3 rfl; have bk7_4 := blk_c BK7.out 4 rfl; have bk7_5 := blk_c BK7.out 5 rfl; have bk1_f := fun i => blk_frozen BK1.out i; have bk2_f := fun i => blk_frozen BK2.out i; have bk7_f := fun i => blk_frozen BK7.out i; clear ho hb hg hat))
        go_roundw
        case rel => exact ⟨i + 1, A7, c7, A5, c5, by omega, by go_num, by first | rfl | (congr 1; omega) | (simp only [List.length_take, updN_len]; first | rfl | (congr 1; omega)), by first | rfl | (congr 1; omega), BK1, BK2, HO0, HO1, ⟨by have h := HV.out; rw [show ((updN sayApply N L).take (i + 1)).length = i + 1 by rw [List.length_take, updN_len]; omega] at h; exact h⟩, ⟨by have h := HT.out; rw [show min i N = N by omega] at h; rw [show min (i + 1) N = N by omega]; exact h⟩, HB⟩
        case measure => simp [intOf]; omega
    · obtain rfl : i = L.length := by omega
      rw [List.take_of_length_le (by rw [updN_len]; omega)] at HV
      have hmin : min L.length N = N := Nat.min_eq_right hN
      rw [hmin] at HT ⊢
      clear hmin
      have bk1_0 := blk_c BK1.out 0 rfl; have bk1_1 := blk_c BK1.out 1 rfl; have bk1_2 := blk_c BK1.out 2 rfl; have bk2_0 := blk_c BK2.out 0 rfl; have bk2_1 := blk_c BK2.out 1 rfl; have bk2_2 := blk_c BK2.out 2 rfl; have bk1_f := fun i => blk_frozen BK1.out i; have bk2_f := fun i => blk_frozen BK2.out i
      have n12 := NE_gb1_gb2.out
      have n21 := Ne.symm NE_gb1_gb2.out
      go_wp2
      clear n12 n21
      clear bk1_0 bk1_1 bk1_2 bk1_f bk2_0 bk2_1 bk2_2 bk2_f
      have s0_HO0 := Kd.R_set HO0.out BK1.out (by decide) 0 (.slice A4 L.length c4)
      have s0_HO1 := Kd.R_set HO1.out BK1.out (by decide) 0 (.slice A4 L.length c4)
      have s0_HV := Kd.R_set HV.out BK1.out (by decide) 0 (.slice A4 L.length c4)
      have s0_HT := Kd.R_set HT.out BK1.out (by decide) 0 (.slice A4 L.length c4)
      have s0_BK1 := blk_put (cs' := #[.slice A4 L.length c4, .slice A1 D.length c1, .int .i64 (N : Int)]) BK1.out 0 (.slice A4 L.length c4) rfl
      have s0_BK2 := blk_far BK2.out (p := ⟨gb1, 0, none⟩) (Ne.symm NE_gb1_gb2.out) (.slice A4 L.length c4)
      have s0_HB := below_set (j := 0) (v := .slice A4 L.length c4) HB.out GE_gb1.out
      have s1_HO0 := far_set3 s0_HO0 (blk_rowG s0_BK2 s0_HO0 (by decide)) (.slice A4 L.length c4) (.slice A1 D.length c1) (.int .i64 (N : Int))
      have s1_HO1 := far_set3 s0_HO1 (blk_rowG s0_BK2 s0_HO1 (by decide)) (.slice A4 L.length c4) (.slice A1 D.length c1) (.int .i64 (N : Int))
      have s1_HV := far_set3 s0_HV (blk_rowG s0_BK2 s0_HV (by decide)) (.slice A4 L.length c4) (.slice A1 D.length c1) (.int .i64 (N : Int))
      have s1_HT := far_int3 s0_HT (blk_rowG s0_BK2 s0_HT (by decide)) (.slice A4 L.length c4) (.slice A1 D.length c1) (.int .i64 (N : Int))
      have s1_BK1 := blk_far3 s0_BK1 NE_gb1_gb2.out (.slice A4 L.length c4) (.slice A1 D.length c1) (.int .i64 (N : Int))
      have s1_BK2 := blk_put3 s0_BK2 (.slice A4 L.length c4) (.slice A1 D.length c1) (.int .i64 (N : Int))
      have s1_HB := below_set3 s0_HB GE_gb2.out (.slice A4 L.length c4) (.slice A1 D.length c1) (.int .i64 (N : Int))
      have n_BK1 := Aside0.mk s1_BK1
      have n_BK2 := Aside0.mk s1_BK2
      have n_HO0 := Aside0.mk s1_HO0
      have n_HO1 := Aside0.mk s1_HO1
      have n_HV := Aside0.mk s1_HV
      have n_HT := Aside0.mk s1_HT
      have n_HB := Aside0.mk s1_HB
      clear s0_BK1 s0_BK2 s0_HO0 s0_HO1 s0_HV s0_HT s0_HB
      clear s1_BK1 s1_BK2 s1_HO0 s1_HO1 s1_HV s1_HT s1_HB
      clear BK1 BK2 HO0 HO1 HV HT HB
      generalize ((((wo.setCell ⟨gb1, 0, none⟩ (.slice A4 L.length c4)).setCell ⟨gb2, 0, none⟩ (.slice A4 L.length c4)).setCell ⟨gb2, 1, none⟩ (.slice A1 D.length c1)).setCell ⟨gb2, 2, none⟩ (.int .i64 (N : Int))) = w9 at n_BK1 n_BK2 n_HO0 n_HO1 n_HV n_HT n_HB ⊢
      have BK1 := n_BK1
      have BK2 := n_BK2
      have HO0 := n_HO0
      have HO1 := n_HO1
      have HV := n_HV
      have HT := n_HT
      have HB := n_HB
      clear n_BK1 n_BK2 n_HO0 n_HO1 n_HV n_HT n_HB
      have bk1_0 := blk_c BK1.out 0 rfl; have bk1_1 := blk_c BK1.out 1 rfl; have bk1_2 := blk_c BK1.out 2 rfl; have bk2_0 := blk_c BK2.out 0 rfl; have bk2_1 := blk_c BK2.out 1 rfl; have bk2_2 := blk_c BK2.out 2 rfl; have bk1_f := fun i => blk_frozen BK1.out i; have bk2_f := fun i => blk_frozen BK2.out i
      refine bodyPost_ret (results_ct rfl _ _ gb2 58 #[.slice A4 L.length c4, .slice A1 D.length c1, .int .i64 (N : Int)] (0, 0) _ rfl BK2.out Try.underlying58 rfl (by kernel_rfl)) rfl ?_
      have hln : ((L.take N).map S65.f0).length = N := by rw [List.length_map, List.length_take]; omega
      rw [hln]
      exact ⟨_, _, _, _, rfl, Kd.R_lower HV.out HBW.out, HO1.out, Kd.R_lower HT.out HBW.out, HB.out⟩
set_option maxHeartbeats 8000000 in
set_option maxRecDepth 100000 in
theorem refGone_at (A0 : Option Addr) (c0 : Nat) (L : List S65) (A1 : Option Addr) (c1 : Nat) (D : List S65) (b : Nat) (g n er : Int) (w : World) (hbw : b ≤ w.heap.size) (hr0 : Kd.R k65 65 w b (fun _ => True) (.slice A0 L.length c0) L) (hr1 : Kd.R k65 65 w b (fun _ => True) (.slice A1 D.length c1) D) (hl0 : L.length ≤ 1000) (hl1 : D.length ≤ 1000) (hn0 : 0 ≤ n) (hn1 : n ≤ L.length) :
    Calls Try.prog 75 #[.agg #[.slice A0 L.length c0, .slice A1 D.length c1, .int .i64 g], .int .i64 n, .int .i64 er] w fun e w' => ∃ (AL : Option Addr) (cL : Nat) (AD : Option Addr) (cD : Nat) (AT : Option Addr) (cT : Nat), e = .returned (.tuple #[.agg #[.slice AL (L.drop n.toNat).length cL, .slice AD (D ++ (L.take n.toNat).map (sayDone er)).length cD, .int .i64 0], .slice AT ((L.take n.toNat).map S65.f0).length cT]) ∧ Kd.R k65 65 w' w.heap.size (fun k_ => some k_ ≠ (.slice AD (D ++ (L.take n.toNat).map (sayDone er)).length cD : Value).ownBlock) (.slice AL (L.drop n.toNat).length cL) (L.drop n.toNat) ∧ Kd.R k65 65 w' w.heap.size (fun _ => True) (.slice AD (D ++ (L.take n.toNat).map (sayDone er)).length cD) (D ++ (L.take n.toNat).map (sayDone er)) ∧ Kd.R (Kd.int .i64) 3 w' w.heap.size (fun _ => True) (.slice AT ((L.take n.toNat).map S65.f0).length cT) ((L.take n.toNat).map S65.f0) ∧ Below w.heap.size w w' := by
  obtain ⟨N, rfl⟩ : ∃ N : Nat, n = (N : Int) := ⟨n.toNat, by omega⟩
  have hN : N ≤ L.length := by omega
  rw [Int.toNat_natCast]
  have HO0 := Aside0.mk hr0
  have HO1 := Aside0.mk hr1
  have HB := Aside0.mk (Below.refl w.heap.size w)
  have HBW := Aside0.mk hbw
  have Q0 : Aside0 (∀ k, (.slice A0 L.length c0 : Value).ownBlock = some k → k < w.heap.size) := ⟨Kd.R_lt hr0⟩
  have Q1 : Aside0 (∀ k, (.slice A1 D.length c1 : Value).ownBlock = some k → k < w.heap.size) := ⟨Kd.R_lt hr1⟩
  clear hr0 hr1 hbw hn0 hn1
  go_enter Try.func75, Try.ntmps75
  go_upto_region 3 with (first | ((with_reducible refine gate_dst (N := 3) rfl ?_); refine box_event ?hg (N := 3) ?hd (cs := #[.slice A0 L.length c0, .slice A1 D.length c1, .int .i64 g]) (t := 58) ?hr ?_; (case hd => rfl); (case hg => rfl); (case hr => first | (go_simp; done) | (go_simp; rfl)); intro gb3 hg w3 hbox hb; have GE_gb3 := Aside0.mk (show w.heap.size ≤ gb3 from by rw [hg]; exact below_size HB.out); clear hg; skip; replace HO0 := Aside0.mk (Kd.R_below HO0.out hb); replace HO1 := Aside0.mk (Kd.R_below HO1.out hb); replace HB := Aside0.mk (below_step HB.out hb); clear hb; have BK3 := Aside0.mk hbox; clear hbox; have bk3_0 := blk_c BK3.out 0 rfl; have bk3_1 := blk_c BK3.out 1 rfl; have bk3_2 := blk_c BK3.out 2 rfl; have bk3_f := fun i => blk_frozen BK3.out i) | ((with_reducible refine gate_dst (N := 6) rfl ?_); refine box_event ?hg (N := 6) ?hd (cs := #[.slice none 0 0, .slice none 0 0, .int .i64 0]) (t := 58) ?hr ?_; (case hd => rfl); (case hg => rfl); (case hr => first | (go_simp; done) | (go_simp; rfl)); intro gb6 hg w3 hbox hb; have NE_gb3_gb6 := Aside0.mk (show gb3 ≠ gb6 from by rw [hg]; exact Nat.ne_of_lt (blk_lt BK3.out)); have GE_gb6 := Aside0.mk (show w.heap.size ≤ gb6 from by rw [hg]; exact below_size HB.out); clear hg; clear bk3_0 bk3_1 bk3_2 bk3_f; replace BK3 := Aside0.mk (blk_below BK3.out hb); replace HO0 := Aside0.mk (Kd.R_below HO0.out hb); replace HO1 := Aside0.mk (Kd.R_below HO1.out hb); replace HB := Aside0.mk (below_step HB.out hb); clear hb; have BK6 := Aside0.mk hbox; clear hbox; have bk3_0 := blk_c BK3.out 0 rfl; have bk3_1 := blk_c BK3.out 1 rfl; have bk3_2 := blk_c BK3.out 2 rfl; have bk6_0 := blk_c BK6.out 0 rfl; have bk6_1 := blk_c BK6.out 1 rfl; have bk6_2 := blk_c BK6.out 2 rfl; have bk3_f := fun i => blk_frozen BK3.out i; have bk6_f := fun i => blk_frozen BK6.out i))
  have HNIL := Aside0.mk (Kd.R_nil k65 65 w3 w.heap.size (fun _ => True))
  have HCL := Aside0.mk (Kd.R_reads' HO1.out).2.2
  go_wp2_with (first | ((with_reducible refine gate_builtin (b := .append) (xs := #[.tmp 13, .tmp 15]) rfl ?_); at_builtin; (refine Kd.R_append_rows k65 (w0 := w) w.heap.size rfl (.tmp 13) (.tmp 15) 56 65 (.agg #[.int .i64 0, .int .i64 0, .int .u64 0, .int .u64 0, .int .u8 0, .int .i64 0]) 48 rfl Try.underlying56 info65 rfl (by decide) (by omega) (.slice none 0 0) ([] : List S65) D A1 D.length c1 (fun _ => True) (fun _ => False) (by first | rfl | (go_simp; done)) (by first | rfl | (go_simp; done)) HNIL.out HCL.out (fun x cs hx => by rw [k65_open hx]; exact k65_mkM _ _ _ x) (fun _ hk => hk.elim) (fun _ _ => trivial) HB.out (below_size HB.out) (by simp only [List.length_nil]; omega) ?_); intro v6 w6 ho hb hg hat; rw [List.nil_append] at ho; obtain ⟨Au, cu, ev⟩ := Kd.R_slice ho; subst ev; clear bk3_0 bk3_1 bk3_2 bk3_f bk6_0 bk6_1 bk6_2 bk6_f; replace BK3 := Aside0.mk (blk_grown BK3.out hg (by simp [Value.ownBlock])); replace BK6 := Aside0.mk (blk_grown BK6.out hg (by simp [Value.ownBlock])); replace HO0 := Aside0.mk (Kd.R_grown2 HO0.out rfl hg (fun k hk => by simp [Value.ownBlock] at hk)); replace HO1 := Aside0.mk (Kd.R_grown2 HO1.out rfl hg (fun k hk => by simp [Value.ownBlock] at hk)); have HU := Aside0.mk (ho); replace HB := Aside0.mk (hb); have bk3_0 := blk_c BK3.out 0 rfl; have bk3_1 := blk_c BK3.out 1 rfl; have bk3_2 := blk_c BK3.out 2 rfl; have bk6_0 := blk_c BK6.out 0 rfl; have bk6_1 := blk_c BK6.out 1 rfl; have bk6_2 := blk_c BK6.out 2 rfl; have bk3_f := fun i => blk_frozen BK3.out i; have bk6_f := fun i => blk_frozen BK6.out i; clear ho hb hg hat))
  clear HNIL HCL
  clear bk3_0 bk3_1 bk3_2 bk3_f bk6_0 bk6_1 bk6_2 bk6_f
  go_loopw [8, 9, 10, 11] (fun v8 v9 v10 v11 wr => ∃ (i : Nat) (A8 : Option Addr) (c8 : Nat) (A9 : Option Addr) (c9 : Nat) (A5 : Option Addr) (c5 : Nat), i ≤ L.length ∧ v11 = .int .i64 i ∧ v8 = .slice A8 (i - N) c8 ∧ v9 = .slice A9 (D.length + min i N) c9 ∧ v10 = .slice A5 (min i N) c5 ∧ Aside0 (wr.heap[gb3]? = some (.cells #[.slice A0 L.length c0, .slice A1 D.length c1, .int .i64 g] 58 (0, 0))) ∧ Aside0 (wr.heap[gb6]? = some (.cells #[.slice none 0 0, .slice none 0 0, .int .i64 0] 58 (0, 0))) ∧ Aside0 (Kd.R k65 65 wr b (fun _ => True) (.slice A0 L.length c0) L) ∧ Aside0 (Kd.R k65 65 wr b (fun _ => True) (.slice A1 D.length c1) D) ∧ Aside0 (Kd.R k65 65 wr w.heap.size (fun _ => True) (.slice A8 (i - N) c8) ((L.take i).drop N)) ∧ Aside0 (Kd.R k65 65 wr w.heap.size (fun _ => True) (.slice A9 (D.length + min i N) c9) (D ++ (L.take (min i N)).map (sayDone er))) ∧ Aside0 (Kd.R (Kd.int .i64) 3 wr w.heap.size (fun _ => True) (.slice A5 (min i N) c5) ((L.take (min i N)).map S65.f0)) ∧ Aside0 ((.slice A8 (i - N) c8 : Value).ownBlock = none ∨ (.slice A8 (i - N) c8 : Value).ownBlock ≠ (.slice A9 (D.length + min i N) c9 : Value).ownBlock) ∧ Aside0 (Below w.heap.size w wr)) (fun v8 v9 v10 v11 _ => L.length - (intOf v11).toNat)
  case atStart => exact ⟨0, none, 0, Au, cu, none, 0, Nat.zero_le _, rfl, by simp, by simp, by simp, BK3, BK6, HO0, HO1, ⟨by simpa using Kd.R_nil k65 65 _ _ _⟩, ⟨by simpa using HU.out⟩, ⟨by simpa using Kd.R_nil (Kd.int .i64) 3 _ _ _⟩, ⟨.inl (by simp [Value.ownBlock])⟩, HB⟩
  case round =>
    clear BK3 BK6 HO0 HO1 HU HB
    obtain ⟨i, A8, c8, A9, c9, A5, c5, hi, rfl, rfl, rfl, rfl, BK3, BK6, HO0, HO1, HV, HU, HT, HAP, HB⟩ := hrel
    rename World => wo
    by_cases hlt : i < L.length
    · obtain ⟨ad, e0, hx0, hx1, hx2, hx3, hx4, hx5⟩ := at_T65 (Kd.R_reads' HO0.out).2.2 (i : Int) (by omega) (by omega)
      subst e0
      simp only [rd65_nat, Int.toNat_natCast] at hx0 hx1 hx2 hx3 hx4 hx5
      have ht0 := take_map_succ id z65 L i hlt
      have ht1 := take_map_succ S65.f0 z65 L i hlt
      have ht2 := take_map_succ (sayDone er) z65 L i hlt
      simp only [List.map_id, id] at ht0
      generalize L.getD i z65 = x at hx0 hx1 hx2 hx3 hx4 hx5 ht0 ht1 ht2
      have HT0 := Aside0.mk ht0
      have HT1 := Aside0.mk ht1
      have HT2 := Aside0.mk ht2
      clear ht0 ht1 ht2
      have bk3_0 := blk_c BK3.out 0 rfl; have bk3_1 := blk_c BK3.out 1 rfl; have bk3_2 := blk_c BK3.out 2 rfl; have bk6_0 := blk_c BK6.out 0 rfl; have bk6_1 := blk_c BK6.out 1 rfl; have bk6_2 := blk_c BK6.out 2 rfl; have bk3_f := fun i => blk_frozen BK3.out i; have bk6_f := fun i => blk_frozen BK6.out i
      go_upto_region 8 with (first | ((with_reducible refine gate_dst (N := 12) rfl ?_); refine box_event ?hg (N := 12) ?hd (cs := #[.int .i64 0, .int .i64 0, .int .u64 0, .int .u64 0, .int .u8 0, .int .i64 0]) (t := 65) ?hr ?_; (case hd => rfl); (case hg => rfl); (case hr => first | (go_simp; done) | (go_simp; rfl)); intro gb12 hg w3 hbox hb; have NE_gb3_gb12 := Aside0.mk (show gb3 ≠ gb12 from by rw [hg]; exact Nat.ne_of_lt (blk_lt BK3.out)); have NE_gb6_gb12 := Aside0.mk (show gb6 ≠ gb12 from by rw [hg]; exact Nat.ne_of_lt (blk_lt BK6.out)); have X_gb12_HO0 : Aside0 (some gb12 ≠ (.slice (some ad) L.length c0 : Value).ownBlock) := ⟨fun e => by have := Kd.R_lt HO0.out gb12 e.symm; rw [hg] at this; exact absurd this (Nat.lt_irrefl _)⟩; have X_gb12_HO1 : Aside0 (some gb12 ≠ (.slice A1 D.length c1 : Value).ownBlock) := ⟨fun e => by have := Kd.R_lt HO1.out gb12 e.symm; rw [hg] at this; exact absurd this (Nat.lt_irrefl _)⟩; have X_gb12_HV : Aside0 (some gb12 ≠ (.slice A8 (i - N) c8 : Value).ownBlock) := ⟨fun e => by have := Kd.R_lt HV.out gb12 e.symm; rw [hg] at this; exact absurd this (Nat.lt_irrefl _)⟩; have X_gb12_HU : Aside0 (some gb12 ≠ (.slice A9 (D.length + min i N) c9 : Value).ownBlock) := ⟨fun e => by have := Kd.R_lt HU.out gb12 e.symm; rw [hg] at this; exact absurd this (Nat.lt_irrefl _)⟩; have GE_gb12 := Aside0.mk (show w.heap.size ≤ gb12 from by rw [hg]; exact below_size HB.out); clear hg; clear bk3_0 bk3_1 bk3_2 bk3_f bk6_0 bk6_1 bk6_2 bk6_f; replace BK3 := Aside0.mk (blk_below BK3.out hb); replace BK6 := Aside0.mk (blk_below BK6.out hb); replace HO0 := Aside0.mk (Kd.R_below HO0.out hb); replace HO1 := Aside0.mk (Kd.R_below HO1.out hb); replace HV := Aside0.mk (Kd.R_below HV.out hb); replace HU := Aside0.mk (Kd.R_below HU.out hb); replace HT := Aside0.mk (Kd.R_below HT.out hb); replace HB := Aside0.mk (below_step HB.out hb); clear hb; have BK12 := Aside0.mk hbox; clear hbox; have bk3_0 := blk_c BK3.out 0 rfl; have bk3_1 := blk_c BK3.out 1 rfl; have bk3_2 := blk_c BK3.out 2 rfl; have bk6_0 := blk_c BK6.out 0 rfl; have bk6_1 := blk_c BK6.out 1 rfl; have bk6_2 := blk_c BK6.out 2 rfl; have bk12_0 := blk_c BK12.out 0 rfl; have bk12_1 := blk_c BK12.out 1 rfl; have bk12_2 := blk_c BK12.out 2 rfl; have bk12_3 := blk_c BK12.out 3 rfl; have bk12_4 := blk_c BK12.out 4 rfl; have bk12_5 := blk_c BK12.out 5 rfl; have bk3_f := fun i => blk_frozen BK3.out i; have bk6_f := fun i => blk_frozen BK6.out i; have bk12_f := fun i => blk_frozen BK12.out i))
      clear hx0 hx1 hx2 hx3 hx4 hx5
      clear bk3_0 bk3_1 bk3_2 bk3_f bk6_0 bk6_1 bk6_2 bk6_f bk12_0 bk12_1 bk12_2 bk12_3 bk12_4 bk12_5 bk12_f
      have s0_HO0 := far_set6 HO0.out (X_gb12_HO0.out) (.int .i64 x.f0) (.int .i64 x.f1) (.int .u64 x.f2) (.int .u64 x.f3) (.int .u8 x.f4) (.int .i64 x.f5)
      have s0_HO1 := far_set6 HO1.out (X_gb12_HO1.out) (.int .i64 x.f0) (.int .i64 x.f1) (.int .u64 x.f2) (.int .u64 x.f3) (.int .u8 x.f4) (.int .i64 x.f5)
      have s0_HV := far_set6 HV.out (X_gb12_HV.out) (.int .i64 x.f0) (.int .i64 x.f1) (.int .u64 x.f2) (.int .u64 x.f3) (.int .u8 x.f4) (.int .i64 x.f5)
      have s0_HU := far_set6 HU.out (X_gb12_HU.out) (.int .i64 x.f0) (.int .i64 x.f1) (.int .u64 x.f2) (.int .u64 x.f3) (.int .u8 x.f4) (.int .i64 x.f5)
      have s0_HT := far_int6 HT.out (blk_rowG BK12.out HT.out (by decide)) (.int .i64 x.f0) (.int .i64 x.f1) (.int .u64 x.f2) (.int .u64 x.f3) (.int .u8 x.f4) (.int .i64 x.f5)
      have s0_BK3 := blk_far6 BK3.out NE_gb3_gb12.out (.int .i64 x.f0) (.int .i64 x.f1) (.int .u64 x.f2) (.int .u64 x.f3) (.int .u8 x.f4) (.int .i64 x.f5)
      have s0_BK6 := blk_far6 BK6.out NE_gb6_gb12.out (.int .i64 x.f0) (.int .i64 x.f1) (.int .u64 x.f2) (.int .u64 x.f3) (.int .u8 x.f4) (.int .i64 x.f5)
      have s0_BK12 := blk_put6 BK12.out (.int .i64 x.f0) (.int .i64 x.f1) (.int .u64 x.f2) (.int .u64 x.f3) (.int .u8 x.f4) (.int .i64 x.f5)
      have s0_HB := below_set6 HB.out GE_gb12.out (.int .i64 x.f0) (.int .i64 x.f1) (.int .u64 x.f2) (.int .u64 x.f3) (.int .u8 x.f4) (.int .i64 x.f5)
      have n_BK3 := Aside0.mk s0_BK3
      have n_BK6 := Aside0.mk s0_BK6
      have n_BK12 := Aside0.mk s0_BK12
      have n_HO0 := Aside0.mk s0_HO0
      have n_HO1 := Aside0.mk s0_HO1
      have n_HV := Aside0.mk s0_HV
      have n_HU := Aside0.mk s0_HU
      have n_HT := Aside0.mk s0_HT
      have n_HB := Aside0.mk s0_HB
      clear s0_BK3 s0_BK6 s0_BK12 s0_HO0 s0_HO1 s0_HV s0_HU s0_HT s0_HB
      clear BK3 BK6 BK12 HO0 HO1 HV HU HT HB
      generalize ((((((w3.setCell ⟨gb12, 0, none⟩ (.int .i64 x.f0)).setCell ⟨gb12, 1, none⟩ (.int .i64 x.f1)).setCell ⟨gb12, 2, none⟩ (.int .u64 x.f2)).setCell ⟨gb12, 3, none⟩ (.int .u64 x.f3)).setCell ⟨gb12, 4, none⟩ (.int .u8 x.f4)).setCell ⟨gb12, 5, none⟩ (.int .i64 x.f5)) = w4 at n_BK3 n_BK6 n_BK12 n_HO0 n_HO1 n_HV n_HU n_HT n_HB ⊢
      have BK3 := n_BK3
      have BK6 := n_BK6
      have BK12 := n_BK12
      have HO0 := n_HO0
      have HO1 := n_HO1
      have HV := n_HV
      have HU := n_HU
      have HT := n_HT
      have HB := n_HB
      clear n_BK3 n_BK6 n_BK12 n_HO0 n_HO1 n_HV n_HU n_HT n_HB
      have bk3_0 := blk_c BK3.out 0 rfl; have bk3_1 := blk_c BK3.out 1 rfl; have bk3_2 := blk_c BK3.out 2 rfl; have bk6_0 := blk_c BK6.out 0 rfl; have bk6_1 := blk_c BK6.out 1 rfl; have bk6_2 := blk_c BK6.out 2 rfl; have bk12_0 := blk_c BK12.out 0 rfl; have bk12_1 := blk_c BK12.out 1 rfl; have bk12_2 := blk_c BK12.out 2 rfl; have bk12_3 := blk_c BK12.out 3 rfl; have bk12_4 := blk_c BK12.out 4 rfl; have bk12_5 := blk_c BK12.out 5 rfl; have bk3_f := fun i => blk_frozen BK3.out i; have bk6_f := fun i => blk_frozen BK6.out i; have bk12_f := fun i => blk_frozen BK12.out i
      by_cases hc : i < N
      · have d0 : decide ((N : Int) ≤ (i : Int)) = false := decide_eq_false (by omega)
        have d1 : decide (N ≤ i) = false := decide_eq_false (by omega)
        have HUE : Aside0 ((D ++ (L.take (min i N)).map (sayDone er)) ++ [(⟨x.f0, x.f1, x.f2, x.f3, 3, er⟩ : S65)] = (D ++ (L.take (i + 1)).map (sayDone er))) := ⟨by rw [Nat.min_eq_left (by omega), HT2.out, List.append_assoc]; rfl⟩
        have HTE : Aside0 (((L.take (min i N)).map S65.f0) ++ [x.f0] = ((L.take (i + 1)).map S65.f0)) := ⟨by rw [Nat.min_eq_left (by omega), HT1.out]⟩
        go_upto_region 12 with (fail)
        clear bk3_0 bk3_1 bk3_2 bk3_f bk6_0 bk6_1 bk6_2 bk6_f bk12_0 bk12_1 bk12_2 bk12_3 bk12_4 bk12_5 bk12_f
        have s0_HO0 := far_set (p := ⟨gb12, 4, none⟩) HO0.out (X_gb12_HO0.out) (.int .u8 3)
        have s0_HO1 := far_set (p := ⟨gb12, 4, none⟩) HO1.out (X_gb12_HO1.out) (.int .u8 3)
        have s0_HV := far_set (p := ⟨gb12, 4, none⟩) HV.out (X_gb12_HV.out) (.int .u8 3)
        have s0_HU := far_set (p := ⟨gb12, 4, none⟩) HU.out (X_gb12_HU.out) (.int .u8 3)
        have s0_HT := Kd.R_set HT.out BK12.out (by decide) 4 (.int .u8 3)
        have s0_BK3 := blk_far BK3.out (p := ⟨gb12, 4, none⟩) NE_gb3_gb12.out (.int .u8 3)
        have s0_BK6 := blk_far BK6.out (p := ⟨gb12, 4, none⟩) NE_gb6_gb12.out (.int .u8 3)
        have s0_BK12 := blk_put (cs' := #[.int .i64 x.f0, .int .i64 x.f1, .int .u64 x.f2, .int .u64 x.f3, .int .u8 3, .int .i64 x.f5]) BK12.out 4 (.int .u8 3) rfl
        have s0_HB := below_set (j := 4) (v := .int .u8 3) HB.out GE_gb12.out
        have s1_HO0 := far_set (p := ⟨gb12, 5, none⟩) s0_HO0 (X_gb12_HO0.out) (.int .i64 er)
        have s1_HO1 := far_set (p := ⟨gb12, 5, none⟩) s0_HO1 (X_gb12_HO1.out) (.int .i64 er)
        have s1_HV := far_set (p := ⟨gb12, 5, none⟩) s0_HV (X_gb12_HV.out) (.int .i64 er)
        have s1_HU := far_set (p := ⟨gb12, 5, none⟩) s0_HU (X_gb12_HU.out) (.int .i64 er)
        have s1_HT := Kd.R_set s0_HT s0_BK12 (by decide) 5 (.int .i64 er)
        have s1_BK3 := blk_far s0_BK3 (p := ⟨gb12, 5, none⟩) NE_gb3_gb12.out (.int .i64 er)
        have s1_BK6 := blk_far s0_BK6 (p := ⟨gb12, 5, none⟩) NE_gb6_gb12.out (.int .i64 er)
        have s1_BK12 := blk_put (cs' := #[.int .i64 x.f0, .int .i64 x.f1, .int .u64 x.f2, .int .u64 x.f3, .int .u8 3, .int .i64 er]) s0_BK12 5 (.int .i64 er) rfl
        have s1_HB := below_set (j := 5) (v := .int .i64 er) s0_HB GE_gb12.out
        have n_BK3 := Aside0.mk s1_BK3
        have n_BK6 := Aside0.mk s1_BK6
        have n_BK12 := Aside0.mk s1_BK12
        have n_HO0 := Aside0.mk s1_HO0
        have n_HO1 := Aside0.mk s1_HO1
        have n_HV := Aside0.mk s1_HV
        have n_HU := Aside0.mk s1_HU
        have n_HT := Aside0.mk s1_HT
        have n_HB := Aside0.mk s1_HB
        clear s0_BK3 s0_BK6 s0_BK12 s0_HO0 s0_HO1 s0_HV s0_HU s0_HT s0_HB
        clear s1_BK3 s1_BK6 s1_BK12 s1_HO0 s1_HO1 s1_HV s1_HU s1_HT s1_HB
        clear BK3 BK6 BK12 HO0 HO1 HV HU HT HB
        generalize ((w4.setCell ⟨gb12, 4, none⟩ (.int .u8 3)).setCell ⟨gb12, 5, none⟩ (.int .i64 er)) = w7 at n_BK3 n_BK6 n_BK12 n_HO0 n_HO1 n_HV n_HU n_HT n_HB ⊢
        have BK3 := n_BK3
        have BK6 := n_BK6
        have BK12 := n_BK12
        have HO0 := n_HO0
        have HO1 := n_HO1
        have HV := n_HV
        have HU := n_HU
        have HT := n_HT
        have HB := n_HB
        clear n_BK3 n_BK6 n_BK12 n_HO0 n_HO1 n_HV n_HU n_HT n_HB
        have bk3_0 := blk_c BK3.out 0 rfl; have bk3_1 := blk_c BK3.out 1 rfl; have bk3_2 := blk_c BK3.out 2 rfl; have bk6_0 := blk_c BK6.out 0 rfl; have bk6_1 := blk_c BK6.out 1 rfl; have bk6_2 := blk_c BK6.out 2 rfl; have bk12_0 := blk_c BK12.out 0 rfl; have bk12_1 := blk_c BK12.out 1 rfl; have bk12_2 := blk_c BK12.out 2 rfl; have bk12_3 := blk_c BK12.out 3 rfl; have bk12_4 := blk_c BK12.out 4 rfl; have bk12_5 := blk_c BK12.out 5 rfl; have bk3_f := fun i => blk_frozen BK3.out i; have bk6_f := fun i => blk_frozen BK6.out i; have bk12_f := fun i => blk_frozen BK12.out i
        go_wp2_with (first | ((with_reducible refine gate_builtin (b := .append) (xs := #[.tmp 39, .tmp 41]) rfl ?_); at_builtin; (refine Kd.R_append k65 (w0 := w) w.heap.size rfl (.tmp 39) (.tmp 41) 56 65 (.agg #[.int .i64 0, .int .i64 0, .int .u64 0, .int .u64 0, .int .u8 0, .int .i64 0]) 48 rfl Try.underlying56 info65 rfl (by decide) (by omega) (.slice A9 (D.length + min i N) c9) (D ++ (L.take (min i N)).map (sayDone er)) (⟨x.f0, x.f1, x.f2, x.f3, 3, er⟩ : S65) [.int .i64 x.f0, .int .i64 x.f1, .int .u64 x.f2, .int .u64 x.f3, .int .u8 3, .int .i64 er] (fun _ => True) (fun _ => False) (by first | rfl | (go_simp; done)) (by first | rfl | (go_simp; done)) (k65_mkM _ _ _ (⟨x.f0, x.f1, x.f2, x.f3, 3, er⟩ : S65)) (fun _ hk => hk.elim) (fun _ _ => trivial) HU.out HB.out (below_size HB.out) (by rw [List.length_append, List.length_map, List.length_take]; omega) ?_); intro v6 w6 ho hb hg hat; rw [HUE.out] at ho; obtain ⟨A7, c7, ev⟩ := Kd.R_slice ho; subst ev; have n_HAP : Aside0 ((.slice A8 (i - N) c8 : Value).ownBlock = none ∨ (.slice A8 (i - N) c8 : Value).ownBlock ≠ (.slice A7 (D ++ (L.take (i + 1)).map (sayDone er)).length c7 : Value).ownBlock) := ⟨ap_hatG HAP.out hat HV.out⟩; clear bk3_0 bk3_1 bk3_2 bk3_f bk6_0 bk6_1 bk6_2 bk6_f bk12_0 bk12_1 bk12_2 bk12_3 bk12_4 bk12_5 bk12_f; replace BK3 := Aside0.mk (blk_grown BK3.out hg (blk_rowG BK3.out HU.out (by decide))); replace BK6 := Aside0.mk (blk_grown BK6.out hg (blk_rowG BK6.out HU.out (by decide))); replace BK12 := Aside0.mk (blk_grown BK12.out hg X_gb12_HU.out); replace HO0 := Aside0.mk (Kd.R_grown2 HO0.out rfl hg (fun k hk e => by have h1 := Kd.R_base HU.out k hk; have h2 := Q0.out k e.symm; omega)); replace HO1 := Aside0.mk (Kd.R_grown2 HO1.out rfl hg (fun k hk e => by have h1 := Kd.R_base HU.out k hk; have h2 := Q1.out k e.symm; omega)); replace HV := Aside0.mk (Kd.R_grown2 HV.out rfl hg (ap1 HAP.out)); replace HT := Aside0.mk (Kd.R_over' HT.out (Kd.R_typed HU.out) (by decide) hg); replace HU := Aside0.mk (ho); replace HB := Aside0.mk (hb); have bk3_0 := blk_c BK3.out 0 rfl; have bk3_1 := blk_c BK3.out 1 rfl; have bk3_2 := blk_c BK3.out 2 rfl; have bk6_0 := blk_c BK6.out 0 rfl; have bk6_1 := blk_c BK6.out 1 rfl; have bk6_2 := blk_c BK6.out 2 rfl; have bk12_0 := blk_c BK12.out 0 rfl; have bk12_1 := blk_c BK12.out 1 rfl; have bk12_2 := blk_c BK12.out 2 rfl; have bk12_3 := blk_c BK12.out 3 rfl; have bk12_4 := blk_c BK12.out 4 rfl; have bk12_5 := blk_c BK12.out 5 rfl; have bk3_f := fun i => blk_frozen BK3.out i; have bk6_f := fun i => blk_frozen BK6.out i; have bk12_f := fun i => blk_frozen BK12.out i; clear HAP; have HAP := n_HAP; clear n_HAP; clear ho hb hg hat) | ((with_reducible refine gate_builtin (b := .append) (xs := #[.tmp 43, .tmp 46]) rfl ?_); at_builtin; (refine Kd.R_append (Kd.int .i64) (w0 := w) w.heap.size rfl (.tmp 43) (.tmp 46) 36 3 (.int .i64 0) 8 rfl Try.underlying36 info3 rfl (by decide) (by omega) (.slice A5 (min i N) c5) ((L.take (min i N)).map S65.f0) x.f0 [.int .i64 x.f0] (fun _ => True) (fun _ => False) (by first | rfl | (go_simp; done)) (by first | rfl | (go_simp; done)) rfl (fun _ hk => hk.elim) (fun _ _ => trivial) HT.out HB.out (below_size HB.out) (by rw [List.length_map, List.length_take]; omega) ?_); intro v6 w6 ho hb hg hat; rw [HTE.out] at ho; obtain ⟨A6, c6, ev⟩ := Kd.R_slice ho; subst ev; clear bk3_0 bk3_1 bk3_2 bk3_f bk6_0 bk6_1 bk6_2 bk6_f bk12_0 bk12_1 bk12_2 bk12_3 bk12_4 bk12_5 bk12_f; replace BK3 := Aside0.mk (blk_grown BK3.out hg (blk_rowG BK3.out HT.out (by decide))); replace BK6 := Aside0.mk (blk_grown BK6.out hg (blk_rowG BK6.out HT.out (by decide))); replace BK12 := Aside0.mk (blk_grown BK12.out hg (blk_rowG BK12.out HT.out (by decide))); replace HO0 := Aside0.mk (Kd.R_over' HO0.out (Kd.R_typed HT.out) (by decide) hg); replace HO1 := Aside0.mk (Kd.R_over' HO1.out (Kd.R_typed HT.out) (by decide) hg); replace HV := Aside0.mk (Kd.R_over' HV.out (Kd.R_typed HT.out) (by decide) hg); replace HU := Aside0.mk (Kd.R_over' HU.out (Kd.R_typed HT.out) (by decide) hg); replace HT := Aside0.mk (ho); replace HB := Aside0.mk (hb); have bk3_0 := blk_c BK3.out 0 rfl; have bk3_1 := blk_c BK3.out 1 rfl; have bk3_2 := blk_c BK3.out 2 rfl; have bk6_0 := blk_c BK6.out 0 rfl; have bk6_1 := blk_c BK6.out 1 rfl; have bk6_2 := blk_c BK6.out 2 rfl; have bk12_0 := blk_c BK12.out 0 rfl; have bk12_1 := blk_c BK12.out 1 rfl; have bk12_2 := blk_c BK12.out 2 rfl; have bk12_3 := blk_c BK12.out 3 rfl; have bk12_4 := blk_c BK12.out 4 rfl; have bk12_5 := blk_c BK12.out 5 rfl; have bk3_f := fun i => blk_frozen BK3.out i; have bk6_f := fun i => blk_frozen BK6.out i; have bk12_f := fun i => blk_frozen BK12.out i; clear ho hb hg hat))
        go_roundw
        case rel => exact ⟨i + 1, A8, c8, A7, c7, A6, c6, by omega, by go_num, by first | rfl | (congr 1; omega), by first | rfl | (congr 1; omega) | (simp only [List.length_append, List.length_map, List.length_take]; congr 1; omega), by first | rfl | (congr 1; omega) | (simp only [List.length_append, List.length_map, List.length_take]; congr 1; omega), BK3, BK6, HO0, HO1, ⟨by have h := HV.out; rw [show (L.take i).drop N = [] from List.drop_eq_nil_of_le (by rw [List.length_take]; omega), show i - N = 0 by omega] at h; rw [show (L.take (i + 1)).drop N = [] from List.drop_eq_nil_of_le (by rw [List.length_take]; omega), show i + 1 - N = 0 by omega]; exact h⟩, ⟨by have h := HU.out; rw [(show (D ++ (L.take (i + 1)).map (sayDone er)).length = D.length + (i + 1) by rw [List.length_append, List.length_map, List.length_take]; omega)] at h; rw [Nat.min_eq_left (by omega)]; exact h⟩, ⟨by have h := HT.out; rw [(show ((L.take (i + 1)).map S65.f0).length = i + 1 by rw [List.length_map, List.length_take]; omega)] at h; rw [Nat.min_eq_left (by omega)]; exact h⟩, ⟨by have h := HAP.out; rw [(show (D ++ (L.take (i + 1)).map (sayDone er)).length = D.length + (i + 1) by rw [List.length_append, List.length_map, List.length_take]; omega), show i - N = 0 by omega] at h; rw [Nat.min_eq_left (by omega), show i + 1 - N = 0 by omega]; exact h⟩, HB⟩
        case measure => simp [intOf]; omega
      · have d0 : decide ((N : Int) ≤ (i : Int)) = true := decide_eq_true (by omega)
        have d1 : decide (N ≤ i) = true := decide_eq_true (by omega)
        have HVE : Aside0 (((L.take i).drop N) ++ [x] = ((L.take (i + 1)).drop N)) := ⟨by rw [HT0.out, List.drop_append_of_le_length (by rw [List.length_take]; omega)]⟩
        go_wp2_with (first | ((with_reducible refine gate_builtin (b := .append) (xs := #[.tmp 32, .tmp 34]) rfl ?_); at_builtin; (refine Kd.R_append k65 (w0 := w) w.heap.size rfl (.tmp 32) (.tmp 34) 56 65 (.agg #[.int .i64 0, .int .i64 0, .int .u64 0, .int .u64 0, .int .u8 0, .int .i64 0]) 48 rfl Try.underlying56 info65 rfl (by decide) (by omega) (.slice A8 (i - N) c8) ((L.take i).drop N) x [.int .i64 x.f0, .int .i64 x.f1, .int .u64 x.f2, .int .u64 x.f3, .int .u8 x.f4, .int .i64 x.f5] (fun _ => True) (fun _ => False) (by first | rfl | (go_simp; done)) (by first | rfl | (go_simp; done)) (k65_mkM _ _ _ x) (fun _ hk => hk.elim) (fun _ _ => trivial) HV.out HB.out (below_size HB.out) (by rw [List.length_drop, List.length_take]; omega) ?_); intro v6 w6 ho hb hg hat; rw [HVE.out] at ho; obtain ⟨A7, c7, ev⟩ := Kd.R_slice ho; subst ev; have n_HAP : Aside0 ((.slice A7 ((L.take (i + 1)).drop N).length c7 : Value).ownBlock = none ∨ (.slice A7 ((L.take (i + 1)).drop N).length c7 : Value).ownBlock ≠ (.slice A9 (D.length + min i N) c9 : Value).ownBlock) := ⟨ap_hat HAP.out hat HU.out⟩; clear bk3_0 bk3_1 bk3_2 bk3_f bk6_0 bk6_1 bk6_2 bk6_f bk12_0 bk12_1 bk12_2 bk12_3 bk12_4 bk12_5 bk12_f; replace BK3 := Aside0.mk (blk_grown BK3.out hg (blk_rowG BK3.out HV.out (by decide))); replace BK6 := Aside0.mk (blk_grown BK6.out hg (blk_rowG BK6.out HV.out (by decide))); replace BK12 := Aside0.mk (blk_grown BK12.out hg X_gb12_HV.out); replace HO0 := Aside0.mk (Kd.R_grown2 HO0.out rfl hg (fun k hk e => by have h1 := Kd.R_base HV.out k hk; have h2 := Q0.out k e.symm; omega)); replace HO1 := Aside0.mk (Kd.R_grown2 HO1.out rfl hg (fun k hk e => by have h1 := Kd.R_base HV.out k hk; have h2 := Q1.out k e.symm; omega)); replace HU := Aside0.mk (Kd.R_grown2 HU.out rfl hg (ap0 HAP.out)); replace HT := Aside0.mk (Kd.R_over' HT.out (Kd.R_typed HV.out) (by decide) hg); replace HV := Aside0.mk (ho); replace HB := Aside0.mk (hb); have bk3_0 := blk_c BK3.out 0 rfl; have bk3_1 := blk_c BK3.out 1 rfl; have bk3_2 := blk_c BK3.out 2 rfl; have bk6_0 := blk_c BK6.out 0 rfl; have bk6_1 := blk_c BK6.out 1 rfl; have bk6_2 := blk_c BK6.out 2 rfl; have bk12_0 := blk_c BK12.out 0 rfl; have bk12_1 := blk_c BK12.out 1 rfl; have bk12_2 := blk_c BK12.out 2 rfl; have bk12_3 := blk_c BK12.out 3 rfl; have bk12_4 := blk_c BK12.out 4 rfl; have bk12_5 := blk_c BK12.out 5 rfl; have bk3_f := fun i => blk_frozen BK3.out i; have bk6_f := fun i => blk_frozen BK6.out i; have bk12_f := fun i => blk_frozen BK12.out i; clear HAP; have HAP := n_HAP; clear n_HAP; clear ho hb hg hat))
        go_roundw
        case rel => exact ⟨i + 1, A7, c7, A9, c9, A5, c5, by omega, by go_num, by first | rfl | (congr 1; omega) | (simp only [List.length_drop, List.length_take]; congr 1; omega), by first | rfl | (congr 1; omega), by first | rfl | (congr 1; omega), BK3, BK6, HO0, HO1, ⟨by have h := HV.out; rw [(show ((L.take (i + 1)).drop N).length = i + 1 - N by rw [List.length_drop, List.length_take]; omega)] at h; exact h⟩, ⟨by have h := HU.out; rw [show min i N = N by omega] at h; rw [show min (i + 1) N = N by omega]; exact h⟩, ⟨by have h := HT.out; rw [show min i N = N by omega] at h; rw [show min (i + 1) N = N by omega]; exact h⟩, ⟨by have h := HAP.out; rw [(show ((L.take (i + 1)).drop N).length = i + 1 - N by rw [List.length_drop, List.length_take]; omega), show min i N = N by omega] at h; rw [show min (i + 1) N = N by omega]; exact h⟩, HB⟩
        case measure => simp [intOf]; omega
    · obtain rfl : i = L.length := by omega
      rw [List.take_length] at HV
      have hmin : min L.length N = N := Nat.min_eq_right hN
      rw [hmin] at HU HT HAP ⊢
      clear hmin
      have bk3_0 := blk_c BK3.out 0 rfl; have bk3_1 := blk_c BK3.out 1 rfl; have bk3_2 := blk_c BK3.out 2 rfl; have bk6_0 := blk_c BK6.out 0 rfl; have bk6_1 := blk_c BK6.out 1 rfl; have bk6_2 := blk_c BK6.out 2 rfl; have bk3_f := fun i => blk_frozen BK3.out i; have bk6_f := fun i => blk_frozen BK6.out i
      go_wp2
      clear bk3_0 bk3_1 bk3_2 bk3_f bk6_0 bk6_1 bk6_2 bk6_f
      have s0_HO0 := far_set3 HO0.out (blk_rowG BK6.out HO0.out (by decide)) (.slice A8 (L.length - N) c8) (.slice A9 (D.length + N) c9) (.int .i64 0)
      have s0_HO1 := far_set3 HO1.out (blk_rowG BK6.out HO1.out (by decide)) (.slice A8 (L.length - N) c8) (.slice A9 (D.length + N) c9) (.int .i64 0)
      have s0_HV := far_set3 HV.out (blk_rowG BK6.out HV.out (by decide)) (.slice A8 (L.length - N) c8) (.slice A9 (D.length + N) c9) (.int .i64 0)
      have s0_HU := far_set3 HU.out (blk_rowG BK6.out HU.out (by decide)) (.slice A8 (L.length - N) c8) (.slice A9 (D.length + N) c9) (.int .i64 0)
      have s0_HT := far_int3 HT.out (blk_rowG BK6.out HT.out (by decide)) (.slice A8 (L.length - N) c8) (.slice A9 (D.length + N) c9) (.int .i64 0)
      have s0_BK3 := blk_far3 BK3.out NE_gb3_gb6.out (.slice A8 (L.length - N) c8) (.slice A9 (D.length + N) c9) (.int .i64 0)
      have s0_BK6 := blk_put3 BK6.out (.slice A8 (L.length - N) c8) (.slice A9 (D.length + N) c9) (.int .i64 0)
      have s0_HB := below_set3 HB.out GE_gb6.out (.slice A8 (L.length - N) c8) (.slice A9 (D.length + N) c9) (.int .i64 0)
      have n_BK3 := Aside0.mk s0_BK3
      have n_BK6 := Aside0.mk s0_BK6
      have n_HO0 := Aside0.mk s0_HO0
      have n_HO1 := Aside0.mk s0_HO1
      have n_HV := Aside0.mk s0_HV
      have n_HU := Aside0.mk s0_HU
      have n_HT := Aside0.mk s0_HT
      have n_HB := Aside0.mk s0_HB
      clear s0_BK3 s0_BK6 s0_HO0 s0_HO1 s0_HV s0_HU s0_HT s0_HB
      clear BK3 BK6 HO0 HO1 HV HU HT HB
      generalize (((wo.setCell ⟨gb6, 0, none⟩ (.slice A8 (L.length - N) c8)).setCell ⟨gb6, 1, none⟩ (.slice A9 (D.length + N) c9)).setCell ⟨gb6, 2, none⟩ (.int .i64 0)) = w9 at n_BK3 n_BK6 n_HO0 n_HO1 n_HV n_HU n_HT n_HB ⊢
      have BK3 := n_BK3
      have BK6 := n_BK6
      have HO0 := n_HO0
      have HO1 := n_HO1
      have HV := n_HV
      have HU := n_HU
      have HT := n_HT
      have HB := n_HB
      clear n_BK3 n_BK6 n_HO0 n_HO1 n_HV n_HU n_HT n_HB
      have bk3_0 := blk_c BK3.out 0 rfl; have bk3_1 := blk_c BK3.out 1 rfl; have bk3_2 := blk_c BK3.out 2 rfl; have bk6_0 := blk_c BK6.out 0 rfl; have bk6_1 := blk_c BK6.out 1 rfl; have bk6_2 := blk_c BK6.out 2 rfl; have bk3_f := fun i => blk_frozen BK3.out i; have bk6_f := fun i => blk_frozen BK6.out i
      refine bodyPost_ret (results_ct rfl _ _ gb6 58 #[.slice A8 (L.length - N) c8, .slice A9 (D.length + N) c9, .int .i64 0] (0, 0) _ rfl BK6.out Try.underlying58 rfl (by kernel_rfl)) rfl ?_
      have h1 : (L.drop N).length = L.length - N := List.length_drop
      have h2 : (D ++ (L.take N).map (sayDone er)).length = D.length + N := by rw [List.length_append, List.length_map, List.length_take]; omega
      have h3 : ((L.take N).map S65.f0).length = N := by rw [List.length_map, List.length_take]; omega
      rw [h1, h2, h3]
      exact ⟨_, _, _, _, _, _, rfl, Kd.R_reok rfl HV.out (ap0 HAP.out), HU.out, HT.out, HB.out⟩
set_option maxHeartbeats 8000000 in
set_option maxRecDepth 100000 in
theorem refFail_at (A0 : Option Addr) (c0 : Nat) (L : List S65) (A1 : Option Addr) (c1 : Nat) (D : List S65) (b : Nat) (g er : Int) (w : World) (hbw : b ≤ w.heap.size) (hr0 : Kd.R k65 65 w b (fun _ => True) (.slice A0 L.length c0) L) (hr1 : Kd.R k65 65 w b (fun _ => True) (.slice A1 D.length c1) D) (hl0 : L.length ≤ 1000) (hl1 : D.length ≤ 1000) :
    Calls Try.prog 53 #[.agg #[.slice A0 L.length c0, .slice A1 D.length c1, .int .i64 g], .int .i64 er] w fun e w' => ∃ (AL : Option Addr) (cL : Nat) (AD : Option Addr) (cD : Nat) (AT : Option Addr) (cT : Nat), e = .returned (.tuple #[.agg #[.slice AL (L.drop L.length).length cL, .slice AD (D ++ (L.take L.length).map (sayDone er)).length cD, .int .i64 0], .slice AT ((L.take L.length).map S65.f0).length cT]) ∧ Kd.R k65 65 w' b (fun _ => True) (.slice AL (L.drop L.length).length cL) (L.drop L.length) ∧ Kd.R k65 65 w' b (fun _ => True) (.slice AD (D ++ (L.take L.length).map (sayDone er)).length cD) (D ++ (L.take L.length).map (sayDone er)) ∧ Kd.R (Kd.int .i64) 3 w' b (fun _ => True) (.slice AT ((L.take L.length).map S65.f0).length cT) ((L.take L.length).map S65.f0) ∧ Below w.heap.size w w' := by
  have HO0 := Aside0.mk hr0
  have HO1 := Aside0.mk hr1
  have HB := Aside0.mk (Below.refl w.heap.size w)
  have HBW := Aside0.mk hbw
  clear hr0 hr1 hbw
  obtain ⟨r0, hr0⟩ : ∃ r, (L.drop L.length) = r := ⟨_, rfl⟩
  obtain ⟨r1, hr1⟩ : ∃ r, (D ++ (L.take L.length).map (sayDone er)) = r := ⟨_, rfl⟩
  obtain ⟨r2, hr2⟩ : ∃ r, ((L.take L.length).map S65.f0) = r := ⟨_, rfl⟩
  rw [hr0, hr1, hr2]
  have E0 := Aside0.mk hr0
  have E1 := Aside0.mk hr1
  have E2 := Aside0.mk hr2
  clear hr0 hr1 hr2
  go_enter Try.func53, Try.ntmps53
  go_upto_region 1 with (first | ((with_reducible refine gate_dst (N := 2) rfl ?_); refine box_event ?hg (N := 2) ?hd (cs := #[.slice A0 L.length c0, .slice A1 D.length c1, .int .i64 g]) (t := 58) ?hr ?_; (case hd => rfl); (case hg => rfl); (case hr => first | (go_simp; done) | (go_simp; rfl)); intro gb2 hg w3 hbox hb; have GE_gb2 := Aside0.mk (show w.heap.size ≤ gb2 from by rw [hg]; exact below_size HB.out); clear hg; skip; replace HO0 := Aside0.mk (Kd.R_below HO0.out hb); replace HO1 := Aside0.mk (Kd.R_below HO1.out hb); replace HB := Aside0.mk (below_step HB.out hb); clear hb; have BK2 := Aside0.mk hbox; clear hbox; have bk2_0 := blk_c BK2.out 0 rfl; have bk2_1 := blk_c BK2.out 1 rfl; have bk2_2 := blk_c BK2.out 2 rfl; have bk2_f := fun i => blk_frozen BK2.out i) | ((with_reducible refine gate_dst (N := 4) rfl ?_); refine box_event ?hg (N := 4) ?hd (cs := #[.slice none 0 0, .slice none 0 0, .int .i64 0]) (t := 58) ?hr ?_; (case hd => rfl); (case hg => rfl); (case hr => first | (go_simp; done) | (go_simp; rfl)); intro gb4 hg w3 hbox hb; have NE_gb2_gb4 := Aside0.mk (show gb2 ≠ gb4 from by rw [hg]; exact Nat.ne_of_lt (blk_lt BK2.out)); have GE_gb4 := Aside0.mk (show w.heap.size ≤ gb4 from by rw [hg]; exact below_size HB.out); clear hg; clear bk2_0 bk2_1 bk2_2 bk2_f; replace BK2 := Aside0.mk (blk_below BK2.out hb); replace HO0 := Aside0.mk (Kd.R_below HO0.out hb); replace HO1 := Aside0.mk (Kd.R_below HO1.out hb); replace HB := Aside0.mk (below_step HB.out hb); clear hb; have BK4 := Aside0.mk hbox; clear hbox; have bk2_0 := blk_c BK2.out 0 rfl; have bk2_1 := blk_c BK2.out 1 rfl; have bk2_2 := blk_c BK2.out 2 rfl; have bk4_0 := blk_c BK4.out 0 rfl; have bk4_1 := blk_c BK4.out 1 rfl; have bk4_2 := blk_c BK4.out 2 rfl; have bk2_f := fun i => blk_frozen BK2.out i; have bk4_f := fun i => blk_frozen BK4.out i))
  have hwb : w.heap.size ≤ w3.heap.size := below_size HB.out
  have hbw3 : b ≤ w3.heap.size := Nat.le_trans HBW.out hwb
  go_wp2_with (first | (go_at_call 75; (with_reducible refine (refGone_at _ _ L _ _ D b g (L.length : Int) er _ hbw3 HO0.out HO1.out hl0 hl1 (by omega) (by omega)).mono ?_); rintro e w5 ⟨A5, c5, A6, c6, A7, c7, rfl, h0, h1, h2, hb⟩; rw [Int.toNat_natCast] at h0 h1 h2 ⊢; rw [E0.out, E1.out] at h0; rw [E1.out] at h1; rw [E2.out] at h2; rw [E0.out, E1.out, E2.out]; clear bk2_0 bk2_1 bk2_2 bk2_f bk4_0 bk4_1 bk4_2 bk4_f; replace BK2 := Aside0.mk (blk_below BK2.out hb); replace BK4 := Aside0.mk (blk_below BK4.out hb); have HV := Aside0.mk (Kd.R_lower (Kd.R_mono h0 (fun _ _ => trivial)) hbw3); have HU := Aside0.mk (Kd.R_lower h1 hbw3); have HT := Aside0.mk (Kd.R_lower h2 hbw3); replace HB := Aside0.mk (below_step HB.out hb); clear HO0 HO1; have bk2_0 := blk_c BK2.out 0 rfl; have bk2_1 := blk_c BK2.out 1 rfl; have bk2_2 := blk_c BK2.out 2 rfl; have bk4_0 := blk_c BK4.out 0 rfl; have bk4_1 := blk_c BK4.out 1 rfl; have bk4_2 := blk_c BK4.out 2 rfl; have bk2_f := fun i => blk_frozen BK2.out i; have bk4_f := fun i => blk_frozen BK4.out i; clear h0 h1 h2 hb))
  clear bk2_0 bk2_1 bk2_2 bk2_f bk4_0 bk4_1 bk4_2 bk4_f
  have s0_HV := far_set3 HV.out (blk_rowG BK4.out HV.out (by decide)) (.slice A5 r0.length c5) (.slice A6 r1.length c6) (.int .i64 0)
  have s0_HU := far_set3 HU.out (blk_rowG BK4.out HU.out (by decide)) (.slice A5 r0.length c5) (.slice A6 r1.length c6) (.int .i64 0)
  have s0_HT := far_int3 HT.out (blk_rowG BK4.out HT.out (by decide)) (.slice A5 r0.length c5) (.slice A6 r1.length c6) (.int .i64 0)
  have s0_BK2 := blk_far3 BK2.out NE_gb2_gb4.out (.slice A5 r0.length c5) (.slice A6 r1.length c6) (.int .i64 0)
  have s0_BK4 := blk_put3 BK4.out (.slice A5 r0.length c5) (.slice A6 r1.length c6) (.int .i64 0)
  have s0_HB := below_set3 HB.out GE_gb4.out (.slice A5 r0.length c5) (.slice A6 r1.length c6) (.int .i64 0)
  have n_BK2 := Aside0.mk s0_BK2
  have n_BK4 := Aside0.mk s0_BK4
  have n_HV := Aside0.mk s0_HV
  have n_HU := Aside0.mk s0_HU
  have n_HT := Aside0.mk s0_HT
  have n_HB := Aside0.mk s0_HB
  clear s0_BK2 s0_BK4 s0_HV s0_HU s0_HT s0_HB
  clear BK2 BK4 HV HU HT HB
  generalize (((w5.setCell ⟨gb4, 0, none⟩ (.slice A5 r0.length c5)).setCell ⟨gb4, 1, none⟩ (.slice A6 r1.length c6)).setCell ⟨gb4, 2, none⟩ (.int .i64 0)) = w9 at n_BK2 n_BK4 n_HV n_HU n_HT n_HB ⊢
  have BK2 := n_BK2
  have BK4 := n_BK4
  have HV := n_HV
  have HU := n_HU
  have HT := n_HT
  have HB := n_HB
  clear n_BK2 n_BK4 n_HV n_HU n_HT n_HB
  have bk2_0 := blk_c BK2.out 0 rfl; have bk2_1 := blk_c BK2.out 1 rfl; have bk2_2 := blk_c BK2.out 2 rfl; have bk4_0 := blk_c BK4.out 0 rfl; have bk4_1 := blk_c BK4.out 1 rfl; have bk4_2 := blk_c BK4.out 2 rfl; have bk2_f := fun i => blk_frozen BK2.out i; have bk4_f := fun i => blk_frozen BK4.out i
  refine bodyPost_ret (results_ct rfl _ _ gb4 58 #[.slice A5 r0.length c5, .slice A6 r1.length c6, .int .i64 0] (0, 0) _ rfl BK4.out Try.underlying58 rfl (by kernel_rfl)) rfl ?_
  exact ⟨_, _, _, _, _, _, rfl, HV.out, HU.out, HT.out, HB.out⟩
/-- What Give makes of the line. -/
def giveR (L : List S65) (g n last : Int) : List S65 × Int × Int := if g ≠ 0 ∨ n ≤ 0 ∨ n > L.length then (L, g, last) else ((giveL n.toNat last L).1, n, (giveL n.toNat last L).2)
theorem giveR_len (L : List S65) (g n last : Int) : (giveR L g n last).1.length = L.length := by unfold giveR; split <;> first | rfl | exact giveL_len _ _ _
theorem take_set_succ (l : List S65) (i : Nat) (h : i < l.length) (x : S65) : (l.set i x).take (i + 1) = l.take i ++ [x] := by
  rw [List.take_succ_eq_append_getElem (by rw [List.length_set]; exact h), List.getElem_set_self, List.take_set, List.set_eq_of_length_le (by rw [List.length_take]; omega)]
theorem giveL_late65 : ∀ (n : Nat) (last : Int) (l : List S65) (i : Nat), n ≤ i → (giveL n last l).1.getD i z65 = l.getD i z65
  | 0, _, _, _, _ => rfl
  | _ + 1, _, [], _, _ => rfl
  | n + 1, last, m :: ms, 0, h => by omega
  | n + 1, last, m :: ms, i + 1, h => by simpa [giveL] using giveL_late65 n _ ms i (by omega)
/-- The first i of those that are given. -/
theorem give_step (N : Nat) (last : Int) (L : List S65) (i : Nat) (hi : i < L.length) :
    (i < N → (giveL (min (i + 1) N) last L).1.take (i + 1) = (giveL (min i N) last L).1.take i ++ [⟨(L.getD i z65).f0, (L.getD i z65).f1, (L.getD i z65).f2, ((giveL (min i N) last L).2 + 1) % 18446744073709551616, (L.getD i z65).f4, (L.getD i z65).f5⟩] ∧ (giveL (min (i + 1) N) last L).2 = ((giveL (min i N) last L).2 + (L.getD i z65).f1 % 18446744073709551616) % 18446744073709551616) ∧
    (¬ i < N → (giveL (min (i + 1) N) last L).1.take (i + 1) = (giveL (min i N) last L).1.take i ++ [L.getD i z65] ∧ (giveL (min (i + 1) N) last L).2 = (giveL (min i N) last L).2) := by
  refine ⟨fun h => ?_, fun h => ?_⟩
  · rw [Nat.min_eq_left (by omega), Nat.min_eq_left (by omega)]
    obtain ⟨h1, h2, h3⟩ := giveL_succ L i last hi
    have hl := giveL_len i last L
    refine ⟨?_, h3⟩
    rw [h2, take_set_succ _ _ (by rw [hl]; exact hi)]
  · rw [show min (i + 1) N = N by omega, show min i N = N by omega]
    refine ⟨?_, rfl⟩
    have hl := giveL_len N last L
    rw [List.take_succ_eq_append_getElem (by rw [hl]; exact hi)]
    congr 2
    have := giveL_late65 N last L i (by omega)
    rw [List.getD_eq_getElem?_getD, List.getElem?_eq_getElem (by rw [hl]; exact hi)] at this
    exact this
set_option maxHeartbeats 8000000 in
set_option maxRecDepth 100000 in
theorem refGive_at (A0 : Option Addr) (c0 : Nat) (L : List S65) (A1 : Option Addr) (c1 : Nat) (D : List S65) (b : Nat) (g n last : Int) (w : World) (hbw : b ≤ w.heap.size) (hr0 : Kd.R k65 65 w b (fun _ => True) (.slice A0 L.length c0) L) (hr1 : Kd.R k65 65 w b (fun _ => True) (.slice A1 D.length c1) D) (hl0 : L.length ≤ 1000) :
    Calls Try.prog 47 #[.agg #[.slice A0 L.length c0, .slice A1 D.length c1, .int .i64 g], .int .i64 n, .int .u64 last] w fun e w' => ∃ (AL : Option Addr) (cL : Nat), e = .returned (.tuple #[.agg #[.slice AL L.length cL, .slice A1 D.length c1, .int .i64 (giveR L g n last).2.1], .int .u64 (giveR L g n last).2.2]) ∧ Kd.R k65 65 w' b (fun _ => True) (.slice AL L.length cL) (giveR L g n last).1 ∧ Kd.R k65 65 w' b (fun _ => True) (.slice A1 D.length c1) D ∧ Below w.heap.size w w' := by
  have HO0 := Aside0.mk hr0
  have HO1 := Aside0.mk hr1
  have HB := Aside0.mk (Below.refl w.heap.size w)
  have HBW := Aside0.mk hbw
  have Q0 : Aside0 (∀ k, (.slice A0 L.length c0 : Value).ownBlock = some k → k < w.heap.size) := ⟨Kd.R_lt hr0⟩
  have Q1 : Aside0 (∀ k, (.slice A1 D.length c1 : Value).ownBlock = some k → k < w.heap.size) := ⟨Kd.R_lt hr1⟩
  clear hr0 hr1 hbw
  go_enter Try.func47, Try.ntmps47
  go_upto_region 1 with (first | ((with_reducible refine gate_dst (N := 3) rfl ?_); refine box_event ?hg (N := 3) ?hd (cs := #[.slice A0 L.length c0, .slice A1 D.length c1, .int .i64 g]) (t := 58) ?hr ?_; (case hd => rfl); (case hg => rfl); (case hr => first | (go_simp; done) | (go_simp; rfl)); intro gb3 hg w3 hbox hb; have GE_gb3 := Aside0.mk (show w.heap.size ≤ gb3 from by rw [hg]; exact below_size HB.out); clear hg; skip; replace HO0 := Aside0.mk (Kd.R_below HO0.out hb); replace HO1 := Aside0.mk (Kd.R_below HO1.out hb); replace HB := Aside0.mk (below_step HB.out hb); clear hb; have BK3 := Aside0.mk hbox; clear hbox; have bk3_0 := blk_c BK3.out 0 rfl; have bk3_1 := blk_c BK3.out 1 rfl; have bk3_2 := blk_c BK3.out 2 rfl; have bk3_f := fun i => blk_frozen BK3.out i) | ((with_reducible refine gate_dst (N := 6) rfl ?_); refine box_event ?hg (N := 6) ?hd (cs := #[.slice none 0 0, .slice none 0 0, .int .i64 0]) (t := 58) ?hr ?_; (case hd => rfl); (case hg => rfl); (case hr => first | (go_simp; done) | (go_simp; rfl)); intro gb6 hg w3 hbox hb; have NE_gb3_gb6 := Aside0.mk (show gb3 ≠ gb6 from by rw [hg]; exact Nat.ne_of_lt (blk_lt BK3.out)); have GE_gb6 := Aside0.mk (show w.heap.size ≤ gb6 from by rw [hg]; exact below_size HB.out); clear hg; clear bk3_0 bk3_1 bk3_2 bk3_f; replace BK3 := Aside0.mk (blk_below BK3.out hb); replace HO0 := Aside0.mk (Kd.R_below HO0.out hb); replace HO1 := Aside0.mk (Kd.R_below HO1.out hb); replace HB := Aside0.mk (below_step HB.out hb); clear hb; have BK6 := Aside0.mk hbox; clear hbox; have bk3_0 := blk_c BK3.out 0 rfl; have bk3_1 := blk_c BK3.out 1 rfl; have bk3_2 := blk_c BK3.out 2 rfl; have bk6_0 := blk_c BK6.out 0 rfl; have bk6_1 := blk_c BK6.out 1 rfl; have bk6_2 := blk_c BK6.out 2 rfl; have bk3_f := fun i => blk_frozen BK3.out i; have bk6_f := fun i => blk_frozen BK6.out i))
  go_cut [24] (fun v24 wx => v24 = .bool (decide (g ≠ 0 ∨ n ≤ 0 ∨ n > L.length)) ∧ w3 = wx)
  case first =>
    by_cases b0 : g = 0
    · have e0 : (g == 0) = true := beq_iff_eq.2 b0
      have e1 : (g != 0) = false := by rw [bne, e0]; rfl
      by_cases b1 : n ≤ 0
      · have e2 : decide (n ≤ 0) = true := decide_eq_true b1
        have ef : decide (g ≠ 0 ∨ n ≤ 0 ∨ n > L.length) = true := decide_eq_true (by omega)
        clear b0
        go_wp2
        go_meet
        case rel => exact ⟨by rw [ef], rfl⟩
      · have e2 : decide (n ≤ 0) = false := decide_eq_false b1
        by_cases b2 : n > L.length
        · have e3 : decide ((L.length : Int) < n) = true := decide_eq_true (by omega)
          have ef : decide (g ≠ 0 ∨ n ≤ 0 ∨ n > L.length) = true := decide_eq_true (by omega)
          clear b0
          go_wp2
          go_meet
          case rel => exact ⟨by rw [ef], rfl⟩
        · have e3 : decide ((L.length : Int) < n) = false := decide_eq_false (by omega)
          have ef : decide (g ≠ 0 ∨ n ≤ 0 ∨ n > L.length) = false := decide_eq_false (by omega)
          clear b0
          go_wp2
          go_meet
          case rel => exact ⟨by rw [ef], rfl⟩
    · have e0 : (g == 0) = false := beq_false_of_ne b0
      have e1 : (g != 0) = true := by rw [bne, e0]; rfl
      have ef : decide (g ≠ 0 ∨ n ≤ 0 ∨ n > L.length) = true := decide_eq_true (by omega)
      clear b0
      go_wp2
      go_meet
      case rel => exact ⟨by rw [ef], rfl⟩
  case rest =>
  obtain ⟨rfl, rfl⟩ := hcut
  by_cases hbad : g ≠ 0 ∨ n ≤ 0 ∨ n > L.length
  · rw [decide_eq_true hbad]
    have HR : Aside0 (giveR L g n last = (L, g, last)) := ⟨by unfold giveR; rw [if_pos hbad]⟩
    clear hbad
    have n36 := NE_gb3_gb6.out
    go_wp2
    clear n36
    clear bk3_0 bk3_1 bk3_2 bk3_f bk6_0 bk6_1 bk6_2 bk6_f
    have s0_HO0 := far_set3 HO0.out (blk_rowG BK6.out HO0.out (by decide)) (.slice A0 L.length c0) (.slice A1 D.length c1) (.int .i64 g)
    have s0_HO1 := far_set3 HO1.out (blk_rowG BK6.out HO1.out (by decide)) (.slice A0 L.length c0) (.slice A1 D.length c1) (.int .i64 g)
    have s0_BK3 := blk_far3 BK3.out NE_gb3_gb6.out (.slice A0 L.length c0) (.slice A1 D.length c1) (.int .i64 g)
    have s0_BK6 := blk_put3 BK6.out (.slice A0 L.length c0) (.slice A1 D.length c1) (.int .i64 g)
    have s0_HB := below_set3 HB.out GE_gb6.out (.slice A0 L.length c0) (.slice A1 D.length c1) (.int .i64 g)
    have n_BK3 := Aside0.mk s0_BK3
    have n_BK6 := Aside0.mk s0_BK6
    have n_HO0 := Aside0.mk s0_HO0
    have n_HO1 := Aside0.mk s0_HO1
    have n_HB := Aside0.mk s0_HB
    clear s0_BK3 s0_BK6 s0_HO0 s0_HO1 s0_HB
    clear BK3 BK6 HO0 HO1 HB
    generalize (((w3.setCell ⟨gb6, 0, none⟩ (.slice A0 L.length c0)).setCell ⟨gb6, 1, none⟩ (.slice A1 D.length c1)).setCell ⟨gb6, 2, none⟩ (.int .i64 g)) = w12 at n_BK3 n_BK6 n_HO0 n_HO1 n_HB ⊢
    have BK3 := n_BK3
    have BK6 := n_BK6
    have HO0 := n_HO0
    have HO1 := n_HO1
    have HB := n_HB
    clear n_BK3 n_BK6 n_HO0 n_HO1 n_HB
    have bk3_0 := blk_c BK3.out 0 rfl; have bk3_1 := blk_c BK3.out 1 rfl; have bk3_2 := blk_c BK3.out 2 rfl; have bk6_0 := blk_c BK6.out 0 rfl; have bk6_1 := blk_c BK6.out 1 rfl; have bk6_2 := blk_c BK6.out 2 rfl; have bk3_f := fun i => blk_frozen BK3.out i; have bk6_f := fun i => blk_frozen BK6.out i
    refine bodyPost_ret (results_ct rfl _ _ gb6 58 #[.slice A0 L.length c0, .slice A1 D.length c1, .int .i64 g] (0, 0) _ rfl BK6.out Try.underlying58 rfl (by kernel_rfl)) rfl ?_
    rw [HR.out]
    exact ⟨_, _, rfl, HO0.out, HO1.out, HB.out⟩
  · rw [decide_eq_false hbad]
    obtain ⟨N, rfl⟩ : ∃ N : Nat, n = (N : Int) := ⟨n.toNat, by omega⟩
    obtain rfl : g = 0 := by omega
    have hN : N ≤ L.length := by omega
    have HR : Aside0 (giveR L 0 (N : Int) last = ((giveL N last L).1, (N : Int), (giveL N last L).2)) := ⟨by unfold giveR; rw [if_neg hbad, Int.toNat_natCast]⟩
    clear hbad
    go_wp2
    clear bk3_0 bk3_1 bk3_2 bk3_f bk6_0 bk6_1 bk6_2 bk6_f
    go_loopw [2, 8, 9] (fun v2 v8 v9 wr => ∃ (i : Nat) (A8 : Option Addr) (c8 : Nat), i ≤ L.length ∧ v9 = .int .i64 i ∧ v8 = .slice A8 i c8 ∧ v2 = .int .u64 (giveL (min i N) last L).2 ∧ Aside0 (wr.heap[gb3]? = some (.cells #[.slice A0 L.length c0, .slice A1 D.length c1, .int .i64 0] 58 (0, 0))) ∧ Aside0 (wr.heap[gb6]? = some (.cells #[.slice none 0 0, .slice none 0 0, .int .i64 0] 58 (0, 0))) ∧ Aside0 (Kd.R k65 65 wr b (fun _ => True) (.slice A0 L.length c0) L) ∧ Aside0 (Kd.R k65 65 wr b (fun _ => True) (.slice A1 D.length c1) D) ∧ Aside0 (Kd.R k65 65 wr w.heap.size (fun _ => True) (.slice A8 i c8) ((giveL (min i N) last L).1.take i)) ∧ Aside0 (Below w.heap.size w wr)) (fun v2 v8 v9 _ => L.length - (intOf v9).toNat)
    case atStart => exact ⟨0, none, 0, Nat.zero_le _, rfl, rfl, by simp [giveL], BK3, BK6, HO0, HO1, ⟨by simpa using Kd.R_nil k65 65 _ _ _⟩, HB⟩
    case round =>
      clear BK3 BK6 HO0 HO1 HB
      obtain ⟨i, A8, c8, hi, rfl, rfl, rfl, BK3, BK6, HO0, HO1, HV, HB⟩ := hrel
      rename World => wo
      by_cases hlt : i < L.length
      · obtain ⟨ad, e0, hx0, hx1, hx2, hx3, hx4, hx5⟩ := at_T65 (Kd.R_reads' HO0.out).2.2 (i : Int) (by omega) (by omega)
        subst e0
        simp only [rd65_nat, Int.toNat_natCast] at hx0 hx1 hx2 hx3 hx4 hx5
        have hst := give_step N last L i hlt
        have hlv : ((giveL (min i N) last L).1.take i).length = i := by rw [List.length_take, giveL_len]; omega
        generalize L.getD i z65 = x at hx0 hx1 hx2 hx3 hx4 hx5 hst
        have HST := Aside0.mk hst
        obtain ⟨ls, hls⟩ : ∃ ls, (giveL (min i N) last L).2 = ls := ⟨_, rfl⟩
        have HLS := Aside0.mk hls
        rw [hls]
        clear hst hls
        have bk3_0 := blk_c BK3.out 0 rfl; have bk3_1 := blk_c BK3.out 1 rfl; have bk3_2 := blk_c BK3.out 2 rfl; have bk6_0 := blk_c BK6.out 0 rfl; have bk6_1 := blk_c BK6.out 1 rfl; have bk6_2 := blk_c BK6.out 2 rfl; have bk3_f := fun i => blk_frozen BK3.out i; have bk6_f := fun i => blk_frozen BK6.out i
        go_upto_region 8 with (first | ((with_reducible refine gate_dst (N := 10) rfl ?_); refine box_event ?hg (N := 10) ?hd (cs := #[.int .i64 0, .int .i64 0, .int .u64 0, .int .u64 0, .int .u8 0, .int .i64 0]) (t := 65) ?hr ?_; (case hd => rfl); (case hg => rfl); (case hr => first | (go_simp; done) | (go_simp; rfl)); intro gb10 hg w3 hbox hb; have NE_gb3_gb10 := Aside0.mk (show gb3 ≠ gb10 from by rw [hg]; exact Nat.ne_of_lt (blk_lt BK3.out)); have NE_gb6_gb10 := Aside0.mk (show gb6 ≠ gb10 from by rw [hg]; exact Nat.ne_of_lt (blk_lt BK6.out)); have X_gb10_HO0 : Aside0 (some gb10 ≠ (.slice (some ad) L.length c0 : Value).ownBlock) := ⟨fun e => by have := Kd.R_lt HO0.out gb10 e.symm; rw [hg] at this; exact absurd this (Nat.lt_irrefl _)⟩; have X_gb10_HO1 : Aside0 (some gb10 ≠ (.slice A1 D.length c1 : Value).ownBlock) := ⟨fun e => by have := Kd.R_lt HO1.out gb10 e.symm; rw [hg] at this; exact absurd this (Nat.lt_irrefl _)⟩; have X_gb10_HV : Aside0 (some gb10 ≠ (.slice A8 i c8 : Value).ownBlock) := ⟨fun e => by have := Kd.R_lt HV.out gb10 e.symm; rw [hg] at this; exact absurd this (Nat.lt_irrefl _)⟩; have GE_gb10 := Aside0.mk (show w.heap.size ≤ gb10 from by rw [hg]; exact below_size HB.out); clear hg; clear bk3_0 bk3_1 bk3_2 bk3_f bk6_0 bk6_1 bk6_2 bk6_f; replace BK3 := Aside0.mk (blk_below BK3.out hb); replace BK6 := Aside0.mk (blk_below BK6.out hb); replace HO0 := Aside0.mk (Kd.R_below HO0.out hb); replace HO1 := Aside0.mk (Kd.R_below HO1.out hb); replace HV := Aside0.mk (Kd.R_below HV.out hb); replace HB := Aside0.mk (below_step HB.out hb); clear hb; have BK10 := Aside0.mk hbox; clear hbox; have bk3_0 := blk_c BK3.out 0 rfl; have bk3_1 := blk_c BK3.out 1 rfl; have bk3_2 := blk_c BK3.out 2 rfl; have bk6_0 := blk_c BK6.out 0 rfl; have bk6_1 := blk_c BK6.out 1 rfl; have bk6_2 := blk_c BK6.out 2 rfl; have bk10_0 := blk_c BK10.out 0 rfl; have bk10_1 := blk_c BK10.out 1 rfl; have bk10_2 := blk_c BK10.out 2 rfl; have bk10_3 := blk_c BK10.out 3 rfl; have bk10_4 := blk_c BK10.out 4 rfl; have bk10_5 := blk_c BK10.out 5 rfl; have bk3_f := fun i => blk_frozen BK3.out i; have bk6_f := fun i => blk_frozen BK6.out i; have bk10_f := fun i => blk_frozen BK10.out i))
        clear hx0 hx1 hx2 hx3 hx4 hx5
        clear bk3_0 bk3_1 bk3_2 bk3_f bk6_0 bk6_1 bk6_2 bk6_f bk10_0 bk10_1 bk10_2 bk10_3 bk10_4 bk10_5 bk10_f
        have s0_HO0 := far_set6 HO0.out (X_gb10_HO0.out) (.int .i64 x.f0) (.int .i64 x.f1) (.int .u64 x.f2) (.int .u64 x.f3) (.int .u8 x.f4) (.int .i64 x.f5)
        have s0_HO1 := far_set6 HO1.out (X_gb10_HO1.out) (.int .i64 x.f0) (.int .i64 x.f1) (.int .u64 x.f2) (.int .u64 x.f3) (.int .u8 x.f4) (.int .i64 x.f5)
        have s0_HV := far_set6 HV.out (X_gb10_HV.out) (.int .i64 x.f0) (.int .i64 x.f1) (.int .u64 x.f2) (.int .u64 x.f3) (.int .u8 x.f4) (.int .i64 x.f5)
        have s0_BK3 := blk_far6 BK3.out NE_gb3_gb10.out (.int .i64 x.f0) (.int .i64 x.f1) (.int .u64 x.f2) (.int .u64 x.f3) (.int .u8 x.f4) (.int .i64 x.f5)
        have s0_BK6 := blk_far6 BK6.out NE_gb6_gb10.out (.int .i64 x.f0) (.int .i64 x.f1) (.int .u64 x.f2) (.int .u64 x.f3) (.int .u8 x.f4) (.int .i64 x.f5)
        have s0_BK10 := blk_put6 BK10.out (.int .i64 x.f0) (.int .i64 x.f1) (.int .u64 x.f2) (.int .u64 x.f3) (.int .u8 x.f4) (.int .i64 x.f5)
        have s0_HB := below_set6 HB.out GE_gb10.out (.int .i64 x.f0) (.int .i64 x.f1) (.int .u64 x.f2) (.int .u64 x.f3) (.int .u8 x.f4) (.int .i64 x.f5)
        have n_BK3 := Aside0.mk s0_BK3
        have n_BK6 := Aside0.mk s0_BK6
        have n_BK10 := Aside0.mk s0_BK10
        have n_HO0 := Aside0.mk s0_HO0
        have n_HO1 := Aside0.mk s0_HO1
        have n_HV := Aside0.mk s0_HV
        have n_HB := Aside0.mk s0_HB
        clear s0_BK3 s0_BK6 s0_BK10 s0_HO0 s0_HO1 s0_HV s0_HB
        clear BK3 BK6 BK10 HO0 HO1 HV HB
        generalize ((((((w3.setCell ⟨gb10, 0, none⟩ (.int .i64 x.f0)).setCell ⟨gb10, 1, none⟩ (.int .i64 x.f1)).setCell ⟨gb10, 2, none⟩ (.int .u64 x.f2)).setCell ⟨gb10, 3, none⟩ (.int .u64 x.f3)).setCell ⟨gb10, 4, none⟩ (.int .u8 x.f4)).setCell ⟨gb10, 5, none⟩ (.int .i64 x.f5)) = w4 at n_BK3 n_BK6 n_BK10 n_HO0 n_HO1 n_HV n_HB ⊢
        have BK3 := n_BK3
        have BK6 := n_BK6
        have BK10 := n_BK10
        have HO0 := n_HO0
        have HO1 := n_HO1
        have HV := n_HV
        have HB := n_HB
        clear n_BK3 n_BK6 n_BK10 n_HO0 n_HO1 n_HV n_HB
        have bk3_0 := blk_c BK3.out 0 rfl; have bk3_1 := blk_c BK3.out 1 rfl; have bk3_2 := blk_c BK3.out 2 rfl; have bk6_0 := blk_c BK6.out 0 rfl; have bk6_1 := blk_c BK6.out 1 rfl; have bk6_2 := blk_c BK6.out 2 rfl; have bk10_0 := blk_c BK10.out 0 rfl; have bk10_1 := blk_c BK10.out 1 rfl; have bk10_2 := blk_c BK10.out 2 rfl; have bk10_3 := blk_c BK10.out 3 rfl; have bk10_4 := blk_c BK10.out 4 rfl; have bk10_5 := blk_c BK10.out 5 rfl; have bk3_f := fun i => blk_frozen BK3.out i; have bk6_f := fun i => blk_frozen BK6.out i; have bk10_f := fun i => blk_frozen BK10.out i
        by_cases hc : i < N
        · have d0 : decide ((i : Int) < (N : Int)) = true := decide_eq_true (by omega)
          have d1 : decide (i < N) = true := decide_eq_true hc
          have h1 := (HST.out.1 hc).1
          have h2 := (HST.out.1 hc).2
          rw [HLS.out] at h1 h2
          have HVE : Aside0 (((giveL (min i N) last L).1.take i) ++ [(⟨x.f0, x.f1, x.f2, IntKind.u64.wrap (ls + 1), x.f4, x.f5⟩ : S65)] = ((giveL (min (i + 1) N) last L).1.take (i + 1))) := ⟨by rw [u64w]; exact h1.symm⟩
          have HL2 := Aside0.mk h2
          clear h1 h2
          skip
          go_upto_region 10 with (fail)
          clear bk3_0 bk3_1 bk3_2 bk3_f bk6_0 bk6_1 bk6_2 bk6_f bk10_0 bk10_1 bk10_2 bk10_3 bk10_4 bk10_5 bk10_f
          have s0_HO0 := far_set (p := ⟨gb10, 3, none⟩) HO0.out (X_gb10_HO0.out) (.int .u64 (IntKind.u64.wrap (ls + 1)))
          have s0_HO1 := far_set (p := ⟨gb10, 3, none⟩) HO1.out (X_gb10_HO1.out) (.int .u64 (IntKind.u64.wrap (ls + 1)))
          have s0_HV := far_set (p := ⟨gb10, 3, none⟩) HV.out (X_gb10_HV.out) (.int .u64 (IntKind.u64.wrap (ls + 1)))
          have s0_BK3 := blk_far BK3.out (p := ⟨gb10, 3, none⟩) NE_gb3_gb10.out (.int .u64 (IntKind.u64.wrap (ls + 1)))
          have s0_BK6 := blk_far BK6.out (p := ⟨gb10, 3, none⟩) NE_gb6_gb10.out (.int .u64 (IntKind.u64.wrap (ls + 1)))
          have s0_BK10 := blk_put (cs' := #[.int .i64 x.f0, .int .i64 x.f1, .int .u64 x.f2, .int .u64 (IntKind.u64.wrap (ls + 1)), .int .u8 x.f4, .int .i64 x.f5]) BK10.out 3 (.int .u64 (IntKind.u64.wrap (ls + 1))) rfl
          have s0_HB := below_set (j := 3) (v := .int .u64 (IntKind.u64.wrap (ls + 1))) HB.out GE_gb10.out
          have n_BK3 := Aside0.mk s0_BK3
          have n_BK6 := Aside0.mk s0_BK6
          have n_BK10 := Aside0.mk s0_BK10
          have n_HO0 := Aside0.mk s0_HO0
          have n_HO1 := Aside0.mk s0_HO1
          have n_HV := Aside0.mk s0_HV
          have n_HB := Aside0.mk s0_HB
          clear s0_BK3 s0_BK6 s0_BK10 s0_HO0 s0_HO1 s0_HV s0_HB
          clear BK3 BK6 BK10 HO0 HO1 HV HB
          generalize (w4.setCell ⟨gb10, 3, none⟩ (.int .u64 (IntKind.u64.wrap (ls + 1)))) = w7 at n_BK3 n_BK6 n_BK10 n_HO0 n_HO1 n_HV n_HB ⊢
          have BK3 := n_BK3
          have BK6 := n_BK6
          have BK10 := n_BK10
          have HO0 := n_HO0
          have HO1 := n_HO1
          have HV := n_HV
          have HB := n_HB
          clear n_BK3 n_BK6 n_BK10 n_HO0 n_HO1 n_HV n_HB
          have bk3_0 := blk_c BK3.out 0 rfl; have bk3_1 := blk_c BK3.out 1 rfl; have bk3_2 := blk_c BK3.out 2 rfl; have bk6_0 := blk_c BK6.out 0 rfl; have bk6_1 := blk_c BK6.out 1 rfl; have bk6_2 := blk_c BK6.out 2 rfl; have bk10_0 := blk_c BK10.out 0 rfl; have bk10_1 := blk_c BK10.out 1 rfl; have bk10_2 := blk_c BK10.out 2 rfl; have bk10_3 := blk_c BK10.out 3 rfl; have bk10_4 := blk_c BK10.out 4 rfl; have bk10_5 := blk_c BK10.out 5 rfl; have bk3_f := fun i => blk_frozen BK3.out i; have bk6_f := fun i => blk_frozen BK6.out i; have bk10_f := fun i => blk_frozen BK10.out i
          go_wp2_with (first | ((with_reducible refine gate_builtin (b := .append) (xs := #[.tmp 50, .tmp 52]) rfl ?_); at_builtin; (refine Kd.R_append k65 (w0 := w) w.heap.size rfl (.tmp 50) (.tmp 52) 56 65 (.agg #[.int .i64 0, .int .i64 0, .int .u64 0, .int .u64 0, .int .u8 0, .int .i64 0]) 48 rfl Try.underlying56 info65 rfl (by decide) (by omega) (.slice A8 i c8) ((giveL (min i N) last L).1.take i) (⟨x.f0, x.f1, x.f2, IntKind.u64.wrap (ls + 1), x.f4, x.f5⟩ : S65) [.int .i64 x.f0, .int .i64 x.f1, .int .u64 x.f2, .int .u64 (IntKind.u64.wrap (ls + 1)), .int .u8 x.f4, .int .i64 x.f5] (fun _ => True) (fun _ => False) (by first | rfl | (go_simp; done)) (by first | rfl | (go_simp; done)) (k65_mkM _ _ _ (⟨x.f0, x.f1, x.f2, IntKind.u64.wrap (ls + 1), x.f4, x.f5⟩ : S65)) (fun _ hk => hk.elim) (fun _ _ => trivial) HV.out HB.out (below_size HB.out) (by rw [hlv]; omega) ?_); intro v6 w6 ho hb hg hat; rw [HVE.out] at ho; obtain ⟨A7, c7, ev⟩ := Kd.R_slice ho; subst ev; clear bk3_0 bk3_1 bk3_2 bk3_f bk6_0 bk6_1 bk6_2 bk6_f bk10_0 bk10_1 bk10_2 bk10_3 bk10_4 bk10_5 bk10_f; replace BK3 := Aside0.mk (blk_grown BK3.out hg (blk_rowG BK3.out HV.out (by decide))); replace BK6 := Aside0.mk (blk_grown BK6.out hg (blk_rowG BK6.out HV.out (by decide))); replace BK10 := Aside0.mk (blk_grown BK10.out hg X_gb10_HV.out); replace HO0 := Aside0.mk (Kd.R_grown2 HO0.out rfl hg (fun k hk e => by have h1 := Kd.R_base HV.out k hk; have h2 := Q0.out k e.symm; omega)); replace HO1 := Aside0.mk (Kd.R_grown2 HO1.out rfl hg (fun k hk e => by have h1 := Kd.R_base HV.out k hk; have h2 := Q1.out k e.symm; omega)); replace HV := Aside0.mk (ho); replace HB := Aside0.mk (hb); have bk3_0 := blk_c BK3.out 0 rfl; have bk3_1 := blk_c BK3.out 1 rfl; have bk3_2 := blk_c BK3.out 2 rfl; have bk6_0 := blk_c BK6.out 0 rfl; have bk6_1 := blk_c BK6.out 1 rfl; have bk6_2 := blk_c BK6.out 2 rfl; have bk10_0 := blk_c BK10.out 0 rfl; have bk10_1 := blk_c BK10.out 1 rfl; have bk10_2 := blk_c BK10.out 2 rfl; have bk10_3 := blk_c BK10.out 3 rfl; have bk10_4 := blk_c BK10.out 4 rfl; have bk10_5 := blk_c BK10.out 5 rfl; have bk3_f := fun i => blk_frozen BK3.out i; have bk6_f := fun i => blk_frozen BK6.out i; have bk10_f := fun i => blk_frozen BK10.out i; clear ho hb hg hat))
          go_roundw
          case rel => exact ⟨i + 1, A7, c7, by omega, by go_num, by first | rfl | (congr 1; omega) | (simp only [List.length_take, giveL_len]; congr 1; omega), by first | rfl | (rw [HL2.out, u64w, u64w]) | (rw [HL2.out]), BK3, BK6, HO0, HO1, ⟨by have h := HV.out; rw [(show ((giveL (min (i + 1) N) last L).1.take (i + 1)).length = i + 1 by rw [List.length_take, giveL_len]; omega)] at h; exact h⟩, HB⟩
          case measure => simp [intOf]; omega
        · have d0 : decide ((i : Int) < (N : Int)) = false := decide_eq_false (by omega)
          have d1 : decide (i < N) = false := decide_eq_false hc
          have h1 := (HST.out.2 hc).1
          have h2 := (HST.out.2 hc).2
          rw [HLS.out] at h2
          have HVE : Aside0 (((giveL (min i N) last L).1.take i) ++ [x] = ((giveL (min (i + 1) N) last L).1.take (i + 1))) := ⟨h1.symm⟩
          have HL2 := Aside0.mk h2
          clear h1 h2
          go_wp2_with (first | ((with_reducible refine gate_builtin (b := .append) (xs := #[.tmp 50, .tmp 52]) rfl ?_); at_builtin; (refine Kd.R_append k65 (w0 := w) w.heap.size rfl (.tmp 50) (.tmp 52) 56 65 (.agg #[.int .i64 0, .int .i64 0, .int .u64 0, .int .u64 0, .int .u8 0, .int .i64 0]) 48 rfl Try.underlying56 info65 rfl (by decide) (by omega) (.slice A8 i c8) ((giveL (min i N) last L).1.take i) x [.int .i64 x.f0, .int .i64 x.f1, .int .u64 x.f2, .int .u64 x.f3, .int .u8 x.f4, .int .i64 x.f5] (fun _ => True) (fun _ => False) (by first | rfl | (go_simp; done)) (by first | rfl | (go_simp; done)) (k65_mkM _ _ _ x) (fun _ hk => hk.elim) (fun _ _ => trivial) HV.out HB.out (below_size HB.out) (by rw [hlv]; omega) ?_); intro v6 w6 ho hb hg hat; rw [HVE.out] at ho; obtain ⟨A7, c7, ev⟩ := Kd.R_slice ho; subst ev; clear bk3_0 bk3_1 bk3_2 bk3_f bk6_0 bk6_1 bk6_2 bk6_f bk10_0 bk10_1 bk10_2 bk10_3 bk10_4 bk10_5 bk10_f; replace BK3 := Aside0.mk (blk_grown BK3.out hg (blk_rowG BK3.out HV.out (by decide))); replace BK6 := Aside0.mk (blk_grown BK6.out hg (blk_rowG BK6.out HV.out (by decide))); replace BK10 := Aside0.mk (blk_grown BK10.out hg X_gb10_HV.out); replace HO0 := Aside0.mk (Kd.R_grown2 HO0.out rfl hg (fun k hk e => by have h1 := Kd.R_base HV.out k hk; have h2 := Q0.out k e.symm; omega)); replace HO1 := Aside0.mk (Kd.R_grown2 HO1.out rfl hg (fun k hk e => by have h1 := Kd.R_base HV.out k hk; have h2 := Q1.out k e.symm; omega)); replace HV := Aside0.mk (ho); replace HB := Aside0.mk (hb); have bk3_0 := blk_c BK3.out 0 rfl; have bk3_1 := blk_c BK3.out 1 rfl; have bk3_2 := blk_c BK3.out 2 rfl; have bk6_0 := blk_c BK6.out 0 rfl; have bk6_1 := blk_c BK6.out 1 rfl; have bk6_2 := blk_c BK6.out 2 rfl; have bk10_0 := blk_c BK10.out 0 rfl; have bk10_1 := blk_c BK10.out 1 rfl; have bk10_2 := blk_c BK10.out 2 rfl; have bk10_3 := blk_c BK10.out 3 rfl; have bk10_4 := blk_c BK10.out 4 rfl; have bk10_5 := blk_c BK10.out 5 rfl; have bk3_f := fun i => blk_frozen BK3.out i; have bk6_f := fun i => blk_frozen BK6.out i; have bk10_f := fun i => blk_frozen BK10.out i; clear ho hb hg hat))
          go_roundw
          case rel => exact ⟨i + 1, A7, c7, by omega, by go_num, by first | rfl | (congr 1; omega) | (simp only [List.length_take, giveL_len]; congr 1; omega), by first | rfl | (rw [HL2.out, u64w, u64w]) | (rw [HL2.out]), BK3, BK6, HO0, HO1, ⟨by have h := HV.out; rw [(show ((giveL (min (i + 1) N) last L).1.take (i + 1)).length = i + 1 by rw [List.length_take, giveL_len]; omega)] at h; exact h⟩, HB⟩
          case measure => simp [intOf]; omega
      · obtain rfl : i = L.length := by omega
        have hmin : min L.length N = N := Nat.min_eq_right hN
        rw [hmin] at HV ⊢
        rw [List.take_of_length_le (by rw [giveL_len]; omega)] at HV
        clear hmin
        have bk3_0 := blk_c BK3.out 0 rfl; have bk3_1 := blk_c BK3.out 1 rfl; have bk3_2 := blk_c BK3.out 2 rfl; have bk6_0 := blk_c BK6.out 0 rfl; have bk6_1 := blk_c BK6.out 1 rfl; have bk6_2 := blk_c BK6.out 2 rfl; have bk3_f := fun i => blk_frozen BK3.out i; have bk6_f := fun i => blk_frozen BK6.out i
        have n36 := NE_gb3_gb6.out
        have n63 := Ne.symm NE_gb3_gb6.out
        go_wp2
        clear n36 n63
        clear bk3_0 bk3_1 bk3_2 bk3_f bk6_0 bk6_1 bk6_2 bk6_f
        have s0_HO0 := Kd.R_set HO0.out BK3.out (by decide) 0 (.slice A8 L.length c8)
        have s0_HO1 := Kd.R_set HO1.out BK3.out (by decide) 0 (.slice A8 L.length c8)
        have s0_HV := Kd.R_set HV.out BK3.out (by decide) 0 (.slice A8 L.length c8)
        have s0_BK3 := blk_put (cs' := #[.slice A8 L.length c8, .slice A1 D.length c1, .int .i64 0]) BK3.out 0 (.slice A8 L.length c8) rfl
        have s0_BK6 := blk_far BK6.out (p := ⟨gb3, 0, none⟩) (Ne.symm NE_gb3_gb6.out) (.slice A8 L.length c8)
        have s0_HB := below_set (j := 0) (v := .slice A8 L.length c8) HB.out GE_gb3.out
        have s1_HO0 := Kd.R_set s0_HO0 s0_BK3 (by decide) 2 (.int .i64 (N : Int))
        have s1_HO1 := Kd.R_set s0_HO1 s0_BK3 (by decide) 2 (.int .i64 (N : Int))
        have s1_HV := Kd.R_set s0_HV s0_BK3 (by decide) 2 (.int .i64 (N : Int))
        have s1_BK3 := blk_put (cs' := #[.slice A8 L.length c8, .slice A1 D.length c1, .int .i64 (N : Int)]) s0_BK3 2 (.int .i64 (N : Int)) rfl
        have s1_BK6 := blk_far s0_BK6 (p := ⟨gb3, 2, none⟩) (Ne.symm NE_gb3_gb6.out) (.int .i64 (N : Int))
        have s1_HB := below_set (j := 2) (v := .int .i64 (N : Int)) s0_HB GE_gb3.out
        have s2_HO0 := far_set3 s1_HO0 (blk_rowG s1_BK6 s1_HO0 (by decide)) (.slice A8 L.length c8) (.slice A1 D.length c1) (.int .i64 (N : Int))
        have s2_HO1 := far_set3 s1_HO1 (blk_rowG s1_BK6 s1_HO1 (by decide)) (.slice A8 L.length c8) (.slice A1 D.length c1) (.int .i64 (N : Int))
        have s2_HV := far_set3 s1_HV (blk_rowG s1_BK6 s1_HV (by decide)) (.slice A8 L.length c8) (.slice A1 D.length c1) (.int .i64 (N : Int))
        have s2_BK3 := blk_far3 s1_BK3 NE_gb3_gb6.out (.slice A8 L.length c8) (.slice A1 D.length c1) (.int .i64 (N : Int))
        have s2_BK6 := blk_put3 s1_BK6 (.slice A8 L.length c8) (.slice A1 D.length c1) (.int .i64 (N : Int))
        have s2_HB := below_set3 s1_HB GE_gb6.out (.slice A8 L.length c8) (.slice A1 D.length c1) (.int .i64 (N : Int))
        have n_BK3 := Aside0.mk s2_BK3
        have n_BK6 := Aside0.mk s2_BK6
        have n_HO0 := Aside0.mk s2_HO0
        have n_HO1 := Aside0.mk s2_HO1
        have n_HV := Aside0.mk s2_HV
        have n_HB := Aside0.mk s2_HB
        clear s0_BK3 s0_BK6 s0_HO0 s0_HO1 s0_HV s0_HB
        clear s1_BK3 s1_BK6 s1_HO0 s1_HO1 s1_HV s1_HB
        clear s2_BK3 s2_BK6 s2_HO0 s2_HO1 s2_HV s2_HB
        clear BK3 BK6 HO0 HO1 HV HB
        generalize (((((wo.setCell ⟨gb3, 0, none⟩ (.slice A8 L.length c8)).setCell ⟨gb3, 2, none⟩ (.int .i64 (N : Int))).setCell ⟨gb6, 0, none⟩ (.slice A8 L.length c8)).setCell ⟨gb6, 1, none⟩ (.slice A1 D.length c1)).setCell ⟨gb6, 2, none⟩ (.int .i64 (N : Int))) = w9 at n_BK3 n_BK6 n_HO0 n_HO1 n_HV n_HB ⊢
        have BK3 := n_BK3
        have BK6 := n_BK6
        have HO0 := n_HO0
        have HO1 := n_HO1
        have HV := n_HV
        have HB := n_HB
        clear n_BK3 n_BK6 n_HO0 n_HO1 n_HV n_HB
        have bk3_0 := blk_c BK3.out 0 rfl; have bk3_1 := blk_c BK3.out 1 rfl; have bk3_2 := blk_c BK3.out 2 rfl; have bk6_0 := blk_c BK6.out 0 rfl; have bk6_1 := blk_c BK6.out 1 rfl; have bk6_2 := blk_c BK6.out 2 rfl; have bk3_f := fun i => blk_frozen BK3.out i; have bk6_f := fun i => blk_frozen BK6.out i
        refine bodyPost_ret (results_ct rfl _ _ gb6 58 #[.slice A8 L.length c8, .slice A1 D.length c1, .int .i64 (N : Int)] (0, 0) _ rfl BK6.out Try.underlying58 rfl (by kernel_rfl)) rfl ?_
        rw [HR.out]
        exact ⟨_, _, rfl, Kd.R_lower HV.out HBW.out, HO1.out, HB.out⟩
def take12.T : Bool × List (List Nat × List Nat) := (true, [([], []), ([], []), ([0, 0], [0]), ([1, 2, 0, 1, 2], [1]), ([3, 0, 1, 2, 3], [])])
def take12.B : List Nat := [0, 0, 1, 7, 15]
theorem take12.tab : rtab .any (opsOf Try.f55 12) = take12.T := by kernel_rfl
theorem take12.bits : waitsOk take12.T.2 take12.B = true := by kernel_rfl
/-- What Take makes of the line. -/
def takeR (D : List S65) (t : Int) : List S65 × S65 × Bool := if atIdx t D 0 < 0 then (D, ⟨0, 0, 0, 0, 0, 0⟩, false) else (D.eraseIdx (atIdx t D 0).toNat, D.getD (atIdx t D 0).toNat z65, true)
theorem erase_step (D : List S65) (j i : Nat) (hi : i < D.length) : (i ≠ j → (D.take i).eraseIdx j ++ [D.getD i z65] = (D.take (i + 1)).eraseIdx j) ∧ (i = j → (D.take (i + 1)).eraseIdx j = (D.take i).eraseIdx j) := by
  have ht := take_map_succ id z65 D i hi
  simp only [List.map_id, id] at ht
  have hl : (D.take i).length = i := by rw [List.length_take]; omega
  refine ⟨fun h => ?_, fun h => ?_⟩
  · rw [ht]
    by_cases hij : j < i
    · rw [List.eraseIdx_append_of_lt_length (by rw [hl]; exact hij)]
    · rw [List.eraseIdx_of_length_le (by rw [hl]; omega), List.eraseIdx_of_length_le (by rw [List.length_append, hl]; simp; omega)]
  · subst h
    have e1 : (D.take i ++ [D.getD i z65]).eraseIdx i = D.take i := by
      rw [List.eraseIdx_append_of_length_le (by rw [hl]; omega), hl, Nat.sub_self]
      simp
    have e2 : (D.take i).eraseIdx i = D.take i := List.eraseIdx_of_length_le (by rw [hl]; omega)
    rw [ht, e1, e2]
set_option maxHeartbeats 8000000 in
set_option maxRecDepth 100000 in
theorem refTake_at (A0 : Option Addr) (c0 : Nat) (L : List S65) (A1 : Option Addr) (c1 : Nat) (D : List S65) (b : Nat) (g t : Int) (w : World) (hbw : b ≤ w.heap.size) (hr0 : Kd.R k65 65 w b (fun _ => True) (.slice A0 L.length c0) L) (hr1 : Kd.R k65 65 w b (fun _ => True) (.slice A1 D.length c1) D) (hl0 : L.length ≤ 1000) (hl1 : D.length ≤ 1000) :
    Calls Try.prog 55 #[.agg #[.slice A0 L.length c0, .slice A1 D.length c1, .int .i64 g], .int .i64 t] w fun e w' => ∃ (AD : Option Addr) (cD : Nat), e = .returned (.tuple #[.agg #[.slice A0 L.length c0, .slice AD (takeR D t).1.length cD, .int .i64 g], .agg #[.int .i64 (takeR D t).2.1.f0, .int .i64 (takeR D t).2.1.f1, .int .u64 (takeR D t).2.1.f2, .int .u64 (takeR D t).2.1.f3, .int .u8 (takeR D t).2.1.f4, .int .i64 (takeR D t).2.1.f5], .bool (takeR D t).2.2]) ∧ Kd.R k65 65 w' b (fun _ => True) (.slice A0 L.length c0) L ∧ Kd.R k65 65 w' b (fun _ => True) (.slice AD (takeR D t).1.length cD) (takeR D t).1 ∧ (∀ k, (.slice AD (takeR D t).1.length cD : Value).ownBlock = some k → (.slice A1 D.length c1 : Value).ownBlock = some k ∨ w.heap.size ≤ k) ∧ Below w.heap.size w w' := by
  have HO0 := Aside0.mk hr0
  have HO1 := Aside0.mk hr1
  have HB := Aside0.mk (Below.refl w.heap.size w)
  have HBW := Aside0.mk hbw
  have F1 := Aside0.mk (at_from t D 0)
  have Q0 : Aside0 (∀ k, (.slice A0 L.length c0 : Value).ownBlock = some k → k < w.heap.size) := ⟨Kd.R_lt hr0⟩
  have Q1 : Aside0 (∀ k, (.slice A1 D.length c1 : Value).ownBlock = some k → k < w.heap.size) := ⟨Kd.R_lt hr1⟩
  clear hr0 hr1 hbw
  go_enter Try.func55, Try.ntmps55
  go_upto_region 1 with (first | ((with_reducible refine gate_dst (N := 2) rfl ?_); refine box_event ?hg (N := 2) ?hd (cs := #[.slice A0 L.length c0, .slice A1 D.length c1, .int .i64 g]) (t := 58) ?hr ?_; (case hd => rfl); (case hg => rfl); (case hr => first | (go_simp; done) | (go_simp; rfl)); intro gb2 hg w3 hbox hb; have GE_gb2 := Aside0.mk (show w.heap.size ≤ gb2 from by rw [hg]; exact below_size HB.out); clear hg; skip; replace HO0 := Aside0.mk (Kd.R_below HO0.out hb); replace HO1 := Aside0.mk (Kd.R_below HO1.out hb); replace HB := Aside0.mk (below_step HB.out hb); clear hb; have BK2 := Aside0.mk hbox; clear hbox; have bk2_0 := blk_c BK2.out 0 rfl; have bk2_1 := blk_c BK2.out 1 rfl; have bk2_2 := blk_c BK2.out 2 rfl; have bk2_f := fun i => blk_frozen BK2.out i) | ((with_reducible refine gate_dst (N := 4) rfl ?_); refine box_event ?hg (N := 4) ?hd (cs := #[.slice none 0 0, .slice none 0 0, .int .i64 0]) (t := 58) ?hr ?_; (case hd => rfl); (case hg => rfl); (case hr => first | (go_simp; done) | (go_simp; rfl)); intro gb4 hg w3 hbox hb; have NE_gb2_gb4 := Aside0.mk (show gb2 ≠ gb4 from by rw [hg]; exact Nat.ne_of_lt (blk_lt BK2.out)); have GE_gb4 := Aside0.mk (show w.heap.size ≤ gb4 from by rw [hg]; exact below_size HB.out); clear hg; clear bk2_0 bk2_1 bk2_2 bk2_f; replace BK2 := Aside0.mk (blk_below BK2.out hb); replace HO0 := Aside0.mk (Kd.R_below HO0.out hb); replace HO1 := Aside0.mk (Kd.R_below HO1.out hb); replace HB := Aside0.mk (below_step HB.out hb); clear hb; have BK4 := Aside0.mk hbox; clear hbox; have bk2_0 := blk_c BK2.out 0 rfl; have bk2_1 := blk_c BK2.out 1 rfl; have bk2_2 := blk_c BK2.out 2 rfl; have bk4_0 := blk_c BK4.out 0 rfl; have bk4_1 := blk_c BK4.out 1 rfl; have bk4_2 := blk_c BK4.out 2 rfl; have bk2_f := fun i => blk_frozen BK2.out i; have bk4_f := fun i => blk_frozen BK4.out i) | ((with_reducible refine gate_dst (N := 5) rfl ?_); refine box_event ?hg (N := 5) ?hd (cs := #[.int .i64 0, .int .i64 0, .int .u64 0, .int .u64 0, .int .u8 0, .int .i64 0]) (t := 65) ?hr ?_; (case hd => rfl); (case hg => rfl); (case hr => first | (go_simp; done) | (go_simp; rfl)); intro gb5 hg w3 hbox hb; have NE_gb2_gb5 := Aside0.mk (show gb2 ≠ gb5 from by rw [hg]; exact Nat.ne_of_lt (blk_lt BK2.out)); have NE_gb4_gb5 := Aside0.mk (show gb4 ≠ gb5 from by rw [hg]; exact Nat.ne_of_lt (blk_lt BK4.out)); have X_gb5_HO0 : Aside0 (some gb5 ≠ (.slice A0 L.length c0 : Value).ownBlock) := ⟨fun e => by have := Kd.R_lt HO0.out gb5 e.symm; rw [hg] at this; exact absurd this (Nat.lt_irrefl _)⟩; have X_gb5_HO1 : Aside0 (some gb5 ≠ (.slice A1 D.length c1 : Value).ownBlock) := ⟨fun e => by have := Kd.R_lt HO1.out gb5 e.symm; rw [hg] at this; exact absurd this (Nat.lt_irrefl _)⟩; have GE_gb5 := Aside0.mk (show w.heap.size ≤ gb5 from by rw [hg]; exact below_size HB.out); clear hg; clear bk2_0 bk2_1 bk2_2 bk2_f bk4_0 bk4_1 bk4_2 bk4_f; replace BK2 := Aside0.mk (blk_below BK2.out hb); replace BK4 := Aside0.mk (blk_below BK4.out hb); replace HO0 := Aside0.mk (Kd.R_below HO0.out hb); replace HO1 := Aside0.mk (Kd.R_below HO1.out hb); replace HB := Aside0.mk (below_step HB.out hb); clear hb; have BK5 := Aside0.mk hbox; clear hbox; have bk2_0 := blk_c BK2.out 0 rfl; have bk2_1 := blk_c BK2.out 1 rfl; have bk2_2 := blk_c BK2.out 2 rfl; have bk4_0 := blk_c BK4.out 0 rfl; have bk4_1 := blk_c BK4.out 1 rfl; have bk4_2 := blk_c BK4.out 2 rfl; have bk5_0 := blk_c BK5.out 0 rfl; have bk5_1 := blk_c BK5.out 1 rfl; have bk5_2 := blk_c BK5.out 2 rfl; have bk5_3 := blk_c BK5.out 3 rfl; have bk5_4 := blk_c BK5.out 4 rfl; have bk5_5 := blk_c BK5.out 5 rfl; have bk2_f := fun i => blk_frozen BK2.out i; have bk4_f := fun i => blk_frozen BK4.out i; have bk5_f := fun i => blk_frozen BK5.out i))
  go_upto_region 2 with (first | (go_at_call 77; (with_reducible refine (find_at _ _ D t _ (Kd.R_reads' HO1.out).2.2 (Kd.R_reads' HO1.out).2.1 (by omega)).mono ?_); rintro e w5 ⟨rfl, hb⟩; have hsz := below_size HB.out; clear bk2_0 bk2_1 bk2_2 bk2_f bk4_0 bk4_1 bk4_2 bk4_f bk5_0 bk5_1 bk5_2 bk5_3 bk5_4 bk5_5 bk5_f; replace BK2 := Aside0.mk (blk_below BK2.out hb); replace BK4 := Aside0.mk (blk_below BK4.out hb); replace BK5 := Aside0.mk (blk_below BK5.out hb); replace HO0 := Aside0.mk (Kd.R_below HO0.out hb); replace HO1 := Aside0.mk (Kd.R_below HO1.out hb); replace HB := Aside0.mk (below_step HB.out hb); clear hb; clear hsz; have bk2_0 := blk_c BK2.out 0 rfl; have bk2_1 := blk_c BK2.out 1 rfl; have bk2_2 := blk_c BK2.out 2 rfl; have bk4_0 := blk_c BK4.out 0 rfl; have bk4_1 := blk_c BK4.out 1 rfl; have bk4_2 := blk_c BK4.out 2 rfl; have bk5_0 := blk_c BK5.out 0 rfl; have bk5_1 := blk_c BK5.out 1 rfl; have bk5_2 := blk_c BK5.out 2 rfl; have bk5_3 := blk_c BK5.out 3 rfl; have bk5_4 := blk_c BK5.out 4 rfl; have bk5_5 := blk_c BK5.out 5 rfl; have bk2_f := fun i => blk_frozen BK2.out i; have bk4_f := fun i => blk_frozen BK4.out i; have bk5_f := fun i => blk_frozen BK5.out i))
  rcases F1.out with h1 | ⟨j, h1, hj, -⟩
  case' inl =>
    have e1 : atIdx t D 0 = -1 := h1
    rw [e1]
    have HR : Aside0 (takeR D t = (D, ⟨0, 0, 0, 0, 0, 0⟩, false)) := ⟨by unfold takeR; rw [e1]; rfl⟩
    clear h1 e1
    have n24 := NE_gb2_gb4.out
    have n45 := NE_gb4_gb5.out
    have n54 := Ne.symm NE_gb4_gb5.out
    have n25 := NE_gb2_gb5.out
    go_wp2
    clear n24 n45 n54 n25
    clear bk2_0 bk2_1 bk2_2 bk2_f bk4_0 bk4_1 bk4_2 bk4_f bk5_0 bk5_1 bk5_2 bk5_3 bk5_4 bk5_5 bk5_f
    have s0_HO0 := far_set3 HO0.out (blk_rowG BK4.out HO0.out (by decide)) (.slice A0 L.length c0) (.slice A1 D.length c1) (.int .i64 g)
    have s0_HO1 := far_set3 HO1.out (blk_rowG BK4.out HO1.out (by decide)) (.slice A0 L.length c0) (.slice A1 D.length c1) (.int .i64 g)
    have s0_BK2 := blk_far3 BK2.out NE_gb2_gb4.out (.slice A0 L.length c0) (.slice A1 D.length c1) (.int .i64 g)
    have s0_BK4 := blk_put3 BK4.out (.slice A0 L.length c0) (.slice A1 D.length c1) (.int .i64 g)
    have s0_BK5 := blk_far3 BK5.out (Ne.symm NE_gb4_gb5.out) (.slice A0 L.length c0) (.slice A1 D.length c1) (.int .i64 g)
    have s0_HB := below_set3 HB.out GE_gb4.out (.slice A0 L.length c0) (.slice A1 D.length c1) (.int .i64 g)
    have s1_HO0 := far_set6 s0_HO0 (X_gb5_HO0.out) (.int .i64 0) (.int .i64 0) (.int .u64 0) (.int .u64 0) (.int .u8 0) (.int .i64 0)
    have s1_HO1 := far_set6 s0_HO1 (X_gb5_HO1.out) (.int .i64 0) (.int .i64 0) (.int .u64 0) (.int .u64 0) (.int .u8 0) (.int .i64 0)
    have s1_BK2 := blk_far6 s0_BK2 NE_gb2_gb5.out (.int .i64 0) (.int .i64 0) (.int .u64 0) (.int .u64 0) (.int .u8 0) (.int .i64 0)
    have s1_BK4 := blk_far6 s0_BK4 NE_gb4_gb5.out (.int .i64 0) (.int .i64 0) (.int .u64 0) (.int .u64 0) (.int .u8 0) (.int .i64 0)
    have s1_BK5 := blk_put6 s0_BK5 (.int .i64 0) (.int .i64 0) (.int .u64 0) (.int .u64 0) (.int .u8 0) (.int .i64 0)
    have s1_HB := below_set6 s0_HB GE_gb5.out (.int .i64 0) (.int .i64 0) (.int .u64 0) (.int .u64 0) (.int .u8 0) (.int .i64 0)
    have n_BK2 := Aside0.mk s1_BK2
    have n_BK4 := Aside0.mk s1_BK4
    have n_BK5 := Aside0.mk s1_BK5
    have n_HO0 := Aside0.mk s1_HO0
    have n_HO1 := Aside0.mk s1_HO1
    have n_HB := Aside0.mk s1_HB
    clear s0_BK2 s0_BK4 s0_BK5 s0_HO0 s0_HO1 s0_HB
    clear s1_BK2 s1_BK4 s1_BK5 s1_HO0 s1_HO1 s1_HB
    clear BK2 BK4 BK5 HO0 HO1 HB
    generalize (((((((((w5.setCell ⟨gb4, 0, none⟩ (.slice A0 L.length c0)).setCell ⟨gb4, 1, none⟩ (.slice A1 D.length c1)).setCell ⟨gb4, 2, none⟩ (.int .i64 g)).setCell ⟨gb5, 0, none⟩ (.int .i64 0)).setCell ⟨gb5, 1, none⟩ (.int .i64 0)).setCell ⟨gb5, 2, none⟩ (.int .u64 0)).setCell ⟨gb5, 3, none⟩ (.int .u64 0)).setCell ⟨gb5, 4, none⟩ (.int .u8 0)).setCell ⟨gb5, 5, none⟩ (.int .i64 0)) = w12 at n_BK2 n_BK4 n_BK5 n_HO0 n_HO1 n_HB ⊢
    have BK2 := n_BK2
    have BK4 := n_BK4
    have BK5 := n_BK5
    have HO0 := n_HO0
    have HO1 := n_HO1
    have HB := n_HB
    clear n_BK2 n_BK4 n_BK5 n_HO0 n_HO1 n_HB
    have bk2_0 := blk_c BK2.out 0 rfl; have bk2_1 := blk_c BK2.out 1 rfl; have bk2_2 := blk_c BK2.out 2 rfl; have bk4_0 := blk_c BK4.out 0 rfl; have bk4_1 := blk_c BK4.out 1 rfl; have bk4_2 := blk_c BK4.out 2 rfl; have bk5_0 := blk_c BK5.out 0 rfl; have bk5_1 := blk_c BK5.out 1 rfl; have bk5_2 := blk_c BK5.out 2 rfl; have bk5_3 := blk_c BK5.out 3 rfl; have bk5_4 := blk_c BK5.out 4 rfl; have bk5_5 := blk_c BK5.out 5 rfl; have bk2_f := fun i => blk_frozen BK2.out i; have bk4_f := fun i => blk_frozen BK4.out i; have bk5_f := fun i => blk_frozen BK5.out i
    refine bodyPost_ret (results_list (rs := [.cell 4 58, .cell 5 65, .tmp 6]) rfl (by simp) (.cell gb4 58 #[.slice A0 L.length c0, .slice A1 D.length c1, .int .i64 g] (0, 0) _ rfl BK4.out Try.underlying58 rfl (by kernel_rfl) (.cell gb5 65 #[.int .i64 0, .int .i64 0, .int .u64 0, .int .u64 0, .int .u8 0, .int .i64 0] (0, 0) _ rfl BK5.out Try.underlying65 rfl (by kernel_rfl) (.tmp .nil)))) rfl ?_
    rw [HR.out]
    exact ⟨_, _, rfl, HO0.out, HO1.out, fun k hk => .inl hk, HB.out⟩
  case' inr =>
    have e1 : atIdx t D 0 = (j : Int) := by rw [show (j : Int) = ((0 + j : Nat) : Int) by omega]; exact h1
    rw [e1]
    have d0 : decide ((j : Int) < 0) = false := decide_eq_false (by omega)
    obtain ⟨q, hq⟩ : ∃ q, D.getD j z65 = q := ⟨_, rfl⟩
    have HR : Aside0 (takeR D t = (D.eraseIdx j, q, true)) := ⟨by unfold takeR; rw [e1, if_neg (by omega), Int.toNat_natCast, hq]⟩
    clear h1 e1
    obtain ⟨ad, ea, hx0, hx1, hx2, hx3, hx4, hx5⟩ := at_T65 (Kd.R_reads' HO1.out).2.2 (j : Int) (by omega) (by omega)
    subst ea
    simp only [rd65_nat, Int.toNat_natCast, hq] at hx0 hx1 hx2 hx3 hx4 hx5
    clear hq
    have bk2_0 := blk_c BK2.out 0 rfl; have bk2_1 := blk_c BK2.out 1 rfl; have bk2_2 := blk_c BK2.out 2 rfl; have bk4_0 := blk_c BK4.out 0 rfl; have bk4_1 := blk_c BK4.out 1 rfl; have bk4_2 := blk_c BK4.out 2 rfl; have bk5_0 := blk_c BK5.out 0 rfl; have bk5_1 := blk_c BK5.out 1 rfl; have bk5_2 := blk_c BK5.out 2 rfl; have bk5_3 := blk_c BK5.out 3 rfl; have bk5_4 := blk_c BK5.out 4 rfl; have bk5_5 := blk_c BK5.out 5 rfl; have bk2_f := fun i => blk_frozen BK2.out i; have bk4_f := fun i => blk_frozen BK4.out i; have bk5_f := fun i => blk_frozen BK5.out i
    go_upto_region 5 with (first | ((with_reducible refine gate_dst (N := 8) rfl ?_); refine box_event ?hg (N := 8) ?hd (cs := #[.int .i64 0, .int .i64 0, .int .u64 0, .int .u64 0, .int .u8 0, .int .i64 0]) (t := 65) ?hr ?_; (case hd => rfl); (case hg => rfl); (case hr => first | (go_simp; done) | (go_simp; rfl)); intro gb8 hg w3 hbox hb; have NE_gb2_gb8 := Aside0.mk (show gb2 ≠ gb8 from by rw [hg]; exact Nat.ne_of_lt (blk_lt BK2.out)); have NE_gb4_gb8 := Aside0.mk (show gb4 ≠ gb8 from by rw [hg]; exact Nat.ne_of_lt (blk_lt BK4.out)); have NE_gb5_gb8 := Aside0.mk (show gb5 ≠ gb8 from by rw [hg]; exact Nat.ne_of_lt (blk_lt BK5.out)); have X_gb8_HO0 : Aside0 (some gb8 ≠ (.slice A0 L.length c0 : Value).ownBlock) := ⟨fun e => by have := Kd.R_lt HO0.out gb8 e.symm; rw [hg] at this; exact absurd this (Nat.lt_irrefl _)⟩; have X_gb8_HO1 : Aside0 (some gb8 ≠ (.slice (some ad) D.length c1 : Value).ownBlock) := ⟨fun e => by have := Kd.R_lt HO1.out gb8 e.symm; rw [hg] at this; exact absurd this (Nat.lt_irrefl _)⟩; have GE_gb8 := Aside0.mk (show w.heap.size ≤ gb8 from by rw [hg]; exact below_size HB.out); clear hg; clear bk2_0 bk2_1 bk2_2 bk2_f bk4_0 bk4_1 bk4_2 bk4_f bk5_0 bk5_1 bk5_2 bk5_3 bk5_4 bk5_5 bk5_f; replace BK2 := Aside0.mk (blk_below BK2.out hb); replace BK4 := Aside0.mk (blk_below BK4.out hb); replace BK5 := Aside0.mk (blk_below BK5.out hb); replace HO0 := Aside0.mk (Kd.R_below HO0.out hb); replace HO1 := Aside0.mk (Kd.R_below HO1.out hb); replace HB := Aside0.mk (below_step HB.out hb); clear hb; have BK8 := Aside0.mk hbox; clear hbox; have bk2_0 := blk_c BK2.out 0 rfl; have bk2_1 := blk_c BK2.out 1 rfl; have bk2_2 := blk_c BK2.out 2 rfl; have bk4_0 := blk_c BK4.out 0 rfl; have bk4_1 := blk_c BK4.out 1 rfl; have bk4_2 := blk_c BK4.out 2 rfl; have bk5_0 := blk_c BK5.out 0 rfl; have bk5_1 := blk_c BK5.out 1 rfl; have bk5_2 := blk_c BK5.out 2 rfl; have bk5_3 := blk_c BK5.out 3 rfl; have bk5_4 := blk_c BK5.out 4 rfl; have bk5_5 := blk_c BK5.out 5 rfl; have bk8_0 := blk_c BK8.out 0 rfl; have bk8_1 := blk_c BK8.out 1 rfl; have bk8_2 := blk_c BK8.out 2 rfl; have bk8_3 := blk_c BK8.out 3 rfl; have bk8_4 := blk_c BK8.out 4 rfl; have bk8_5 := blk_c BK8.out 5 rfl; have bk2_f := fun i => blk_frozen BK2.out i; have bk4_f := fun i => blk_frozen BK4.out i; have bk5_f := fun i => blk_frozen BK5.out i; have bk8_f := fun i => blk_frozen BK8.out i))
    clear hx0 hx1 hx2 hx3 hx4 hx5
    clear bk2_0 bk2_1 bk2_2 bk2_f bk4_0 bk4_1 bk4_2 bk4_f bk5_0 bk5_1 bk5_2 bk5_3 bk5_4 bk5_5 bk5_f bk8_0 bk8_1 bk8_2 bk8_3 bk8_4 bk8_5 bk8_f
    have s0_HO0 := far_set6 HO0.out (X_gb8_HO0.out) (.int .i64 q.f0) (.int .i64 q.f1) (.int .u64 q.f2) (.int .u64 q.f3) (.int .u8 q.f4) (.int .i64 q.f5)
    have s0_HO1 := far_set6 HO1.out (X_gb8_HO1.out) (.int .i64 q.f0) (.int .i64 q.f1) (.int .u64 q.f2) (.int .u64 q.f3) (.int .u8 q.f4) (.int .i64 q.f5)
    have s0_BK2 := blk_far6 BK2.out NE_gb2_gb8.out (.int .i64 q.f0) (.int .i64 q.f1) (.int .u64 q.f2) (.int .u64 q.f3) (.int .u8 q.f4) (.int .i64 q.f5)
    have s0_BK4 := blk_far6 BK4.out NE_gb4_gb8.out (.int .i64 q.f0) (.int .i64 q.f1) (.int .u64 q.f2) (.int .u64 q.f3) (.int .u8 q.f4) (.int .i64 q.f5)
    have s0_BK5 := blk_far6 BK5.out NE_gb5_gb8.out (.int .i64 q.f0) (.int .i64 q.f1) (.int .u64 q.f2) (.int .u64 q.f3) (.int .u8 q.f4) (.int .i64 q.f5)
    have s0_BK8 := blk_put6 BK8.out (.int .i64 q.f0) (.int .i64 q.f1) (.int .u64 q.f2) (.int .u64 q.f3) (.int .u8 q.f4) (.int .i64 q.f5)
    have s0_HB := below_set6 HB.out GE_gb8.out (.int .i64 q.f0) (.int .i64 q.f1) (.int .u64 q.f2) (.int .u64 q.f3) (.int .u8 q.f4) (.int .i64 q.f5)
    have n_BK2 := Aside0.mk s0_BK2
    have n_BK4 := Aside0.mk s0_BK4
    have n_BK5 := Aside0.mk s0_BK5
    have n_BK8 := Aside0.mk s0_BK8
    have n_HO0 := Aside0.mk s0_HO0
    have n_HO1 := Aside0.mk s0_HO1
    have n_HB := Aside0.mk s0_HB
    clear s0_BK2 s0_BK4 s0_BK5 s0_BK8 s0_HO0 s0_HO1 s0_HB
    clear BK2 BK4 BK5 BK8 HO0 HO1 HB
    generalize ((((((w3.setCell ⟨gb8, 0, none⟩ (.int .i64 q.f0)).setCell ⟨gb8, 1, none⟩ (.int .i64 q.f1)).setCell ⟨gb8, 2, none⟩ (.int .u64 q.f2)).setCell ⟨gb8, 3, none⟩ (.int .u64 q.f3)).setCell ⟨gb8, 4, none⟩ (.int .u8 q.f4)).setCell ⟨gb8, 5, none⟩ (.int .i64 q.f5)) = w4 at n_BK2 n_BK4 n_BK5 n_BK8 n_HO0 n_HO1 n_HB ⊢
    have BK2 := n_BK2
    have BK4 := n_BK4
    have BK5 := n_BK5
    have BK8 := n_BK8
    have HO0 := n_HO0
    have HO1 := n_HO1
    have HB := n_HB
    clear n_BK2 n_BK4 n_BK5 n_BK8 n_HO0 n_HO1 n_HB
    have bk2_0 := blk_c BK2.out 0 rfl; have bk2_1 := blk_c BK2.out 1 rfl; have bk2_2 := blk_c BK2.out 2 rfl; have bk4_0 := blk_c BK4.out 0 rfl; have bk4_1 := blk_c BK4.out 1 rfl; have bk4_2 := blk_c BK4.out 2 rfl; have bk5_0 := blk_c BK5.out 0 rfl; have bk5_1 := blk_c BK5.out 1 rfl; have bk5_2 := blk_c BK5.out 2 rfl; have bk5_3 := blk_c BK5.out 3 rfl; have bk5_4 := blk_c BK5.out 4 rfl; have bk5_5 := blk_c BK5.out 5 rfl; have bk8_0 := blk_c BK8.out 0 rfl; have bk8_1 := blk_c BK8.out 1 rfl; have bk8_2 := blk_c BK8.out 2 rfl; have bk8_3 := blk_c BK8.out 3 rfl; have bk8_4 := blk_c BK8.out 4 rfl; have bk8_5 := blk_c BK8.out 5 rfl; have bk2_f := fun i => blk_frozen BK2.out i; have bk4_f := fun i => blk_frozen BK4.out i; have bk5_f := fun i => blk_frozen BK5.out i; have bk8_f := fun i => blk_frozen BK8.out i
    clear bk2_0 bk2_1 bk2_2 bk2_f bk4_0 bk4_1 bk4_2 bk4_f bk5_0 bk5_1 bk5_2 bk5_3 bk5_4 bk5_5 bk5_f bk8_0 bk8_1 bk8_2 bk8_3 bk8_4 bk8_5 bk8_f
    go_wp2
    go_loopw [9, 10] (fun v9 v10 wr => ∃ (i n9 : Nat) (A9 : Option Addr) (c9 : Nat), i ≤ D.length ∧ v10 = .int .i64 i ∧ v9 = .slice A9 n9 c9 ∧ Aside0 (wr.heap[gb2]? = some (.cells #[.slice A0 L.length c0, .slice (some ad) D.length c1, .int .i64 g] 58 (0, 0))) ∧ Aside0 (wr.heap[gb4]? = some (.cells #[.slice none 0 0, .slice none 0 0, .int .i64 0] 58 (0, 0))) ∧ Aside0 (wr.heap[gb5]? = some (.cells #[.int .i64 0, .int .i64 0, .int .u64 0, .int .u64 0, .int .u8 0, .int .i64 0] 65 (0, 0))) ∧ Aside0 (wr.heap[gb8]? = some (.cells #[.int .i64 q.f0, .int .i64 q.f1, .int .u64 q.f2, .int .u64 q.f3, .int .u8 q.f4, .int .i64 q.f5] 65 (0, 0))) ∧ Aside0 (Kd.R k65 65 wr b (fun _ => True) (.slice A0 L.length c0) L) ∧ Aside0 (Kd.R k65 65 wr b (fun _ => True) (.slice (some ad) D.length c1) D) ∧ Aside0 (Kd.R k65 65 wr w.heap.size (fun _ => True) (.slice A9 n9 c9) ((D.take i).eraseIdx j)) ∧ Aside0 (some gb5 ≠ (.slice A9 n9 c9 : Value).ownBlock) ∧ Aside0 (some gb8 ≠ (.slice A9 n9 c9 : Value).ownBlock) ∧ Aside0 (Below w.heap.size w wr)) (fun v9 v10 _ => D.length - (intOf v10).toNat)
    case atStart => exact ⟨0, 0, none, 0, Nat.zero_le _, rfl, rfl, BK2, BK4, BK5, BK8, HO0, HO1, ⟨by simpa using Kd.R_nil k65 65 _ _ _⟩, ⟨by simp [Value.ownBlock]⟩, ⟨by simp [Value.ownBlock]⟩, HB⟩
    case round =>
      clear BK2 BK4 BK5 BK8 HO0 HO1 HB
      obtain ⟨i, n9, A9, c9, hi, rfl, rfl, BK2, BK4, BK5, BK8, HO0, HO1, HV, X5V, X8V, HB⟩ := hrel
      rename World => wo
      by_cases hlt : i < D.length
      · obtain ⟨ad2, ea, hx0, hx1, hx2, hx3, hx4, hx5⟩ := at_T65 (Kd.R_reads' HO1.out).2.2 (i : Int) (by omega) (by omega)
        obtain rfl := Option.some.inj ea
        clear ea
        simp only [rd65_nat, Int.toNat_natCast] at hx0 hx1 hx2 hx3 hx4 hx5
        have hst := erase_step D j i hlt
        have hn9 : n9 ≤ 1000 := by rw [(Kd.R_reads' HV.out).1]; have := (List.eraseIdx_sublist (D.take i) j).length_le; rw [List.length_take] at this; omega
        have hv9 : ((D.take i).eraseIdx j).length ≤ 1000 := by rw [← (Kd.R_reads' HV.out).1]; exact hn9
        generalize D.getD i z65 = x at hx0 hx1 hx2 hx3 hx4 hx5 hst
        have HST := Aside0.mk hst
        clear hst
        have bk2_0 := blk_c BK2.out 0 rfl; have bk2_1 := blk_c BK2.out 1 rfl; have bk2_2 := blk_c BK2.out 2 rfl; have bk4_0 := blk_c BK4.out 0 rfl; have bk4_1 := blk_c BK4.out 1 rfl; have bk4_2 := blk_c BK4.out 2 rfl; have bk5_0 := blk_c BK5.out 0 rfl; have bk5_1 := blk_c BK5.out 1 rfl; have bk5_2 := blk_c BK5.out 2 rfl; have bk5_3 := blk_c BK5.out 3 rfl; have bk5_4 := blk_c BK5.out 4 rfl; have bk5_5 := blk_c BK5.out 5 rfl; have bk8_0 := blk_c BK8.out 0 rfl; have bk8_1 := blk_c BK8.out 1 rfl; have bk8_2 := blk_c BK8.out 2 rfl; have bk8_3 := blk_c BK8.out 3 rfl; have bk8_4 := blk_c BK8.out 4 rfl; have bk8_5 := blk_c BK8.out 5 rfl; have bk2_f := fun i => blk_frozen BK2.out i; have bk4_f := fun i => blk_frozen BK4.out i; have bk5_f := fun i => blk_frozen BK5.out i; have bk8_f := fun i => blk_frozen BK8.out i
        by_cases hc : i = j
        · have d0 : ((i : Int) == (j : Int)) = true := beq_iff_eq.2 (by omega)
          have d1 : ((i : Int) != (j : Int)) = false := by rw [bne, d0]; rfl
          have d2 : (i == j) = true := beq_iff_eq.2 hc
          have HE := Aside0.mk (HST.out.2 hc)
          clear hc
          go_wp2
          go_roundw
          case rel => exact ⟨i + 1, n9, A9, c9, by omega, by go_num, rfl, BK2, BK4, BK5, BK8, HO0, HO1, ⟨by rw [HE.out]; exact HV.out⟩, X5V, X8V, HB⟩
          case measure => simp [intOf]; omega
        · have d0 : ((i : Int) == (j : Int)) = false := beq_false_of_ne (by omega)
          have d1 : ((i : Int) != (j : Int)) = true := by rw [bne, d0]; rfl
          have d2 : (i == j) = false := beq_false_of_ne hc
          have HVE := Aside0.mk (HST.out.1 hc)
          go_wp2_with (first | ((with_reducible refine gate_builtin (b := .append) (xs := #[.tmp 34, .tmp 40]) rfl ?_); at_builtin; (refine Kd.R_append k65 (w0 := w) w.heap.size rfl (.tmp 34) (.tmp 40) 56 65 (.agg #[.int .i64 0, .int .i64 0, .int .u64 0, .int .u64 0, .int .u8 0, .int .i64 0]) 48 rfl Try.underlying56 info65 rfl (by decide) (by omega) (.slice A9 n9 c9) ((D.take i).eraseIdx j) x [.int .i64 x.f0, .int .i64 x.f1, .int .u64 x.f2, .int .u64 x.f3, .int .u8 x.f4, .int .i64 x.f5] (fun _ => True) (fun _ => False) (by first | rfl | (go_simp; done)) (by first | rfl | (go_simp; done)) (k65_mkM _ _ _ x) (fun _ hk => hk.elim) (fun _ _ => trivial) HV.out HB.out (below_size HB.out) (by omega) ?_); intro v6 w6 ho hb hg hat; rw [HVE.out] at ho; obtain ⟨A7, c7, ev⟩ := Kd.R_slice ho; obtain ⟨n7, hn7⟩ : ∃ n7, ((D.take (i + 1)).eraseIdx j).length = n7 := ⟨_, rfl⟩; rw [hn7] at ev; clear hn7; subst ev; have m_X5 := Aside0.mk (ne_hat X5V.out (blk_lt BK5.out) hat); have m_X8 := Aside0.mk (ne_hat X8V.out (blk_lt BK8.out) hat); clear bk2_0 bk2_1 bk2_2 bk2_f bk4_0 bk4_1 bk4_2 bk4_f bk5_0 bk5_1 bk5_2 bk5_3 bk5_4 bk5_5 bk5_f bk8_0 bk8_1 bk8_2 bk8_3 bk8_4 bk8_5 bk8_f; replace BK2 := Aside0.mk (blk_grown BK2.out hg (blk_rowG BK2.out HV.out (by decide))); replace BK4 := Aside0.mk (blk_grown BK4.out hg (blk_rowG BK4.out HV.out (by decide))); replace BK5 := Aside0.mk (blk_grown BK5.out hg X5V.out); replace BK8 := Aside0.mk (blk_grown BK8.out hg X8V.out); replace HO0 := Aside0.mk (Kd.R_grown2 HO0.out rfl hg (fun k hk e => by have h1 := Kd.R_base HV.out k hk; have h2 := Q0.out k e.symm; omega)); replace HO1 := Aside0.mk (Kd.R_grown2 HO1.out rfl hg (fun k hk e => by have h1 := Kd.R_base HV.out k hk; have h2 := Q1.out k e.symm; omega)); replace HV := Aside0.mk (ho); replace HB := Aside0.mk (hb); have bk2_0 := blk_c BK2.out 0 rfl; have bk2_1 := blk_c BK2.out 1 rfl; have bk2_2 := blk_c BK2.out 2 rfl; have bk4_0 := blk_c BK4.out 0 rfl; have bk4_1 := blk_c BK4.out 1 rfl; have bk4_2 := blk_c BK4.out 2 rfl; have bk5_0 := blk_c BK5.out 0 rfl; have bk5_1 := blk_c BK5.out 1 rfl; have bk5_2 := blk_c BK5.out 2 rfl; have bk5_3 := blk_c BK5.out 3 rfl; have bk5_4 := blk_c BK5.out 4 rfl; have bk5_5 := blk_c BK5.out 5 rfl; have bk8_0 := blk_c BK8.out 0 rfl; have bk8_1 := blk_c BK8.out 1 rfl; have bk8_2 := blk_c BK8.out 2 rfl; have bk8_3 := blk_c BK8.out 3 rfl; have bk8_4 := blk_c BK8.out 4 rfl; have bk8_5 := blk_c BK8.out 5 rfl; have bk2_f := fun i => blk_frozen BK2.out i; have bk4_f := fun i => blk_frozen BK4.out i; have bk5_f := fun i => blk_frozen BK5.out i; have bk8_f := fun i => blk_frozen BK8.out i; clear ho hb hg hat))
          go_roundw
          case rel => exact ⟨i + 1, n7, A7, c7, by omega, by go_num, rfl, BK2, BK4, BK5, BK8, HO0, HO1, HV, m_X5, m_X8, HB⟩
          case measure => simp [intOf]; omega
      · obtain rfl : i = D.length := by omega
        rw [List.take_length] at HV
        have hn9 : (D.eraseIdx j).length = n9 := ((Kd.R_reads' HV.out).1).symm
        have HN9 := Aside0.mk hn9
        clear hn9
        have bk2_0 := blk_c BK2.out 0 rfl; have bk2_1 := blk_c BK2.out 1 rfl; have bk2_2 := blk_c BK2.out 2 rfl; have bk4_0 := blk_c BK4.out 0 rfl; have bk4_1 := blk_c BK4.out 1 rfl; have bk4_2 := blk_c BK4.out 2 rfl; have bk5_0 := blk_c BK5.out 0 rfl; have bk5_1 := blk_c BK5.out 1 rfl; have bk5_2 := blk_c BK5.out 2 rfl; have bk5_3 := blk_c BK5.out 3 rfl; have bk5_4 := blk_c BK5.out 4 rfl; have bk5_5 := blk_c BK5.out 5 rfl; have bk8_0 := blk_c BK8.out 0 rfl; have bk8_1 := blk_c BK8.out 1 rfl; have bk8_2 := blk_c BK8.out 2 rfl; have bk8_3 := blk_c BK8.out 3 rfl; have bk8_4 := blk_c BK8.out 4 rfl; have bk8_5 := blk_c BK8.out 5 rfl; have bk2_f := fun i => blk_frozen BK2.out i; have bk4_f := fun i => blk_frozen BK4.out i; have bk5_f := fun i => blk_frozen BK5.out i; have bk8_f := fun i => blk_frozen BK8.out i
        have n24 := NE_gb2_gb4.out
        have n25 := NE_gb2_gb5.out
        have n28 := NE_gb2_gb8.out
        go_upto_region 12 with (fail)
        clear n24 n25 n28
        clear bk2_0 bk2_1 bk2_2 bk2_f bk4_0 bk4_1 bk4_2 bk4_f bk5_0 bk5_1 bk5_2 bk5_3 bk5_4 bk5_5 bk5_f bk8_0 bk8_1 bk8_2 bk8_3 bk8_4 bk8_5 bk8_f
        have s0_HO0 := Kd.R_set HO0.out BK2.out (by decide) 1 (.slice A9 n9 c9)
        have s0_HO1 := Kd.R_set HO1.out BK2.out (by decide) 1 (.slice A9 n9 c9)
        have s0_HV := Kd.R_set HV.out BK2.out (by decide) 1 (.slice A9 n9 c9)
        have s0_BK2 := blk_put (cs' := #[.slice A0 L.length c0, .slice A9 n9 c9, .int .i64 g]) BK2.out 1 (.slice A9 n9 c9) rfl
        have s0_BK4 := blk_far BK4.out (p := ⟨gb2, 1, none⟩) (Ne.symm NE_gb2_gb4.out) (.slice A9 n9 c9)
        have s0_BK5 := blk_far BK5.out (p := ⟨gb2, 1, none⟩) (Ne.symm NE_gb2_gb5.out) (.slice A9 n9 c9)
        have s0_BK8 := blk_far BK8.out (p := ⟨gb2, 1, none⟩) (Ne.symm NE_gb2_gb8.out) (.slice A9 n9 c9)
        have s0_HB := below_set (j := 1) (v := .slice A9 n9 c9) HB.out GE_gb2.out
        have n_BK2 := Aside0.mk s0_BK2
        have n_BK4 := Aside0.mk s0_BK4
        have n_BK5 := Aside0.mk s0_BK5
        have n_BK8 := Aside0.mk s0_BK8
        have n_HO0 := Aside0.mk s0_HO0
        have n_HO1 := Aside0.mk s0_HO1
        have n_HV := Aside0.mk s0_HV
        have n_HB := Aside0.mk s0_HB
        clear s0_BK2 s0_BK4 s0_BK5 s0_BK8 s0_HO0 s0_HO1 s0_HV s0_HB
        clear BK2 BK4 BK5 BK8 HO0 HO1 HV HB
        generalize (wo.setCell ⟨gb2, 1, none⟩ (.slice A9 n9 c9)) = w8 at n_BK2 n_BK4 n_BK5 n_BK8 n_HO0 n_HO1 n_HV n_HB ⊢
        have BK2 := n_BK2
        have BK4 := n_BK4
        have BK5 := n_BK5
        have BK8 := n_BK8
        have HO0 := n_HO0
        have HO1 := n_HO1
        have HV := n_HV
        have HB := n_HB
        clear n_BK2 n_BK4 n_BK5 n_BK8 n_HO0 n_HO1 n_HV n_HB
        have bk2_0 := blk_c BK2.out 0 rfl; have bk2_1 := blk_c BK2.out 1 rfl; have bk2_2 := blk_c BK2.out 2 rfl; have bk4_0 := blk_c BK4.out 0 rfl; have bk4_1 := blk_c BK4.out 1 rfl; have bk4_2 := blk_c BK4.out 2 rfl; have bk5_0 := blk_c BK5.out 0 rfl; have bk5_1 := blk_c BK5.out 1 rfl; have bk5_2 := blk_c BK5.out 2 rfl; have bk5_3 := blk_c BK5.out 3 rfl; have bk5_4 := blk_c BK5.out 4 rfl; have bk5_5 := blk_c BK5.out 5 rfl; have bk8_0 := blk_c BK8.out 0 rfl; have bk8_1 := blk_c BK8.out 1 rfl; have bk8_2 := blk_c BK8.out 2 rfl; have bk8_3 := blk_c BK8.out 3 rfl; have bk8_4 := blk_c BK8.out 4 rfl; have bk8_5 := blk_c BK8.out 5 rfl; have bk2_f := fun i => blk_frozen BK2.out i; have bk4_f := fun i => blk_frozen BK4.out i; have bk5_f := fun i => blk_frozen BK5.out i; have bk8_f := fun i => blk_frozen BK8.out i
        refine start_ (n := 5) (S := fun w' => w'.cell? ⟨gb2, 0, none⟩ = some (.slice A0 L.length c0) ∧ w'.cell? ⟨gb2, 1, none⟩ = some (.slice A9 n9 c9) ∧ w'.cell? ⟨gb2, 2, none⟩ = some (.int .i64 g) ∧ w'.cell? ⟨gb8, 0, none⟩ = some (.int .i64 q.f0) ∧ w'.cell? ⟨gb8, 1, none⟩ = some (.int .i64 q.f1) ∧ w'.cell? ⟨gb8, 2, none⟩ = some (.int .u64 q.f2) ∧ w'.cell? ⟨gb8, 3, none⟩ = some (.int .u64 q.f3) ∧ w'.cell? ⟨gb8, 4, none⟩ = some (.int .u8 q.f4) ∧ w'.cell? ⟨gb8, 5, none⟩ = some (.int .i64 q.f5)) (ds := []) #[false, false, false, false, false] (by kernel_rfl) rfl rfl ⟨(blk_cell (blk_drew BK2.out) 0).trans rfl, (blk_cell (blk_drew BK2.out) 1).trans rfl, (blk_cell (blk_drew BK2.out) 2).trans rfl, (blk_cell (blk_drew BK8.out) 0).trans rfl, (blk_cell (blk_drew BK8.out) 1).trans rfl, (blk_cell (blk_drew BK8.out) 2).trans rfl, (blk_cell (blk_drew BK8.out) 3).trans rfl, (blk_cell (blk_drew BK8.out) 4).trans rfl, (blk_cell (blk_drew BK8.out) 5).trans rfl⟩ (fun hHeld => ?_)
        refine with_tabW take12.tab take12.bits (fun HT_ HW_ => ?_)
        clear bk2_0 bk2_1 bk2_2 bk2_f bk4_0 bk4_1 bk4_2 bk4_f bk5_0 bk5_1 bk5_2 bk5_3 bk5_4 bk5_5 bk5_f bk8_0 bk8_1 bk8_2 bk8_3 bk8_4 bk8_5 bk8_f
        replace BK2 := Aside0.mk (blk_drew BK2.out); replace BK4 := Aside0.mk (blk_drew BK4.out); replace BK5 := Aside0.mk (blk_drew BK5.out); replace BK8 := Aside0.mk (blk_drew BK8.out); replace HO0 := Aside0.mk (Kd.R_drew HO0.out); replace HO1 := Aside0.mk (Kd.R_drew HO1.out); replace HV := Aside0.mk (Kd.R_drew HV.out); replace HB := Aside0.mk (below_drew1 HB.out); have bk2_0 := blk_c BK2.out 0 rfl; have bk2_1 := blk_c BK2.out 1 rfl; have bk2_2 := blk_c BK2.out 2 rfl; have bk4_0 := blk_c BK4.out 0 rfl; have bk4_1 := blk_c BK4.out 1 rfl; have bk4_2 := blk_c BK4.out 2 rfl; have bk5_0 := blk_c BK5.out 0 rfl; have bk5_1 := blk_c BK5.out 1 rfl; have bk5_2 := blk_c BK5.out 2 rfl; have bk5_3 := blk_c BK5.out 3 rfl; have bk5_4 := blk_c BK5.out 4 rfl; have bk5_5 := blk_c BK5.out 5 rfl; have bk8_0 := blk_c BK8.out 0 rfl; have bk8_1 := blk_c BK8.out 1 rfl; have bk8_2 := blk_c BK8.out 2 rfl; have bk8_3 := blk_c BK8.out 3 rfl; have bk8_4 := blk_c BK8.out 4 rfl; have bk8_5 := blk_c BK8.out 5 rfl; have bk2_f := fun i => blk_frozen BK2.out i; have bk4_f := fun i => blk_frozen BK4.out i; have bk5_f := fun i => blk_frozen BK5.out i; have bk8_f := fun i => blk_frozen BK8.out i
        clear bk2_0 bk2_1 bk2_2 bk2_f bk4_0 bk4_1 bk4_2 bk4_f bk5_0 bk5_1 bk5_2 bk5_3 bk5_4 bk5_5 bk5_f bk8_0 bk8_1 bk8_2 bk8_3 bk8_4 bk8_5 bk8_f
        generalize w8.drew = w9 at BK2 BK4 BK5 BK8 HO0 HO1 HV HB hHeld ⊢
        refine take_ (i := 0) (N := some 44) (v := ?_) (a' := ?_) #[true, false, false, false, false] rfl rfl (take_ofW HT_.out HW_.out (by kernel_rfl)) (fun _ _ _ h => h) (Or.inl ⟨by rfl, ?_⟩) hHeld ?_ ?_
        rotate_left
        · rintro w' ⟨s0, s1, s2, s3, s4, s5, s6, s7, s8⟩
          go_simp
          with_reducible rfl
        rotate_left
        · simp only [Act.put, List.setIfInBounds_toArray, List.set_cons_zero, List.set_cons_succ, i64_w, i32_w]
          rfl
        refine take_ (i := 1) (N := some 45) (v := ?_) (a' := ?_) #[true, true, false, false, false] rfl rfl (take_ofW HT_.out HW_.out (by kernel_rfl)) (fun _ _ _ h => h) (Or.inl ⟨by rfl, ?_⟩) hHeld ?_ ?_
        rotate_left
        · rintro w' ⟨s0, s1, s2, s3, s4, s5, s6, s7, s8⟩
          go_simp
          with_reducible rfl
        rotate_left
        · simp only [Act.put, List.setIfInBounds_toArray, List.set_cons_zero, List.set_cons_succ, i64_w, i32_w]
          rfl
        refine one_ (i := 2) (N := none) #[true, true, true, false, false] rfl rfl (one_of HT_.out (by kernel_rfl)) (by decide) (fun K hK => ?_)
        have st2_0 := (blk_cell BK4.out 0).trans (show _ = some (.slice none 0 0) from rfl)
        have st2_1 := (blk_cell BK4.out 1).trans (show _ = some (.slice none 0 0) from rfl)
        have st2_2 := (blk_cell BK4.out 2).trans (show _ = some (.int .i64 0) from rfl)
        have st2_3 := blk_frozen BK4.out 0
        have st2_4 := blk_frozen BK4.out 1
        have st2_5 := blk_frozen BK4.out 2
        have st2_6 := NE_gb2_gb4.out
        have st2_7 := Ne.symm NE_gb2_gb4.out
        have st2_8 := NE_gb4_gb5.out
        have st2_9 := Ne.symm NE_gb4_gb5.out
        have st2_10 := NE_gb4_gb8.out
        have st2_11 := Ne.symm NE_gb4_gb8.out
        have st2_12 := NE_gb2_gb5.out
        have st2_13 := Ne.symm NE_gb2_gb5.out
        have st2_14 := NE_gb5_gb8.out
        have st2_15 := Ne.symm NE_gb5_gb8.out
        refine skip_ (w1 := ?_) (by rfl) rfl ?_ ?_
        rotate_left
        · go_simp
          rfl
        refine hK.out _ _ ⟨((cell_far (p := ⟨gb4, _, none⟩) NE_gb2_gb4.out _).trans ((cell_far (p := ⟨gb4, _, none⟩) NE_gb2_gb4.out _).trans ((cell_far (p := ⟨gb4, _, none⟩) NE_gb2_gb4.out _).trans hHeld.1))), ((cell_far (p := ⟨gb4, _, none⟩) NE_gb2_gb4.out _).trans ((cell_far (p := ⟨gb4, _, none⟩) NE_gb2_gb4.out _).trans ((cell_far (p := ⟨gb4, _, none⟩) NE_gb2_gb4.out _).trans hHeld.2.1))), ((cell_far (p := ⟨gb4, _, none⟩) NE_gb2_gb4.out _).trans ((cell_far (p := ⟨gb4, _, none⟩) NE_gb2_gb4.out _).trans ((cell_far (p := ⟨gb4, _, none⟩) NE_gb2_gb4.out _).trans hHeld.2.2.1))), ((cell_far (p := ⟨gb4, _, none⟩) (Ne.symm NE_gb4_gb8.out) _).trans ((cell_far (p := ⟨gb4, _, none⟩) (Ne.symm NE_gb4_gb8.out) _).trans ((cell_far (p := ⟨gb4, _, none⟩) (Ne.symm NE_gb4_gb8.out) _).trans hHeld.2.2.2.1))), ((cell_far (p := ⟨gb4, _, none⟩) (Ne.symm NE_gb4_gb8.out) _).trans ((cell_far (p := ⟨gb4, _, none⟩) (Ne.symm NE_gb4_gb8.out) _).trans ((cell_far (p := ⟨gb4, _, none⟩) (Ne.symm NE_gb4_gb8.out) _).trans hHeld.2.2.2.2.1))), ((cell_far (p := ⟨gb4, _, none⟩) (Ne.symm NE_gb4_gb8.out) _).trans ((cell_far (p := ⟨gb4, _, none⟩) (Ne.symm NE_gb4_gb8.out) _).trans ((cell_far (p := ⟨gb4, _, none⟩) (Ne.symm NE_gb4_gb8.out) _).trans hHeld.2.2.2.2.2.1))), ((cell_far (p := ⟨gb4, _, none⟩) (Ne.symm NE_gb4_gb8.out) _).trans ((cell_far (p := ⟨gb4, _, none⟩) (Ne.symm NE_gb4_gb8.out) _).trans ((cell_far (p := ⟨gb4, _, none⟩) (Ne.symm NE_gb4_gb8.out) _).trans hHeld.2.2.2.2.2.2.1))), ((cell_far (p := ⟨gb4, _, none⟩) (Ne.symm NE_gb4_gb8.out) _).trans ((cell_far (p := ⟨gb4, _, none⟩) (Ne.symm NE_gb4_gb8.out) _).trans ((cell_far (p := ⟨gb4, _, none⟩) (Ne.symm NE_gb4_gb8.out) _).trans hHeld.2.2.2.2.2.2.2.1))), ((cell_far (p := ⟨gb4, _, none⟩) (Ne.symm NE_gb4_gb8.out) _).trans ((cell_far (p := ⟨gb4, _, none⟩) (Ne.symm NE_gb4_gb8.out) _).trans ((cell_far (p := ⟨gb4, _, none⟩) (Ne.symm NE_gb4_gb8.out) _).trans hHeld.2.2.2.2.2.2.2.2)))⟩ (fun hHeld => ?_)
        clear hK K
        clear st2_0 st2_1 st2_2 st2_3 st2_4 st2_5 st2_6 st2_7 st2_8 st2_9 st2_10 st2_11 st2_12 st2_13 st2_14 st2_15
        refine one_ (i := 3) (N := none) #[true, true, true, true, false] rfl rfl (one_of HT_.out (by kernel_rfl)) (by decide) (fun K hK => ?_)
        have st3_0 := (blk_cell BK5.out 0).trans (show _ = some (.int .i64 0) from rfl)
        have st3_1 := (blk_cell BK5.out 1).trans (show _ = some (.int .i64 0) from rfl)
        have st3_2 := (blk_cell BK5.out 2).trans (show _ = some (.int .u64 0) from rfl)
        have st3_3 := (blk_cell BK5.out 3).trans (show _ = some (.int .u64 0) from rfl)
        have st3_4 := (blk_cell BK5.out 4).trans (show _ = some (.int .u8 0) from rfl)
        have st3_5 := (blk_cell BK5.out 5).trans (show _ = some (.int .i64 0) from rfl)
        have st3_6 := blk_frozen BK5.out 0
        have st3_7 := blk_frozen BK5.out 1
        have st3_8 := blk_frozen BK5.out 2
        have st3_9 := blk_frozen BK5.out 3
        have st3_10 := blk_frozen BK5.out 4
        have st3_11 := blk_frozen BK5.out 5
        have st3_12 := NE_gb2_gb4.out
        have st3_13 := Ne.symm NE_gb2_gb4.out
        have st3_14 := NE_gb4_gb5.out
        have st3_15 := Ne.symm NE_gb4_gb5.out
        have st3_16 := NE_gb4_gb8.out
        have st3_17 := Ne.symm NE_gb4_gb8.out
        have st3_18 := NE_gb2_gb5.out
        have st3_19 := Ne.symm NE_gb2_gb5.out
        have st3_20 := NE_gb5_gb8.out
        have st3_21 := Ne.symm NE_gb5_gb8.out
        refine skip_ (w1 := ?_) (by rfl) rfl ?_ ?_
        rotate_left
        · go_simp
          rfl
        refine hK.out _ _ ⟨((cell_far (p := ⟨gb5, _, none⟩) NE_gb2_gb5.out _).trans ((cell_far (p := ⟨gb5, _, none⟩) NE_gb2_gb5.out _).trans ((cell_far (p := ⟨gb5, _, none⟩) NE_gb2_gb5.out _).trans ((cell_far (p := ⟨gb5, _, none⟩) NE_gb2_gb5.out _).trans ((cell_far (p := ⟨gb5, _, none⟩) NE_gb2_gb5.out _).trans ((cell_far (p := ⟨gb5, _, none⟩) NE_gb2_gb5.out _).trans hHeld.1)))))), ((cell_far (p := ⟨gb5, _, none⟩) NE_gb2_gb5.out _).trans ((cell_far (p := ⟨gb5, _, none⟩) NE_gb2_gb5.out _).trans ((cell_far (p := ⟨gb5, _, none⟩) NE_gb2_gb5.out _).trans ((cell_far (p := ⟨gb5, _, none⟩) NE_gb2_gb5.out _).trans ((cell_far (p := ⟨gb5, _, none⟩) NE_gb2_gb5.out _).trans ((cell_far (p := ⟨gb5, _, none⟩) NE_gb2_gb5.out _).trans hHeld.2.1)))))), ((cell_far (p := ⟨gb5, _, none⟩) NE_gb2_gb5.out _).trans ((cell_far (p := ⟨gb5, _, none⟩) NE_gb2_gb5.out _).trans ((cell_far (p := ⟨gb5, _, none⟩) NE_gb2_gb5.out _).trans ((cell_far (p := ⟨gb5, _, none⟩) NE_gb2_gb5.out _).trans ((cell_far (p := ⟨gb5, _, none⟩) NE_gb2_gb5.out _).trans ((cell_far (p := ⟨gb5, _, none⟩) NE_gb2_gb5.out _).trans hHeld.2.2.1)))))), ((cell_far (p := ⟨gb5, _, none⟩) (Ne.symm NE_gb5_gb8.out) _).trans ((cell_far (p := ⟨gb5, _, none⟩) (Ne.symm NE_gb5_gb8.out) _).trans ((cell_far (p := ⟨gb5, _, none⟩) (Ne.symm NE_gb5_gb8.out) _).trans ((cell_far (p := ⟨gb5, _, none⟩) (Ne.symm NE_gb5_gb8.out) _).trans ((cell_far (p := ⟨gb5, _, none⟩) (Ne.symm NE_gb5_gb8.out) _).trans ((cell_far (p := ⟨gb5, _, none⟩) (Ne.symm NE_gb5_gb8.out) _).trans hHeld.2.2.2.1)))))), ((cell_far (p := ⟨gb5, _, none⟩) (Ne.symm NE_gb5_gb8.out) _).trans ((cell_far (p := ⟨gb5, _, none⟩) (Ne.symm NE_gb5_gb8.out) _).trans ((cell_far (p := ⟨gb5, _, none⟩) (Ne.symm NE_gb5_gb8.out) _).trans ((cell_far (p := ⟨gb5, _, none⟩) (Ne.symm NE_gb5_gb8.out) _).trans ((cell_far (p := ⟨gb5, _, none⟩) (Ne.symm NE_gb5_gb8.out) _).trans ((cell_far (p := ⟨gb5, _, none⟩) (Ne.symm NE_gb5_gb8.out) _).trans hHeld.2.2.2.2.1)))))), ((cell_far (p := ⟨gb5, _, none⟩) (Ne.symm NE_gb5_gb8.out) _).trans ((cell_far (p := ⟨gb5, _, none⟩) (Ne.symm NE_gb5_gb8.out) _).trans ((cell_far (p := ⟨gb5, _, none⟩) (Ne.symm NE_gb5_gb8.out) _).trans ((cell_far (p := ⟨gb5, _, none⟩) (Ne.symm NE_gb5_gb8.out) _).trans ((cell_far (p := ⟨gb5, _, none⟩) (Ne.symm NE_gb5_gb8.out) _).trans ((cell_far (p := ⟨gb5, _, none⟩) (Ne.symm NE_gb5_gb8.out) _).trans hHeld.2.2.2.2.2.1)))))), ((cell_far (p := ⟨gb5, _, none⟩) (Ne.symm NE_gb5_gb8.out) _).trans ((cell_far (p := ⟨gb5, _, none⟩) (Ne.symm NE_gb5_gb8.out) _).trans ((cell_far (p := ⟨gb5, _, none⟩) (Ne.symm NE_gb5_gb8.out) _).trans ((cell_far (p := ⟨gb5, _, none⟩) (Ne.symm NE_gb5_gb8.out) _).trans ((cell_far (p := ⟨gb5, _, none⟩) (Ne.symm NE_gb5_gb8.out) _).trans ((cell_far (p := ⟨gb5, _, none⟩) (Ne.symm NE_gb5_gb8.out) _).trans hHeld.2.2.2.2.2.2.1)))))), ((cell_far (p := ⟨gb5, _, none⟩) (Ne.symm NE_gb5_gb8.out) _).trans ((cell_far (p := ⟨gb5, _, none⟩) (Ne.symm NE_gb5_gb8.out) _).trans ((cell_far (p := ⟨gb5, _, none⟩) (Ne.symm NE_gb5_gb8.out) _).trans ((cell_far (p := ⟨gb5, _, none⟩) (Ne.symm NE_gb5_gb8.out) _).trans ((cell_far (p := ⟨gb5, _, none⟩) (Ne.symm NE_gb5_gb8.out) _).trans ((cell_far (p := ⟨gb5, _, none⟩) (Ne.symm NE_gb5_gb8.out) _).trans hHeld.2.2.2.2.2.2.2.1)))))), ((cell_far (p := ⟨gb5, _, none⟩) (Ne.symm NE_gb5_gb8.out) _).trans ((cell_far (p := ⟨gb5, _, none⟩) (Ne.symm NE_gb5_gb8.out) _).trans ((cell_far (p := ⟨gb5, _, none⟩) (Ne.symm NE_gb5_gb8.out) _).trans ((cell_far (p := ⟨gb5, _, none⟩) (Ne.symm NE_gb5_gb8.out) _).trans ((cell_far (p := ⟨gb5, _, none⟩) (Ne.symm NE_gb5_gb8.out) _).trans ((cell_far (p := ⟨gb5, _, none⟩) (Ne.symm NE_gb5_gb8.out) _).trans hHeld.2.2.2.2.2.2.2.2))))))⟩ (fun hHeld => ?_)
        clear hK K
        clear st3_0 st3_1 st3_2 st3_3 st3_4 st3_5 st3_6 st3_7 st3_8 st3_9 st3_10 st3_11 st3_12 st3_13 st3_14 st3_15 st3_16 st3_17 st3_18 st3_19 st3_20 st3_21
        refine pure_ (i := 4) (N := some 6) (v := ?_) (a' := ?_) #[true, true, true, true, true] rfl rfl (any_of HT_.out (by kernel_rfl)) (fun _ _ _ h => h) (Or.inl ⟨by rfl, ?_⟩) ?_ ?_
        rotate_left
        · intro w'
          go_simp
          with_reducible rfl
        rotate_left
        · simp only [Act.put, List.setIfInBounds_toArray, List.set_cons_zero, List.set_cons_succ, i64_w, i32_w]
          rfl
        refine done_ (done_of HT_.out (by kernel_rfl)) ?_
        have bk2_0 := blk_c BK2.out 0 rfl; have bk2_1 := blk_c BK2.out 1 rfl; have bk2_2 := blk_c BK2.out 2 rfl; have bk4_0 := blk_c BK4.out 0 rfl; have bk4_1 := blk_c BK4.out 1 rfl; have bk4_2 := blk_c BK4.out 2 rfl; have bk5_0 := blk_c BK5.out 0 rfl; have bk5_1 := blk_c BK5.out 1 rfl; have bk5_2 := blk_c BK5.out 2 rfl; have bk5_3 := blk_c BK5.out 3 rfl; have bk5_4 := blk_c BK5.out 4 rfl; have bk5_5 := blk_c BK5.out 5 rfl; have bk8_0 := blk_c BK8.out 0 rfl; have bk8_1 := blk_c BK8.out 1 rfl; have bk8_2 := blk_c BK8.out 2 rfl; have bk8_3 := blk_c BK8.out 3 rfl; have bk8_4 := blk_c BK8.out 4 rfl; have bk8_5 := blk_c BK8.out 5 rfl; have bk2_f := fun i => blk_frozen BK2.out i; have bk4_f := fun i => blk_frozen BK4.out i; have bk5_f := fun i => blk_frozen BK5.out i; have bk8_f := fun i => blk_frozen BK8.out i
        go_wp2
        clear bk2_0 bk2_1 bk2_2 bk2_f bk4_0 bk4_1 bk4_2 bk4_f bk5_0 bk5_1 bk5_2 bk5_3 bk5_4 bk5_5 bk5_f bk8_0 bk8_1 bk8_2 bk8_3 bk8_4 bk8_5 bk8_f
        have s0_HO0 := far_set3 HO0.out (blk_rowG BK4.out HO0.out (by decide)) (.slice A0 L.length c0) (.slice A9 n9 c9) (.int .i64 g)
        have s0_HO1 := far_set3 HO1.out (blk_rowG BK4.out HO1.out (by decide)) (.slice A0 L.length c0) (.slice A9 n9 c9) (.int .i64 g)
        have s0_HV := far_set3 HV.out (blk_rowG BK4.out HV.out (by decide)) (.slice A0 L.length c0) (.slice A9 n9 c9) (.int .i64 g)
        have s0_BK2 := blk_far3 BK2.out NE_gb2_gb4.out (.slice A0 L.length c0) (.slice A9 n9 c9) (.int .i64 g)
        have s0_BK4 := blk_put3 BK4.out (.slice A0 L.length c0) (.slice A9 n9 c9) (.int .i64 g)
        have s0_BK5 := blk_far3 BK5.out (Ne.symm NE_gb4_gb5.out) (.slice A0 L.length c0) (.slice A9 n9 c9) (.int .i64 g)
        have s0_BK8 := blk_far3 BK8.out (Ne.symm NE_gb4_gb8.out) (.slice A0 L.length c0) (.slice A9 n9 c9) (.int .i64 g)
        have s0_HB := below_set3 HB.out GE_gb4.out (.slice A0 L.length c0) (.slice A9 n9 c9) (.int .i64 g)
        have s1_HO0 := far_set6 s0_HO0 (X_gb5_HO0.out) (.int .i64 q.f0) (.int .i64 q.f1) (.int .u64 q.f2) (.int .u64 q.f3) (.int .u8 q.f4) (.int .i64 q.f5)
        have s1_HO1 := far_set6 s0_HO1 (X_gb5_HO1.out) (.int .i64 q.f0) (.int .i64 q.f1) (.int .u64 q.f2) (.int .u64 q.f3) (.int .u8 q.f4) (.int .i64 q.f5)
        have s1_HV := far_set6 s0_HV (X5V.out) (.int .i64 q.f0) (.int .i64 q.f1) (.int .u64 q.f2) (.int .u64 q.f3) (.int .u8 q.f4) (.int .i64 q.f5)
        have s1_BK2 := blk_far6 s0_BK2 NE_gb2_gb5.out (.int .i64 q.f0) (.int .i64 q.f1) (.int .u64 q.f2) (.int .u64 q.f3) (.int .u8 q.f4) (.int .i64 q.f5)
        have s1_BK4 := blk_far6 s0_BK4 NE_gb4_gb5.out (.int .i64 q.f0) (.int .i64 q.f1) (.int .u64 q.f2) (.int .u64 q.f3) (.int .u8 q.f4) (.int .i64 q.f5)
        have s1_BK5 := blk_put6 s0_BK5 (.int .i64 q.f0) (.int .i64 q.f1) (.int .u64 q.f2) (.int .u64 q.f3) (.int .u8 q.f4) (.int .i64 q.f5)
        have s1_BK8 := blk_far6 s0_BK8 (Ne.symm NE_gb5_gb8.out) (.int .i64 q.f0) (.int .i64 q.f1) (.int .u64 q.f2) (.int .u64 q.f3) (.int .u8 q.f4) (.int .i64 q.f5)
        have s1_HB := below_set6 s0_HB GE_gb5.out (.int .i64 q.f0) (.int .i64 q.f1) (.int .u64 q.f2) (.int .u64 q.f3) (.int .u8 q.f4) (.int .i64 q.f5)
        have n_BK2 := Aside0.mk s1_BK2
        have n_BK4 := Aside0.mk s1_BK4
        have n_BK5 := Aside0.mk s1_BK5
        have n_BK8 := Aside0.mk s1_BK8
        have n_HO0 := Aside0.mk s1_HO0
        have n_HO1 := Aside0.mk s1_HO1
        have n_HV := Aside0.mk s1_HV
        have n_HB := Aside0.mk s1_HB
        clear s0_BK2 s0_BK4 s0_BK5 s0_BK8 s0_HO0 s0_HO1 s0_HV s0_HB
        clear s1_BK2 s1_BK4 s1_BK5 s1_BK8 s1_HO0 s1_HO1 s1_HV s1_HB
        clear BK2 BK4 BK5 BK8 HO0 HO1 HV HB
        generalize (((((((((w9.setCell ⟨gb4, 0, none⟩ (.slice A0 L.length c0)).setCell ⟨gb4, 1, none⟩ (.slice A9 n9 c9)).setCell ⟨gb4, 2, none⟩ (.int .i64 g)).setCell ⟨gb5, 0, none⟩ (.int .i64 q.f0)).setCell ⟨gb5, 1, none⟩ (.int .i64 q.f1)).setCell ⟨gb5, 2, none⟩ (.int .u64 q.f2)).setCell ⟨gb5, 3, none⟩ (.int .u64 q.f3)).setCell ⟨gb5, 4, none⟩ (.int .u8 q.f4)).setCell ⟨gb5, 5, none⟩ (.int .i64 q.f5)) = w12 at n_BK2 n_BK4 n_BK5 n_BK8 n_HO0 n_HO1 n_HV n_HB ⊢
        have BK2 := n_BK2
        have BK4 := n_BK4
        have BK5 := n_BK5
        have BK8 := n_BK8
        have HO0 := n_HO0
        have HO1 := n_HO1
        have HV := n_HV
        have HB := n_HB
        clear n_BK2 n_BK4 n_BK5 n_BK8 n_HO0 n_HO1 n_HV n_HB
        have bk2_0 := blk_c BK2.out 0 rfl; have bk2_1 := blk_c BK2.out 1 rfl; have bk2_2 := blk_c BK2.out 2 rfl; have bk4_0 := blk_c BK4.out 0 rfl; have bk4_1 := blk_c BK4.out 1 rfl; have bk4_2 := blk_c BK4.out 2 rfl; have bk5_0 := blk_c BK5.out 0 rfl; have bk5_1 := blk_c BK5.out 1 rfl; have bk5_2 := blk_c BK5.out 2 rfl; have bk5_3 := blk_c BK5.out 3 rfl; have bk5_4 := blk_c BK5.out 4 rfl; have bk5_5 := blk_c BK5.out 5 rfl; have bk8_0 := blk_c BK8.out 0 rfl; have bk8_1 := blk_c BK8.out 1 rfl; have bk8_2 := blk_c BK8.out 2 rfl; have bk8_3 := blk_c BK8.out 3 rfl; have bk8_4 := blk_c BK8.out 4 rfl; have bk8_5 := blk_c BK8.out 5 rfl; have bk2_f := fun i => blk_frozen BK2.out i; have bk4_f := fun i => blk_frozen BK4.out i; have bk5_f := fun i => blk_frozen BK5.out i; have bk8_f := fun i => blk_frozen BK8.out i
        refine bodyPost_ret (results_list (rs := [.cell 4 58, .cell 5 65, .tmp 6]) rfl (by simp) (.cell gb4 58 #[.slice A0 L.length c0, .slice A9 n9 c9, .int .i64 g] (0, 0) _ rfl BK4.out Try.underlying58 rfl (by kernel_rfl) (.cell gb5 65 #[.int .i64 q.f0, .int .i64 q.f1, .int .u64 q.f2, .int .u64 q.f3, .int .u8 q.f4, .int .i64 q.f5] (0, 0) _ rfl BK5.out Try.underlying65 rfl (by kernel_rfl) (.tmp .nil)))) rfl ?_
        rw [HR.out]
        show ∃ (AD : Option Addr) (cD : Nat), _ = Ending.returned (.tuple #[.agg #[_, .slice AD (D.eraseIdx j).length cD, _], _, _]) ∧ _ ∧ Kd.R k65 65 w12 b (fun _ => True) (.slice AD (D.eraseIdx j).length cD) (D.eraseIdx j) ∧ (∀ k, (.slice AD (D.eraseIdx j).length cD : Value).ownBlock = some k → _) ∧ _
        rw [HN9.out]
        exact ⟨_, _, rfl, HO0.out, Kd.R_lower HV.out HBW.out, fun k hk => .inr (Kd.R_base HV.out k hk), HB.out⟩
/-- What End makes of the line. -/
def endR (L D : List S65) (g er : Int) : List S65 × List S65 × List Int := if g = 0 then (L, D, []) else (leadL (L.drop g.toNat), D ++ (L.take g.toNat).map (sayDone er), (L.take g.toNat).map S65.f0 ++ ((L.drop g.toNat).take 1).map S65.f0)
set_option maxHeartbeats 8000000 in
set_option maxRecDepth 100000 in
theorem refEnd_at (A0 : Option Addr) (c0 : Nat) (L : List S65) (A1 : Option Addr) (c1 : Nat) (D : List S65) (b : Nat) (g er : Int) (w : World) (hbw : b ≤ w.heap.size) (hr0 : Kd.R k65 65 w b (fun _ => True) (.slice A0 L.length c0) L) (hr1 : Kd.R k65 65 w b (fun _ => True) (.slice A1 D.length c1) D) (hl0 : L.length ≤ 1000) (hl1 : D.length ≤ 1000) (hg0 : 0 ≤ g) (hg1 : g ≤ L.length) :
    Calls Try.prog 51 #[.agg #[.slice A0 L.length c0, .slice A1 D.length c1, .int .i64 g], .int .i64 er] w fun e w' => ∃ (AL : Option Addr) (cL : Nat) (AD : Option Addr) (cD : Nat) (AT : Option Addr) (cT : Nat), e = .returned (.tuple #[.agg #[.slice AL (endR L D g er).1.length cL, .slice AD (endR L D g er).2.1.length cD, .int .i64 0], .slice AT (endR L D g er).2.2.length cT]) ∧ Kd.R k65 65 w' b (fun _ => True) (.slice AL (endR L D g er).1.length cL) (endR L D g er).1 ∧ Kd.R k65 65 w' b (fun _ => True) (.slice AD (endR L D g er).2.1.length cD) (endR L D g er).2.1 ∧ Kd.R (Kd.int .i64) 3 w' b (fun _ => True) (.slice AT (endR L D g er).2.2.length cT) (endR L D g er).2.2 ∧ Below w.heap.size w w' := by
  have HO0 := Aside0.mk hr0
  have HO1 := Aside0.mk hr1
  have HB := Aside0.mk (Below.refl w.heap.size w)
  have HBW := Aside0.mk hbw
  clear hr0 hr1 hbw
  by_cases hg : g = 0
  · subst hg
    have HR : Aside0 (endR L D 0 er = (L, D, [])) := ⟨by unfold endR; rw [if_pos rfl]⟩
    go_enter Try.func51, Try.ntmps51
    go_upto_region 1 with (first | ((with_reducible refine gate_dst (N := 2) rfl ?_); refine box_event ?hg (N := 2) ?hd (cs := #[.slice A0 L.length c0, .slice A1 D.length c1, .int .i64 0]) (t := 58) ?hr ?_; (case hd => rfl); (case hg => rfl); (case hr => first | (go_simp; done) | (go_simp; rfl)); intro gb2 hg w3 hbox hb; have GE_gb2 := Aside0.mk (show w.heap.size ≤ gb2 from by rw [hg]; exact below_size HB.out); clear hg; skip; replace HO0 := Aside0.mk (Kd.R_below HO0.out hb); replace HO1 := Aside0.mk (Kd.R_below HO1.out hb); replace HB := Aside0.mk (below_step HB.out hb); clear hb; have BK2 := Aside0.mk hbox; clear hbox; have bk2_0 := blk_c BK2.out 0 rfl; have bk2_1 := blk_c BK2.out 1 rfl; have bk2_2 := blk_c BK2.out 2 rfl; have bk2_f := fun i => blk_frozen BK2.out i) | ((with_reducible refine gate_dst (N := 4) rfl ?_); refine box_event ?hg (N := 4) ?hd (cs := #[.slice none 0 0, .slice none 0 0, .int .i64 0]) (t := 58) ?hr ?_; (case hd => rfl); (case hg => rfl); (case hr => first | (go_simp; done) | (go_simp; rfl)); intro gb4 hg w3 hbox hb; have NE_gb2_gb4 := Aside0.mk (show gb2 ≠ gb4 from by rw [hg]; exact Nat.ne_of_lt (blk_lt BK2.out)); have GE_gb4 := Aside0.mk (show w.heap.size ≤ gb4 from by rw [hg]; exact below_size HB.out); clear hg; clear bk2_0 bk2_1 bk2_2 bk2_f; replace BK2 := Aside0.mk (blk_below BK2.out hb); replace HO0 := Aside0.mk (Kd.R_below HO0.out hb); replace HO1 := Aside0.mk (Kd.R_below HO1.out hb); replace HB := Aside0.mk (below_step HB.out hb); clear hb; have BK4 := Aside0.mk hbox; clear hbox; have bk2_0 := blk_c BK2.out 0 rfl; have bk2_1 := blk_c BK2.out 1 rfl; have bk2_2 := blk_c BK2.out 2 rfl; have bk4_0 := blk_c BK4.out 0 rfl; have bk4_1 := blk_c BK4.out 1 rfl; have bk4_2 := blk_c BK4.out 2 rfl; have bk2_f := fun i => blk_frozen BK2.out i; have bk4_f := fun i => blk_frozen BK4.out i))
    have n24 := NE_gb2_gb4.out
    go_wp2
    clear n24
    clear bk2_0 bk2_1 bk2_2 bk2_f bk4_0 bk4_1 bk4_2 bk4_f
    have s0_HO0 := far_set3 HO0.out (blk_rowG BK4.out HO0.out (by decide)) (.slice A0 L.length c0) (.slice A1 D.length c1) (.int .i64 0)
    have s0_HO1 := far_set3 HO1.out (blk_rowG BK4.out HO1.out (by decide)) (.slice A0 L.length c0) (.slice A1 D.length c1) (.int .i64 0)
    have s0_BK2 := blk_far3 BK2.out NE_gb2_gb4.out (.slice A0 L.length c0) (.slice A1 D.length c1) (.int .i64 0)
    have s0_BK4 := blk_put3 BK4.out (.slice A0 L.length c0) (.slice A1 D.length c1) (.int .i64 0)
    have s0_HB := below_set3 HB.out GE_gb4.out (.slice A0 L.length c0) (.slice A1 D.length c1) (.int .i64 0)
    have n_BK2 := Aside0.mk s0_BK2
    have n_BK4 := Aside0.mk s0_BK4
    have n_HO0 := Aside0.mk s0_HO0
    have n_HO1 := Aside0.mk s0_HO1
    have n_HB := Aside0.mk s0_HB
    clear s0_BK2 s0_BK4 s0_HO0 s0_HO1 s0_HB
    clear BK2 BK4 HO0 HO1 HB
    generalize (((w3.setCell ⟨gb4, 0, none⟩ (.slice A0 L.length c0)).setCell ⟨gb4, 1, none⟩ (.slice A1 D.length c1)).setCell ⟨gb4, 2, none⟩ (.int .i64 0)) = w9 at n_BK2 n_BK4 n_HO0 n_HO1 n_HB ⊢
    have BK2 := n_BK2
    have BK4 := n_BK4
    have HO0 := n_HO0
    have HO1 := n_HO1
    have HB := n_HB
    clear n_BK2 n_BK4 n_HO0 n_HO1 n_HB
    have bk2_0 := blk_c BK2.out 0 rfl; have bk2_1 := blk_c BK2.out 1 rfl; have bk2_2 := blk_c BK2.out 2 rfl; have bk4_0 := blk_c BK4.out 0 rfl; have bk4_1 := blk_c BK4.out 1 rfl; have bk4_2 := blk_c BK4.out 2 rfl; have bk2_f := fun i => blk_frozen BK2.out i; have bk4_f := fun i => blk_frozen BK4.out i
    refine bodyPost_ret (results_ct rfl _ _ gb4 58 #[.slice A0 L.length c0, .slice A1 D.length c1, .int .i64 0] (0, 0) _ rfl BK4.out Try.underlying58 rfl (by kernel_rfl)) rfl ?_
    rw [HR.out]
    exact ⟨_, _, _, _, none, 0, rfl, HO0.out, HO1.out, Kd.R_nil _ _ _ _ _, HB.out⟩
  · obtain ⟨r0, hr0⟩ : ∃ r, (L.drop g.toNat) = r := ⟨_, rfl⟩
    obtain ⟨r1, hr1⟩ : ∃ r, (D ++ (L.take g.toNat).map (sayDone er)) = r := ⟨_, rfl⟩
    obtain ⟨r2, hr2⟩ : ∃ r, ((L.take g.toNat).map S65.f0) = r := ⟨_, rfl⟩
    have HR : Aside0 (endR L D g er = (leadL r0, r1, r2 ++ (r0.take 1).map S65.f0)) := ⟨by unfold endR; rw [if_neg hg, hr0, hr1, hr2]⟩
    have hr2l : r2.length ≤ 1000 := by rw [← hr2, List.length_map, List.length_take]; omega
    have E0 := Aside0.mk hr0
    have E1 := Aside0.mk hr1
    have E2 := Aside0.mk hr2
    clear hr0 hr1 hr2
    have hgb : (g == 0) = false := beq_false_of_ne hg
    rw [HR.out]
    go_enter Try.func51, Try.ntmps51
    go_upto_region 1 with (first | ((with_reducible refine gate_dst (N := 2) rfl ?_); refine box_event ?hg (N := 2) ?hd (cs := #[.slice A0 L.length c0, .slice A1 D.length c1, .int .i64 g]) (t := 58) ?hr ?_; (case hd => rfl); (case hg => rfl); (case hr => first | (go_simp; done) | (go_simp; rfl)); intro gb2 hg w3 hbox hb; have GE_gb2 := Aside0.mk (show w.heap.size ≤ gb2 from by rw [hg]; exact below_size HB.out); clear hg; skip; replace HO0 := Aside0.mk (Kd.R_below HO0.out hb); replace HO1 := Aside0.mk (Kd.R_below HO1.out hb); replace HB := Aside0.mk (below_step HB.out hb); clear hb; have BK2 := Aside0.mk hbox; clear hbox; have bk2_0 := blk_c BK2.out 0 rfl; have bk2_1 := blk_c BK2.out 1 rfl; have bk2_2 := blk_c BK2.out 2 rfl; have bk2_f := fun i => blk_frozen BK2.out i) | ((with_reducible refine gate_dst (N := 4) rfl ?_); refine box_event ?hg (N := 4) ?hd (cs := #[.slice none 0 0, .slice none 0 0, .int .i64 0]) (t := 58) ?hr ?_; (case hd => rfl); (case hg => rfl); (case hr => first | (go_simp; done) | (go_simp; rfl)); intro gb4 hg w3 hbox hb; have NE_gb2_gb4 := Aside0.mk (show gb2 ≠ gb4 from by rw [hg]; exact Nat.ne_of_lt (blk_lt BK2.out)); have GE_gb4 := Aside0.mk (show w.heap.size ≤ gb4 from by rw [hg]; exact below_size HB.out); clear hg; clear bk2_0 bk2_1 bk2_2 bk2_f; replace BK2 := Aside0.mk (blk_below BK2.out hb); replace HO0 := Aside0.mk (Kd.R_below HO0.out hb); replace HO1 := Aside0.mk (Kd.R_below HO1.out hb); replace HB := Aside0.mk (below_step HB.out hb); clear hb; have BK4 := Aside0.mk hbox; clear hbox; have bk2_0 := blk_c BK2.out 0 rfl; have bk2_1 := blk_c BK2.out 1 rfl; have bk2_2 := blk_c BK2.out 2 rfl; have bk4_0 := blk_c BK4.out 0 rfl; have bk4_1 := blk_c BK4.out 1 rfl; have bk4_2 := blk_c BK4.out 2 rfl; have bk2_f := fun i => blk_frozen BK2.out i; have bk4_f := fun i => blk_frozen BK4.out i))
    have hwb : w.heap.size ≤ w3.heap.size := below_size HB.out
    have hbw3 : b ≤ w3.heap.size := Nat.le_trans HBW.out hwb
    go_upto_region 4 with (first | (go_at_call 75; (with_reducible refine (refGone_at _ _ L _ _ D b g g er _ hbw3 HO0.out HO1.out hl0 hl1 hg0 hg1).mono ?_); rintro e w5 ⟨A5, c5, A6, c6, A7, c7, rfl, h0, h1, h2, hb⟩; rw [E0.out, E1.out] at h0; rw [E1.out] at h1; rw [E2.out] at h2; rw [E0.out, E1.out, E2.out]; have VOK := Aside0.mk h0.1; have VGE : Aside0 (∀ k, (.slice A5 r0.length c5 : Value).ownBlock = some k → w.heap.size ≤ k) := ⟨fun k hk => Nat.le_trans hwb (Kd.R_base h0 k hk)⟩; clear bk2_0 bk2_1 bk2_2 bk2_f bk4_0 bk4_1 bk4_2 bk4_f; replace BK2 := Aside0.mk (blk_below BK2.out hb); replace BK4 := Aside0.mk (blk_below BK4.out hb); have HV := Aside0.mk (Kd.R_lower (Kd.R_mono h0 (fun _ _ => trivial)) hwb); have HU := Aside0.mk (Kd.R_lower h1 hwb); have HT := Aside0.mk (Kd.R_lower h2 hwb); replace HB := Aside0.mk (below_step HB.out hb); clear HO0 HO1; have bk2_0 := blk_c BK2.out 0 rfl; have bk2_1 := blk_c BK2.out 1 rfl; have bk2_2 := blk_c BK2.out 2 rfl; have bk4_0 := blk_c BK4.out 0 rfl; have bk4_1 := blk_c BK4.out 1 rfl; have bk4_2 := blk_c BK4.out 2 rfl; have bk2_f := fun i => blk_frozen BK2.out i; have bk4_f := fun i => blk_frozen BK4.out i; clear h0 h1 h2 hb))
    clear bk2_0 bk2_1 bk2_2 bk2_f bk4_0 bk4_1 bk4_2 bk4_f
    have s0_HV := far_set3 HV.out (blk_rowG BK2.out HV.out (by decide)) (.slice A5 r0.length c5) (.slice A6 r1.length c6) (.int .i64 0)
    have s0_HU := far_set3 HU.out (blk_rowG BK2.out HU.out (by decide)) (.slice A5 r0.length c5) (.slice A6 r1.length c6) (.int .i64 0)
    have s0_HT := far_int3 HT.out (blk_rowG BK2.out HT.out (by decide)) (.slice A5 r0.length c5) (.slice A6 r1.length c6) (.int .i64 0)
    have s0_BK2 := blk_put3 BK2.out (.slice A5 r0.length c5) (.slice A6 r1.length c6) (.int .i64 0)
    have s0_BK4 := blk_far3 BK4.out (Ne.symm NE_gb2_gb4.out) (.slice A5 r0.length c5) (.slice A6 r1.length c6) (.int .i64 0)
    have s0_HB := below_set3 HB.out GE_gb2.out (.slice A5 r0.length c5) (.slice A6 r1.length c6) (.int .i64 0)
    have n_BK2 := Aside0.mk s0_BK2
    have n_BK4 := Aside0.mk s0_BK4
    have n_HV := Aside0.mk s0_HV
    have n_HU := Aside0.mk s0_HU
    have n_HT := Aside0.mk s0_HT
    have n_HB := Aside0.mk s0_HB
    clear s0_BK2 s0_BK4 s0_HV s0_HU s0_HT s0_HB
    clear BK2 BK4 HV HU HT HB
    generalize (((w5.setCell ⟨gb2, 0, none⟩ (.slice A5 r0.length c5)).setCell ⟨gb2, 1, none⟩ (.slice A6 r1.length c6)).setCell ⟨gb2, 2, none⟩ (.int .i64 0)) = w6 at n_BK2 n_BK4 n_HV n_HU n_HT n_HB ⊢
    have BK2 := n_BK2
    have BK4 := n_BK4
    have HV := n_HV
    have HU := n_HU
    have HT := n_HT
    have HB := n_HB
    clear n_BK2 n_BK4 n_HV n_HU n_HT n_HB
    have bk2_0 := blk_c BK2.out 0 rfl; have bk2_1 := blk_c BK2.out 1 rfl; have bk2_2 := blk_c BK2.out 2 rfl; have bk4_0 := blk_c BK4.out 0 rfl; have bk4_1 := blk_c BK4.out 1 rfl; have bk4_2 := blk_c BK4.out 2 rfl; have bk2_f := fun i => blk_frozen BK2.out i; have bk4_f := fun i => blk_frozen BK4.out i
    by_cases hz : r0.length = 0
    · have d0 : decide (0 < (r0.length : Int)) = false := decide_eq_false (by omega)
      have d1 : decide (0 < r0.length) = false := decide_eq_false (by omega)
      have el : leadL r0 = r0 ∧ r0.take 1 = [] := by cases r0 with | nil => exact ⟨rfl, rfl⟩ | cons x xs => simp at hz
      have EL := Aside0.mk el
      clear el hz hgb
      have n24 := NE_gb2_gb4.out
      go_wp2
      clear n24
      clear bk2_0 bk2_1 bk2_2 bk2_f bk4_0 bk4_1 bk4_2 bk4_f
      have s0_HV := far_set3 HV.out (blk_rowG BK4.out HV.out (by decide)) (.slice A5 r0.length c5) (.slice A6 r1.length c6) (.int .i64 0)
      have s0_HU := far_set3 HU.out (blk_rowG BK4.out HU.out (by decide)) (.slice A5 r0.length c5) (.slice A6 r1.length c6) (.int .i64 0)
      have s0_HT := far_int3 HT.out (blk_rowG BK4.out HT.out (by decide)) (.slice A5 r0.length c5) (.slice A6 r1.length c6) (.int .i64 0)
      have s0_BK2 := blk_far3 BK2.out NE_gb2_gb4.out (.slice A5 r0.length c5) (.slice A6 r1.length c6) (.int .i64 0)
      have s0_BK4 := blk_put3 BK4.out (.slice A5 r0.length c5) (.slice A6 r1.length c6) (.int .i64 0)
      have s0_HB := below_set3 HB.out GE_gb4.out (.slice A5 r0.length c5) (.slice A6 r1.length c6) (.int .i64 0)
      have n_BK2 := Aside0.mk s0_BK2
      have n_BK4 := Aside0.mk s0_BK4
      have n_HV := Aside0.mk s0_HV
      have n_HU := Aside0.mk s0_HU
      have n_HT := Aside0.mk s0_HT
      have n_HB := Aside0.mk s0_HB
      clear s0_BK2 s0_BK4 s0_HV s0_HU s0_HT s0_HB
      clear BK2 BK4 HV HU HT HB
      generalize (((w6.setCell ⟨gb4, 0, none⟩ (.slice A5 r0.length c5)).setCell ⟨gb4, 1, none⟩ (.slice A6 r1.length c6)).setCell ⟨gb4, 2, none⟩ (.int .i64 0)) = w9 at n_BK2 n_BK4 n_HV n_HU n_HT n_HB ⊢
      have BK2 := n_BK2
      have BK4 := n_BK4
      have HV := n_HV
      have HU := n_HU
      have HT := n_HT
      have HB := n_HB
      clear n_BK2 n_BK4 n_HV n_HU n_HT n_HB
      have bk2_0 := blk_c BK2.out 0 rfl; have bk2_1 := blk_c BK2.out 1 rfl; have bk2_2 := blk_c BK2.out 2 rfl; have bk4_0 := blk_c BK4.out 0 rfl; have bk4_1 := blk_c BK4.out 1 rfl; have bk4_2 := blk_c BK4.out 2 rfl; have bk2_f := fun i => blk_frozen BK2.out i; have bk4_f := fun i => blk_frozen BK4.out i
      refine bodyPost_ret (results_ct rfl _ _ gb4 58 #[.slice A5 r0.length c5, .slice A6 r1.length c6, .int .i64 0] (0, 0) _ rfl BK4.out Try.underlying58 rfl (by kernel_rfl)) rfl ?_
      rw [EL.out.1, EL.out.2, List.map_nil, List.append_nil]
      exact ⟨_, _, _, _, _, _, rfl, Kd.R_lower HV.out HBW.out, Kd.R_lower HU.out HBW.out, Kd.R_lower HT.out HBW.out, HB.out⟩
    · have d0 : decide (0 < (r0.length : Int)) = true := decide_eq_true (by omega)
      have d1 : decide (0 < r0.length) = true := decide_eq_true (by omega)
      obtain ⟨gx, cap, ex, hgx, -, cells, hcell⟩ := Kd.R_form HV.out (by omega)
      simp only [Value.slice.injEq, true_and] at ex
      obtain ⟨rfl, rfl⟩ := ex
      clear hcell cells
      have hE := elem65 HV.out 0 (by omega)
      have hc4 := hE.1 4 _ rfl
      have hf4 := hE.2 4
      clear hE
      simp only [Nat.zero_mul, Nat.zero_add] at hc4 hf4
      obtain ⟨e1, e2, e3⟩ := lead_set r0 (by omega)
      have hp := put65 HV.out 0 (by omega) 4 (by omega) (.int .u8 1) (⟨(rd_T65 r0 0).f0, (rd_T65 r0 0).f1, (rd_T65 r0 0).f2, (rd_T65 r0 0).f3, 1, (rd_T65 r0 0).f5⟩ : S65) rfl
      rw [e1] at hp
      have hp1 : Kd.R k65 65 (w6.setCell ⟨gx, 4, none⟩ (.int .u8 1)) w.heap.size (fun _ => True) (.slice (some ⟨gx, 0, none⟩) r0.length c5) (leadL r0) := hp.1
      have hg : w6.grownBy (w6.setCell ⟨gx, 4, none⟩ (.int .u8 1)) (some gx) := hp.2
      have hgo : (.slice (some ⟨gx, 0, none⟩) r0.length c5 : Value).ownBlock = some gx := own_some _ _ _
      have HE3 := Aside0.mk e3
      have HE2 := Aside0.mk e2
      clear hp e1 e2 e3
      go_upto_region 6 with (fail)
      clear hc4 hf4
      have n_BK2 := Aside0.mk (blk_grown BK2.out hg (by rw [← hgo]; exact blk_rowG BK2.out HV.out (by decide)))
      have n_BK4 := Aside0.mk (blk_grown BK4.out hg (by rw [← hgo]; exact blk_rowG BK4.out HV.out (by decide)))
      have n_HU := Aside0.mk (Kd.R_grown2 HU.out rfl hg (fun k hk => VOK.out k (by rw [hgo]; exact hk)))
      have n_HT := Aside0.mk (Kd.R_over' HT.out (Kd.R_typed HV.out) (by decide) (by rw [hgo]; exact hg))
      have n_HV := Aside0.mk hp1
      have n_HB := Aside0.mk (pw_below_grown HB.out _ (below_size HB.out) hg (fun k e => by cases e; exact VGE.out gx hgo))
      clear bk2_0 bk2_1 bk2_2 bk2_f bk4_0 bk4_1 bk4_2 bk4_f
      clear BK2 BK4 HU HT HV HB hp1 hg
      generalize w6.setCell ⟨gx, 4, none⟩ (.int .u8 1) = w7 at n_BK2 n_BK4 n_HU n_HT n_HV n_HB ⊢
      have BK2 := n_BK2; have BK4 := n_BK4; have HU := n_HU; have HT := n_HT; have HV := n_HV; have HB := n_HB
      clear n_BK2 n_BK4 n_HU n_HT n_HV n_HB
      have bk2_0 := blk_c BK2.out 0 rfl; have bk2_1 := blk_c BK2.out 1 rfl; have bk2_2 := blk_c BK2.out 2 rfl; have bk4_0 := blk_c BK4.out 0 rfl; have bk4_1 := blk_c BK4.out 1 rfl; have bk4_2 := blk_c BK4.out 2 rfl; have bk2_f := fun i => blk_frozen BK2.out i; have bk4_f := fun i => blk_frozen BK4.out i
      have hll : (leadL r0).length = r0.length := leadL_len r0
      have hE := elem65 HV.out 0 (by omega)
      have hc0 := hE.1 0 _ rfl
      clear hE
      rw [show ((leadL r0).getD 0 z65).f0 = (rd_T65 r0 0).f0 from HE2.out] at hc0
      simp only [Nat.zero_mul, Nat.zero_add] at hc0
      generalize (rd_T65 r0 0).f0 = y0 at hc0 HE3
      obtain ⟨rt, hrt⟩ : ∃ rt, r2 ++ (r0.take 1).map S65.f0 = rt := ⟨_, rfl⟩
      have HTE : Aside0 (r2 ++ [y0] = rt) := ⟨by rw [HE3.out]; exact hrt⟩
      have HRT := Aside0.mk hrt
      clear hrt
      have hpos : 0 < r0.length := by omega
      clear hz hgb
      have n24 := NE_gb2_gb4.out
      go_wp2_with (first | ((with_reducible refine gate_builtin (b := .append) (xs := #[.tmp 27, .tmp 33]) rfl ?_); at_builtin; (refine Kd.R_append (Kd.int .i64) (w0 := w) w.heap.size rfl (.tmp 27) (.tmp 33) 36 3 (.int .i64 0) 8 rfl Try.underlying36 info3 rfl (by decide) (by omega) (.slice A7 r2.length c7) r2 y0 [.int .i64 y0] (fun _ => True) (fun _ => False) (by first | rfl | (go_simp; done)) (by first | rfl | (go_simp; done)) rfl (fun _ hk => hk.elim) (fun _ _ => trivial) HT.out HB.out (below_size HB.out) (by omega) ?_); intro v6 w6 ho hb hg hat; rw [HTE.out] at ho; obtain ⟨A8, c8, ev⟩ := Kd.R_slice ho; subst ev; clear bk2_0 bk2_1 bk2_2 bk2_f bk4_0 bk4_1 bk4_2 bk4_f; replace BK2 := Aside0.mk (blk_grown BK2.out hg (blk_rowG BK2.out HT.out (by decide))); replace BK4 := Aside0.mk (blk_grown BK4.out hg (blk_rowG BK4.out HT.out (by decide))); replace HV := Aside0.mk (Kd.R_over' HV.out (Kd.R_typed HT.out) (by decide) hg); replace HU := Aside0.mk (Kd.R_over' HU.out (Kd.R_typed HT.out) (by decide) hg); replace HT := Aside0.mk (ho); replace HB := Aside0.mk (hb); have bk2_0 := blk_c BK2.out 0 rfl; have bk2_1 := blk_c BK2.out 1 rfl; have bk2_2 := blk_c BK2.out 2 rfl; have bk4_0 := blk_c BK4.out 0 rfl; have bk4_1 := blk_c BK4.out 1 rfl; have bk4_2 := blk_c BK4.out 2 rfl; have bk2_f := fun i => blk_frozen BK2.out i; have bk4_f := fun i => blk_frozen BK4.out i; clear ho hb hg hat))
      clear n24
      clear bk2_0 bk2_1 bk2_2 bk2_f bk4_0 bk4_1 bk4_2 bk4_f
      have s0_HV := far_set3 HV.out (blk_rowG BK4.out HV.out (by decide)) (.slice (some ⟨gx, 0, none⟩) r0.length c5) (.slice A6 r1.length c6) (.int .i64 0)
      have s0_HU := far_set3 HU.out (blk_rowG BK4.out HU.out (by decide)) (.slice (some ⟨gx, 0, none⟩) r0.length c5) (.slice A6 r1.length c6) (.int .i64 0)
      have s0_HT := far_int3 HT.out (blk_rowG BK4.out HT.out (by decide)) (.slice (some ⟨gx, 0, none⟩) r0.length c5) (.slice A6 r1.length c6) (.int .i64 0)
      have s0_BK2 := blk_far3 BK2.out NE_gb2_gb4.out (.slice (some ⟨gx, 0, none⟩) r0.length c5) (.slice A6 r1.length c6) (.int .i64 0)
      have s0_BK4 := blk_put3 BK4.out (.slice (some ⟨gx, 0, none⟩) r0.length c5) (.slice A6 r1.length c6) (.int .i64 0)
      have s0_HB := below_set3 HB.out GE_gb4.out (.slice (some ⟨gx, 0, none⟩) r0.length c5) (.slice A6 r1.length c6) (.int .i64 0)
      have n_BK2 := Aside0.mk s0_BK2
      have n_BK4 := Aside0.mk s0_BK4
      have n_HV := Aside0.mk s0_HV
      have n_HU := Aside0.mk s0_HU
      have n_HT := Aside0.mk s0_HT
      have n_HB := Aside0.mk s0_HB
      clear s0_BK2 s0_BK4 s0_HV s0_HU s0_HT s0_HB
      clear BK2 BK4 HV HU HT HB
      generalize (((w6.setCell ⟨gb4, 0, none⟩ (.slice (some ⟨gx, 0, none⟩) r0.length c5)).setCell ⟨gb4, 1, none⟩ (.slice A6 r1.length c6)).setCell ⟨gb4, 2, none⟩ (.int .i64 0)) = w9 at n_BK2 n_BK4 n_HV n_HU n_HT n_HB ⊢
      have BK2 := n_BK2
      have BK4 := n_BK4
      have HV := n_HV
      have HU := n_HU
      have HT := n_HT
      have HB := n_HB
      clear n_BK2 n_BK4 n_HV n_HU n_HT n_HB
      have bk2_0 := blk_c BK2.out 0 rfl; have bk2_1 := blk_c BK2.out 1 rfl; have bk2_2 := blk_c BK2.out 2 rfl; have bk4_0 := blk_c BK4.out 0 rfl; have bk4_1 := blk_c BK4.out 1 rfl; have bk4_2 := blk_c BK4.out 2 rfl; have bk2_f := fun i => blk_frozen BK2.out i; have bk4_f := fun i => blk_frozen BK4.out i
      refine bodyPost_ret (results_ct rfl _ _ gb4 58 #[.slice (some ⟨gx, 0, none⟩) r0.length c5, .slice A6 r1.length c6, .int .i64 0] (0, 0) _ rfl BK4.out Try.underlying58 rfl (by kernel_rfl)) rfl ?_
      rw [hll, HRT.out]
      exact ⟨_, _, _, _, _, _, rfl, Kd.R_lower HV.out HBW.out, Kd.R_lower HU.out HBW.out, Kd.R_lower HT.out HBW.out, HB.out⟩
end Go.Proofs.Ythlahhkjoocigaa.XQueue
