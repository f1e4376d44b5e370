/- QueueFails' own function, walked by hand: whatever ops and error, it answers true. Conditions: the ops lie in memory as they are, each within its types' bounds. -/
import Derived.Test.YthlahhkjoocigaaHQueueAt
import Derived.Test.YthlahhkjoocigaaXQueue10
namespace Go.Proofs.Ythlahhkjoocigaa.XQueue
open Go Go.RowKit Go.Proofs.YthlahhkjoocigaaW.PrintWords Go.Proofs.YthlahhkjoocigaaW.PrintLast Go.Proofs.YthlahhkjoocigaaW.PrintMore
attribute [local go_sem] max2_int min2_int max_two min_two max_three min_three max_four min_four
set_option linter.unusedVariables false
set_option linter.unusedSimpArgs false
theorem fail_at (A0 : Option Addr) (c0 : Nat) (L : List S65) (A1 : Option Addr) (c1 : Nat) (D : List S65) (g er : Int) (w : World) (hr0 : Kd.C k65 w A0 L.length L) (hc0 : L.length ≤ c0) (hr1 : Kd.C k65 w A1 D.length D) (hc1 : D.length ≤ c1) (hl : L.length + D.length ≤ 1000) :
    Calls Try.prog 52 #[.agg #[.slice A0 L.length c0, .slice A1 D.length c1, .int .i64 g], .int .i64 er] w fun e w' => ∃ (E : List S65) (ts : List Int) (AL : Option Addr) (cL : Nat) (AD : Option Addr) (cD : Nat) (AT : Option Addr) (cT : Nat), e = .returned (.tuple #[.agg #[.slice AL 0 cL, .slice AD E.length cD, .int .i64 0], .slice AT L.length cT]) ∧ E = D ++ L.map (sayDone er) ∧ ts = L.map S65.f0 ∧
      Kd.R k65 65 w' w.heap.size (fun _ => True) (.slice AL 0 cL) ([] : List S65) ∧ Kd.R k65 65 w' w.heap.size (fun _ => True) (.slice AD E.length cD) E ∧ Kd.R (Kd.int .i64) 3 w' w.heap.size (fun _ => True) (.slice AT L.length cT) ts ∧ Below w.heap.size w w' := by
  have hf : queue_Fail.f L D g er = some ([], D ++ L.map (sayDone er), 0, L.map S65.f0) := by
    unfold queue_Fail.f queue_done.f
    rw [if_pos (by omega), Option.bind_some, Int.toNat_natCast]
    dsimp only
    rw [List.drop_length, List.take_length]
  refine (queue_Fail.calls A0 c0 L A1 c1 D g er _ _ _ _ w hr0 hc0 hr1 hc1 hf).mono ?_
  rintro e w' ⟨v0, v1, v3, rfl, h0, h1, h3, hb⟩
  obtain ⟨AL, cL, rfl⟩ := Kd.R_slice h0
  obtain ⟨AD, cD, rfl⟩ := Kd.R_slice h1
  obtain ⟨AT, cT, rfl⟩ := Kd.R_slice h3
  refine ⟨D ++ L.map (sayDone er), L.map S65.f0, AL, cL, AD, cD, AT, cT, ?_, rfl, rfl, Kd.R_mono h0 (fun _ _ => trivial), Kd.R_mono h1 (fun _ _ => trivial), ?_, hb⟩
  · rw [List.length_map]; rfl
  · rw [List.length_map] at h3; exact h3
/-- Two rows that are one are the same. -/
theorem members_ev (D : List S65) (hl : D.length ≤ 1000) : Ev (fun k => ratlinelow_Members.f k D D) true := by
  unfold ratlinelow_Members.f
  simp only [if_true]
  have key : ∀ (q i : Nat), D.length - i = q → i ≤ D.length → Ev (fun k => ratlinelow_Members.l0 k D D (D.length : Int) (i : Int)) true := by
    intro q
    induction q with
    | zero =>
      intro i hq hi
      refine Ev.step (fun k => ?_) (Ev.now _)
      rw [ratlinelow_Members.l0, if_neg (by omega)]
    | succ q ih =>
      intro i hq hi
      refine Ev.step (f := fun k => ratlinelow_Members.l0 k D D (D.length : Int) ((i + 1 : Nat) : Int)) (fun k => ?_) (ih (i + 1) (by omega) (by omega))
      rw [ratlinelow_Members.l0, if_pos (by omega), if_pos (by omega), if_pos (by omega), if_pos (by omega), if_neg (by simp), w64 (by omega) (by omega)]
      rfl
  exact key D.length 0 rfl (Nat.zero_le _)
theorem members_q (A0 : Option Addr) (c0 : Nat) (A1 : Option Addr) (c1 : Nat) (D : List S65) (w : World) (hr0 : Kd.C k65 w A0 D.length D) (hc0 : D.length ≤ c0) (hr1 : Kd.C k65 w A1 D.length D) (hc1 : D.length ≤ c1) (hl : D.length ≤ 1000) :
    Calls Try.prog 59 #[.slice A0 D.length c0, .slice A1 D.length c1] w fun e w' => e = .returned (.bool true) ∧ ∃ m, w' = w.drewN m := by
  obtain ⟨k, hk⟩ := members_ev D hl
  exact (ratlinelow_Members.calls k A0 c0 D A1 c1 D true w hr0 hc0 hr1 hc1 (hk k (Nat.le_refl _))).mono (fun e w' h => ⟨h.1, h.2.out⟩)
/-- What Take takes. -/
def TK (E : List S65) (t : Int) (E2 : List S65) (q : S65) (is : Bool) : Prop := (is = false ∧ E2 = E ∧ ∀ x ∈ E, x.f0 ≠ t) ∨ (is = true ∧ ∃ i, i < E.length ∧ E2 = E.eraseIdx i ∧ q = E.getD i z65 ∧ q.f0 = t)
theorem take_at0 (A0 : Option Addr) (c0 : Nat) (A1 : Option Addr) (c1 : Nat) (E : List S65) (t : Int) (w : World) (hr0 : Kd.C k65 w A0 0 ([] : List S65)) (hr1 : Kd.C k65 w A1 E.length E) (hc1 : E.length ≤ c1) (hl : E.length ≤ 1000) :
    Calls Try.prog 54 #[.agg #[.slice A0 0 c0, .slice A1 E.length c1, .int .i64 0], .int .i64 t] w fun e w' => ∃ (E2 : List S65) (q : S65) (is : Bool) (AL : Option Addr) (cL : Nat) (AD : Option Addr) (cD : Nat), e = .returned (.tuple #[.agg #[.slice AL 0 cL, .slice AD E2.length cD, .int .i64 0], .agg #[.int .i64 q.f0, .int .i64 q.f1, .int .u64 q.f2, .int .u64 q.f3, .int .u8 q.f4, .int .i64 q.f5], .bool is]) ∧ TK E t E2 q is ∧
      Kd.R k65 65 w' w.heap.size (fun _ => True) (.slice AL 0 cL) ([] : List S65) ∧ Kd.R k65 65 w' w.heap.size (fun _ => True) (.slice AD E2.length cD) E2 ∧ Below w.heap.size w w' := by
  by_cases hi : atIdx t E 0 < 0
  · have hf : queue_Take.f [] E 0 t = some ([], E, 0, 0, 0, 0, 0, 0, 0, false) := by
      unfold queue_Take.f
      rw [if_pos ⟨by simp, by omega⟩, if_pos hi]
    refine (queue_Take.calls A0 c0 [] A1 c1 E 0 t _ _ _ _ _ _ _ _ _ _ w hr0 (Nat.zero_le _) hr1 hc1 hf).mono ?_
    rintro e w' ⟨v0, v1, rfl, h0, h1, hb⟩
    obtain ⟨AL, cL, rfl⟩ := Kd.R_slice h0
    obtain ⟨AD, cD, rfl⟩ := Kd.R_slice h1
    exact ⟨E, ⟨0, 0, 0, 0, 0, 0⟩, false, AL, cL, AD, cD, rfl, .inl ⟨rfl, rfl, (at_none (by omega)).1 hi⟩, Kd.R_mono h0 (fun _ _ => trivial), Kd.R_mono h1 (fun _ _ => trivial), hb⟩
  · rcases at_from t E 0 with h | ⟨j, h1, h2, h3⟩
    · have h' : atIdx t E 0 = -1 := h
      omega
    · have h1' : atIdx t E 0 = (j : Int) := by rw [show (j : Int) = ((0 + j : Nat) : Int) by omega]; exact h1
      have hf : queue_Take.f [] E 0 t = some ([], E.eraseIdx j, 0, (E.getD j z65).f0, (E.getD j z65).f1, (E.getD j z65).f2, (E.getD j z65).f3, (E.getD j z65).f4, (E.getD j z65).f5, true) := by
        unfold queue_Take.f
        rw [if_pos ⟨by simp, by omega⟩, if_neg hi, h1', Int.toNat_natCast]
      refine (queue_Take.calls A0 c0 [] A1 c1 E 0 t _ _ _ _ _ _ _ _ _ _ w hr0 (Nat.zero_le _) hr1 hc1 hf).mono ?_
      rintro e w' ⟨v0, v1, rfl, g0, g1, hb⟩
      obtain ⟨AL, cL, rfl⟩ := Kd.R_slice g0
      obtain ⟨AD, cD, rfl⟩ := Kd.R_slice g1
      exact ⟨E.eraseIdx j, E.getD j z65, true, AL, cL, AD, cD, rfl, .inr ⟨rfl, j, h2, rfl, rfl, h3⟩, Kd.R_mono g0 (fun _ _ => trivial), Kd.R_mono g1 (fun _ _ => trivial), hb⟩
theorem take_nil (A0 : Option Addr) (c0 : Nat) (A1 : Option Addr) (c1 : Nat) (t : Int) (w : World) (hr0 : Kd.C k65 w A0 0 ([] : List S65)) (hr1 : Kd.C k65 w A1 0 ([] : List S65)) :
    Calls Try.prog 54 #[.agg #[.slice A0 0 c0, .slice A1 0 c1, .int .i64 0], .int .i64 t] w fun e w' => ∃ (q : S65) (AL : Option Addr) (cL : Nat) (AD : Option Addr) (cD : Nat), e = .returned (.tuple #[.agg #[.slice AL 0 cL, .slice AD 0 cD, .int .i64 0], .agg #[.int .i64 q.f0, .int .i64 q.f1, .int .u64 q.f2, .int .u64 q.f3, .int .u8 q.f4, .int .i64 q.f5], .bool false]) ∧ Below w.heap.size w w' := by
  refine (take_at0 A0 c0 A1 c1 [] t w hr0 hr1 (Nat.zero_le _) (by simp)).mono ?_
  rintro e w' ⟨E2, q, is, AL, cL, AD, cD, rfl, hk, -, -, hb⟩
  rcases hk with ⟨rfl, rfl, -⟩ | ⟨-, i, hi, -⟩
  · exact ⟨q, AL, cL, AD, cD, rfl, hb⟩
  · simp at hi
/-- Taken by its task: those that stay are of other tasks. -/
theorem take_law {E E2 : List S65} {t : Nat} {q : S65} {is : Bool} (hn : (E.map S65.f0).Nodup) (hr : ∀ x ∈ E, (t : Int) ≤ x.f0 ∧ x.f0 < 20) (h : TK E t E2 q is) :
    (E2.map S65.f0).Nodup ∧ (∀ x ∈ E2, ((t + 1 : Nat) : Int) ≤ x.f0 ∧ x.f0 < 20) ∧ (is = true → q.f0 = t ∧ E2.length + 1 = E.length) ∧ (is = false → E2 = E) := by
  rcases h with ⟨rfl, rfl, hno⟩ | ⟨rfl, i, hi, rfl, rfl, hq⟩
  · refine ⟨hn, fun x hx => ?_, fun h => (by cases h), fun _ => rfl⟩
    have := hr x hx
    have := hno x hx
    omega
  · have hsub := List.eraseIdx_sublist E i
    have hlen := List.length_eraseIdx_of_lt hi
    refine ⟨(hsub.map S65.f0).nodup hn, fun x hx => ?_, fun _ => ⟨hq, by omega⟩, fun h => (by cases h)⟩
    have hxE := hsub.subset hx
    have := hr x hxE
    have hne : x.f0 ≠ t := by
      intro e
      rw [List.mem_eraseIdx_iff_getElem] at hx
      obtain ⟨k, hk1, hk2, hk3⟩ := hx
      have hpw := List.pairwise_iff_getElem.1 hn
      have hqi : (E.getD i z65).f0 = (E[i]'hi).f0 := by rw [List.getD_eq_getElem?_getD, List.getElem?_eq_getElem hi]; rfl
      have hee : (E[k]'hk1).f0 = (E[i]'hi).f0 := by rw [hk3, e, ← hq, hqi]
      rcases Nat.lt_trichotomy k i with g | g | g
      · exact hpw k i (by simpa using hk1) (by simpa using hi) g (by simpa using hee)
      · exact hk2 g
      · exact hpw i k (by simpa using hi) (by simpa using hk1) g (by simpa using hee.symm)
    omega
theorem take_end {E : List S65} (hr : ∀ x ∈ E, ((20 : Nat) : Int) ≤ x.f0 ∧ x.f0 < 20) : E = [] := by
  cases E with
  | nil => rfl
  | cons x xs => have := hr x List.mem_cons_self; omega
theorem rd_done (er : Int) (L : List S65) (j : Nat) (h : j < L.length) : rd_T65 (L.map (sayDone er)) (j : Int) = sayDone er (L.getD j z65) := by
  rw [rd65_nat, List.getD_eq_getElem?_getD, List.getD_eq_getElem?_getD, List.getElem?_map, List.getElem?_eq_getElem h]
  rfl
theorem rd_f0 (L : List S65) (j : Nat) (h : j < L.length) : rd (L.map S65.f0) (j : Int) = (L.getD j z65).f0 := by
  rw [rdi_nat, List.getD_eq_getElem?_getD, List.getD_eq_getElem?_getD, List.getElem?_map, List.getElem?_eq_getElem h]
  rfl
theorem inf65q : (Try.prog.info? 65).map (fun i => i.size) = some 6 := by kernel_rfl

set_option maxHeartbeats 16000000 in
set_option maxRecDepth 100000 in
theorem fails_walk (A0 : Option Addr) (c0 : Nat) (l0 : List S61) (a1 : Int) (w : World) (hr0 : Kd.C k61 w A0 l0.length l0) (hc0 : l0.length ≤ c0) (hl0 : l0.length ≤ 9223372036854775807) (hu : ∀ x ∈ l0, OpOk x) :
    Calls Try.prog 13 #[.slice A0 l0.length c0, .int .i64 a1] w fun e w' => e = .returned (.bool true) ∧ Below w.heap.size w w' := by
  obtain ⟨M, hM⟩ : ∃ M : Nat, (if (60 : Int) < (l0.length : Int) then (60 : Int) else (l0.length : Int)) = (M : Int) := ⟨_, (Int.toNat_of_nonneg (by split <;> omega)).symm⟩
  have hM1 : M ≤ l0.length := by split at hM <;> omega
  have hM80 : M ≤ 60 := by split at hM <;> omega
  obtain ⟨i61, hi61, hs61⟩ := Option.map_eq_some_iff.1 inf61
  have hcut := cut_to (P := Try.prog) 55 61 .i64 Try.underlying55 hi61 A0 l0.length c0 (M : Int) (by omega) (by omega) hc0
  rw [Int.toNat_natCast] at hcut
  have hr2 := Kd.C_take hr0 hM1
  have hu2 : ∀ x ∈ l0.take M, OpOk x := fun x hx => hu x (List.mem_of_mem_take hx)
  have hl2 : (l0.take M).length = M := by rw [List.length_take]; omega
  generalize l0.take M = l2 at hr2 hu2 hl2
  rw [← hl2] at hM hM1 hM80 hcut
  clear hl2 hi61 hs61
  have HR1 := Aside0.mk hr2
  have HU := Aside0.mk hu2
  have HB := Aside0.mk (Below.refl w.heap.size w)
  clear hr0 hc0 hu hr2 hu2
  go_enter Try.func13, Try.ntmps13
  go_wp2_with (first | ((with_reducible refine gate_dst (N := 5) rfl ?_); refine box_event ?hg (N := 5) ?hd (cs := #[.slice none 0 0, .slice none 0 0, .int .i64 0]) (t := 58) ?hr ?_; (case hd => rfl); (case hg => rfl); (case hr => first | (go_simp; done) | (go_simp; rfl)); intro gb5 hg w3 hbox hb; have GE_gb5 := Aside0.mk (show w.heap.size ≤ gb5 from by rw [hg]; exact below_size (by repeat (first | (with_reducible first | exact HB.out | apply below_alloc | apply pw_below_drewN | apply below_drew1) | exact HB.out))); clear hg; have n_HB := Aside0.mk (below_step (by repeat (first | (with_reducible first | exact HB.out | apply below_alloc | apply pw_below_drewN | apply below_drew1) | exact HB.out)) hb); skip; clear HB hb; have HB := n_HB; clear n_HB; have BK5 := Aside0.mk hbox; clear hbox; have bk5_0 := (blk_cell BK5.out 0).trans (show _ = some (.slice none 0 0) from rfl); have bk5_1 := (blk_cell BK5.out 1).trans (show _ = some (.slice none 0 0) from rfl); have bk5_2 := (blk_cell BK5.out 2).trans (show _ = some (.int .i64 0) from rfl); have bk5_f := fun i => blk_frozen BK5.out i))
  clear hM hcut hM1
  clear bk5_0 bk5_1 bk5_2 bk5_f
  go_loopw [6, 27] (fun v6 v27 wr => ∃ (i : Nat) (L D : List S65) (g last : Int) (AL : Option Addr) (cL : Nat) (AD : Option Addr) (cD : Nat), i ≤ l2.length ∧ v27 = .int .i64 i ∧ v6 = .int .u64 last ∧ Aside0 (Inv i L D g) ∧ Aside0 (wr.heap[gb5]? = some (.cells #[.slice AL L.length cL, .slice AD D.length cD, .int .i64 g] 58 (0, 0))) ∧ Aside0 (Kd.R k65 65 wr w.heap.size (fun _ => True) (.slice AL L.length cL) L) ∧ Aside0 (Kd.R k65 65 wr w.heap.size (fun _ => True) (.slice AD D.length cD) D) ∧ Aside0 (Below w.heap.size w wr)) (fun v6 v27 _ => l2.length - (intOf v27).toNat)
  case atStart => exact ⟨0, [], [], 0, 0, none, 0, none, 0, Nat.zero_le _, rfl, rfl, ⟨inv0⟩, ⟨BK5.out⟩, ⟨Kd.R_nil _ _ _ _ _⟩, ⟨Kd.R_nil _ _ _ _ _⟩, HB⟩
  case round =>
    clear BK5 HB
    obtain ⟨i, L, D, g, last, AL, cL, AD, cD, hi, rfl, rfl, HI, BK5, HO0, HO1, HB⟩ := hrel
    rename World => wo
    have hwb : w.heap.size ≤ wo.heap.size := below_size HB.out
    by_cases hlt : i < l2.length
    · obtain ⟨ad, e0, hx0, hx1, hx2, hx3, hx4, hx5⟩ := at_T61 HR1.out (i : Int) (by omega) (by omega)
      subst e0
      replace hx0 := (HB.out.cell (World.block_lt_of_cell? w _ hx0)).trans hx0
      replace hx1 := (HB.out.cell (World.block_lt_of_cell? w _ hx1)).trans hx1
      replace hx2 := (HB.out.cell (World.block_lt_of_cell? w _ hx2)).trans hx2
      replace hx3 := (HB.out.cell (World.block_lt_of_cell? w _ hx3)).trans hx3
      replace hx4 := (HB.out.cell (World.block_lt_of_cell? w _ hx4)).trans hx4
      replace hx5 := (HB.out.cell (World.block_lt_of_cell? w _ hx5)).trans hx5
      have hot : rd_T61 l2 (i : Int) ∈ l2 := by rw [show rd_T61 l2 (i : Int) = l2.getD i z61 by simp [rd_T61], List.getD_eq_getElem?_getD, List.getElem?_eq_getElem hlt]; exact List.getElem_mem _
      have HK := Aside0.mk (HU.out _ hot)
      simp only [Int.toNat_natCast] at hx0 hx1 hx2 hx3 hx4 hx5
      generalize rd_T61 l2 (i : Int) = o at hx0 hx1 hx2 hx3 hx4 hx5 HK
      clear hot
      have bk5_0 := (blk_cell BK5.out 0).trans (show _ = some (.slice AL L.length cL) from rfl); have bk5_1 := (blk_cell BK5.out 1).trans (show _ = some (.slice AD D.length cD) from rfl); have bk5_2 := (blk_cell BK5.out 2).trans (show _ = some (.int .i64 g) from rfl); have bk5_f := fun i => blk_frozen BK5.out i
      go_upto_region 6 with (first | ((with_reducible refine gate_dst (N := 8) rfl ?_); refine box_event ?hg (N := 8) ?hd (cs := #[.int .u8 0, .int .i64 0, .int .i64 0, .int .i64 0, .int .u64 0, .int .i64 0]) (t := 61) ?hr ?_; (case hd => rfl); (case hg => rfl); (case hr => first | (go_simp; done) | (go_simp; rfl)); intro gb8 hg w3 hbox hb; have NE_gb5_gb8 := Aside0.mk (show gb5 ≠ gb8 from by rw [hg]; exact Nat.ne_of_lt (blk_lt (o := .cells #[.slice AL L.length cL, .slice AD D.length cD, .int .i64 g] 58 (0, 0)) (by (with_reducible repeat (first | refine blk_drewN ?_ _ | refine blk_drew ?_ | refine blk_alloc ?_ _)); exact BK5.out))); have GE_gb8 := Aside0.mk (show w.heap.size ≤ gb8 from by rw [hg]; exact below_size (by repeat (first | (with_reducible first | exact HB.out | apply below_alloc | apply pw_below_drewN | apply below_drew1) | exact HB.out))); clear hg; have n_BK5 := Aside0.mk (blk_below (g := gb5) (o := .cells #[.slice AL L.length cL, .slice AD D.length cD, .int .i64 g] 58 (0, 0)) (by (with_reducible repeat (first | refine blk_drewN ?_ _ | refine blk_drew ?_ | refine blk_alloc ?_ _)); exact BK5.out) hb); have n_HO0 := Aside0.mk (Kd.R_below (by (with_reducible repeat (first | apply Kd.R_alloc | apply Kd.R_drewN | apply Kd.R_drew)); exact HO0.out) hb); have n_HO1 := Aside0.mk (Kd.R_below (by (with_reducible repeat (first | apply Kd.R_alloc | apply Kd.R_drewN | apply Kd.R_drew)); exact HO1.out) hb); have n_HB := Aside0.mk (below_step (by repeat (first | (with_reducible first | exact HB.out | apply below_alloc | apply pw_below_drewN | apply below_drew1) | exact HB.out)) hb); clear bk5_0 bk5_1 bk5_2 bk5_f; clear BK5 HO0 HO1 HB hb; have BK5 := n_BK5; have HO0 := n_HO0; have HO1 := n_HO1; have HB := n_HB; clear n_BK5 n_HO0 n_HO1 n_HB; have BK8 := Aside0.mk hbox; clear hbox; have bk5_0 := (blk_cell BK5.out 0).trans (show _ = some (.slice AL L.length cL) from rfl); have bk5_1 := (blk_cell BK5.out 1).trans (show _ = some (.slice AD D.length cD) from rfl); have bk5_2 := (blk_cell BK5.out 2).trans (show _ = some (.int .i64 g) from rfl); have bk8_0 := (blk_cell BK8.out 0).trans (show _ = some (.int .u8 0) from rfl); have bk8_1 := (blk_cell BK8.out 1).trans (show _ = some (.int .i64 0) from rfl); have bk8_2 := (blk_cell BK8.out 2).trans (show _ = some (.int .i64 0) from rfl); have bk8_3 := (blk_cell BK8.out 3).trans (show _ = some (.int .i64 0) from rfl); have bk8_4 := (blk_cell BK8.out 4).trans (show _ = some (.int .u64 0) from rfl); have bk8_5 := (blk_cell BK8.out 5).trans (show _ = some (.int .i64 0) from rfl); have bk5_f := fun i => blk_frozen BK5.out i; have bk8_f := fun i => blk_frozen BK8.out i))
      clear hx0 hx1 hx2 hx3 hx4 hx5
      clear bk5_0 bk5_1 bk5_2 bk5_f bk8_0 bk8_1 bk8_2 bk8_3 bk8_4 bk8_5 bk8_f
      have s0_HO0 := Kd.R_set HO0.out BK8.out (by decide) 0 (.int .u8 o.f0)
      have s0_HO1 := Kd.R_set HO1.out BK8.out (by decide) 0 (.int .u8 o.f0)
      have s0_BK5 := blk_far BK5.out (p := ⟨gb8, 0, none⟩) NE_gb5_gb8.out (.int .u8 o.f0)
      have s0_BK8 := blk_put (cs' := #[.int .u8 o.f0, .int .i64 0, .int .i64 0, .int .i64 0, .int .u64 0, .int .i64 0]) BK8.out 0 (.int .u8 o.f0) rfl
      have s0_HB := below_set (j := 0) (v := .int .u8 o.f0) HB.out GE_gb8.out
      have s1_HO0 := Kd.R_set s0_HO0 s0_BK8 (by decide) 1 (.int .i64 o.f1)
      have s1_HO1 := Kd.R_set s0_HO1 s0_BK8 (by decide) 1 (.int .i64 o.f1)
      have s1_BK5 := blk_far s0_BK5 (p := ⟨gb8, 1, none⟩) NE_gb5_gb8.out (.int .i64 o.f1)
      have s1_BK8 := blk_put (cs' := #[.int .u8 o.f0, .int .i64 o.f1, .int .i64 0, .int .i64 0, .int .u64 0, .int .i64 0]) s0_BK8 1 (.int .i64 o.f1) rfl
      have s1_HB := below_set (j := 1) (v := .int .i64 o.f1) s0_HB GE_gb8.out
      have s2_HO0 := Kd.R_set s1_HO0 s1_BK8 (by decide) 2 (.int .i64 o.f2)
      have s2_HO1 := Kd.R_set s1_HO1 s1_BK8 (by decide) 2 (.int .i64 o.f2)
      have s2_BK5 := blk_far s1_BK5 (p := ⟨gb8, 2, none⟩) NE_gb5_gb8.out (.int .i64 o.f2)
      have s2_BK8 := blk_put (cs' := #[.int .u8 o.f0, .int .i64 o.f1, .int .i64 o.f2, .int .i64 0, .int .u64 0, .int .i64 0]) s1_BK8 2 (.int .i64 o.f2) rfl
      have s2_HB := below_set (j := 2) (v := .int .i64 o.f2) s1_HB GE_gb8.out
      have s3_HO0 := Kd.R_set s2_HO0 s2_BK8 (by decide) 3 (.int .i64 o.f3)
      have s3_HO1 := Kd.R_set s2_HO1 s2_BK8 (by decide) 3 (.int .i64 o.f3)
      have s3_BK5 := blk_far s2_BK5 (p := ⟨gb8, 3, none⟩) NE_gb5_gb8.out (.int .i64 o.f3)
      have s3_BK8 := blk_put (cs' := #[.int .u8 o.f0, .int .i64 o.f1, .int .i64 o.f2, .int .i64 o.f3, .int .u64 0, .int .i64 0]) s2_BK8 3 (.int .i64 o.f3) rfl
      have s3_HB := below_set (j := 3) (v := .int .i64 o.f3) s2_HB GE_gb8.out
      have s4_HO0 := Kd.R_set s3_HO0 s3_BK8 (by decide) 4 (.int .u64 o.f4)
      have s4_HO1 := Kd.R_set s3_HO1 s3_BK8 (by decide) 4 (.int .u64 o.f4)
      have s4_BK5 := blk_far s3_BK5 (p := ⟨gb8, 4, none⟩) NE_gb5_gb8.out (.int .u64 o.f4)
      have s4_BK8 := blk_put (cs' := #[.int .u8 o.f0, .int .i64 o.f1, .int .i64 o.f2, .int .i64 o.f3, .int .u64 o.f4, .int .i64 0]) s3_BK8 4 (.int .u64 o.f4) rfl
      have s4_HB := below_set (j := 4) (v := .int .u64 o.f4) s3_HB GE_gb8.out
      have s5_HO0 := Kd.R_set s4_HO0 s4_BK8 (by decide) 5 (.int .i64 o.f5)
      have s5_HO1 := Kd.R_set s4_HO1 s4_BK8 (by decide) 5 (.int .i64 o.f5)
      have s5_BK5 := blk_far s4_BK5 (p := ⟨gb8, 5, none⟩) NE_gb5_gb8.out (.int .i64 o.f5)
      have s5_BK8 := blk_put (cs' := #[.int .u8 o.f0, .int .i64 o.f1, .int .i64 o.f2, .int .i64 o.f3, .int .u64 o.f4, .int .i64 o.f5]) s4_BK8 5 (.int .i64 o.f5) rfl
      have s5_HB := below_set (j := 5) (v := .int .i64 o.f5) s4_HB GE_gb8.out
      have n_BK5 := Aside0.mk s5_BK5
      have n_BK8 := Aside0.mk s5_BK8
      have n_HO0 := Aside0.mk s5_HO0
      have n_HO1 := Aside0.mk s5_HO1
      have n_HB := Aside0.mk s5_HB
      clear s0_BK5 s0_BK8 s0_HO0 s0_HO1 s0_HB
      clear s1_BK5 s1_BK8 s1_HO0 s1_HO1 s1_HB
      clear s2_BK5 s2_BK8 s2_HO0 s2_HO1 s2_HB
      clear s3_BK5 s3_BK8 s3_HO0 s3_HO1 s3_HB
      clear s4_BK5 s4_BK8 s4_HO0 s4_HO1 s4_HB
      clear s5_BK5 s5_BK8 s5_HO0 s5_HO1 s5_HB
      clear BK5 BK8 HO0 HO1 HB
      generalize ((((((w3.setCell ⟨gb8, 0, none⟩ (.int .u8 o.f0)).setCell ⟨gb8, 1, none⟩ (.int .i64 o.f1)).setCell ⟨gb8, 2, none⟩ (.int .i64 o.f2)).setCell ⟨gb8, 3, none⟩ (.int .i64 o.f3)).setCell ⟨gb8, 4, none⟩ (.int .u64 o.f4)).setCell ⟨gb8, 5, none⟩ (.int .i64 o.f5)) = w4 at n_BK5 n_BK8 n_HO0 n_HO1 n_HB ⊢
      have BK5 := n_BK5
      have BK8 := n_BK8
      have HO0 := n_HO0
      have HO1 := n_HO1
      have HB := n_HB
      clear n_BK5 n_BK8 n_HO0 n_HO1 n_HB
      have bk5_0 := (blk_cell BK5.out 0).trans (show _ = some (.slice AL L.length cL) from rfl); have bk5_1 := (blk_cell BK5.out 1).trans (show _ = some (.slice AD D.length cD) from rfl); have bk5_2 := (blk_cell BK5.out 2).trans (show _ = some (.int .i64 g) from rfl); have bk8_0 := (blk_cell BK8.out 0).trans (show _ = some (.int .u8 o.f0) from rfl); have bk8_1 := (blk_cell BK8.out 1).trans (show _ = some (.int .i64 o.f1) from rfl); have bk8_2 := (blk_cell BK8.out 2).trans (show _ = some (.int .i64 o.f2) from rfl); have bk8_3 := (blk_cell BK8.out 3).trans (show _ = some (.int .i64 o.f3) from rfl); have bk8_4 := (blk_cell BK8.out 4).trans (show _ = some (.int .u64 o.f4) from rfl); have bk8_5 := (blk_cell BK8.out 5).trans (show _ = some (.int .i64 o.f5) from rfl); have bk5_f := fun i => blk_frozen BK5.out i; have bk8_f := fun i => blk_frozen BK8.out i
      have hwb4 : w.heap.size ≤ w4.heap.size := below_size HB.out
      go_upto_region 7 with (first | (go_at_call 39; (with_reducible refine (does_at _ _ L _ _ D g o last _ _ i _ (Kd.R_reads' HO0.out).2.2 (Kd.R_reads' HO0.out).2.1 (Kd.R_reads' HO1.out).2.2 (Kd.R_reads' HO1.out).2.1 HI.out (by omega) HK.out).mono ?_); rintro e w5 ⟨L2, D2, g2, last2, ts, AL2, cL2, AD2, cD2, AT, cT, rfl, hd, hi2, ho0, ho1, hot, hb⟩; have HI2 := Aside0.mk hi2; have n_BK5 := Aside0.mk (blk_below BK5.out hb); have n_BK8 := Aside0.mk (blk_below BK8.out hb); have n_HO2 := Aside0.mk (Kd.R_lower ho0 hwb4); have n_HO3 := Aside0.mk (Kd.R_lower ho1 hwb4); have n_HB := Aside0.mk (below_step HB.out hb); clear bk5_0 bk5_1 bk5_2 bk5_f bk8_0 bk8_1 bk8_2 bk8_3 bk8_4 bk8_5 bk8_f; clear BK5 BK8 HB HO0 HO1; have BK5 := n_BK5; have BK8 := n_BK8; have HO2 := n_HO2; have HO3 := n_HO3; have HB := n_HB; clear n_BK5 n_BK8 n_HO2 n_HO3 n_HB; have bk5_0 := (blk_cell BK5.out 0).trans (show _ = some (.slice AL L.length cL) from rfl); have bk5_1 := (blk_cell BK5.out 1).trans (show _ = some (.slice AD D.length cD) from rfl); have bk5_2 := (blk_cell BK5.out 2).trans (show _ = some (.int .i64 g) from rfl); have bk8_0 := (blk_cell BK8.out 0).trans (show _ = some (.int .u8 o.f0) from rfl); have bk8_1 := (blk_cell BK8.out 1).trans (show _ = some (.int .i64 o.f1) from rfl); have bk8_2 := (blk_cell BK8.out 2).trans (show _ = some (.int .i64 o.f2) from rfl); have bk8_3 := (blk_cell BK8.out 3).trans (show _ = some (.int .i64 o.f3) from rfl); have bk8_4 := (blk_cell BK8.out 4).trans (show _ = some (.int .u64 o.f4) from rfl); have bk8_5 := (blk_cell BK8.out 5).trans (show _ = some (.int .i64 o.f5) from rfl); have bk5_f := fun i => blk_frozen BK5.out i; have bk8_f := fun i => blk_frozen BK8.out i; clear hd hi2 ho0 ho1 hot hb))
      clear HI hwb4
      clear bk5_0 bk5_1 bk5_2 bk5_f bk8_0 bk8_1 bk8_2 bk8_3 bk8_4 bk8_5 bk8_f
      have s0_HO2 := Kd.R_set HO2.out BK5.out (by decide) 0 (.slice AL2 L2.length cL2)
      have s0_HO3 := Kd.R_set HO3.out BK5.out (by decide) 0 (.slice AL2 L2.length cL2)
      have s0_BK5 := blk_put (cs' := #[.slice AL2 L2.length cL2, .slice AD D.length cD, .int .i64 g]) BK5.out 0 (.slice AL2 L2.length cL2) rfl
      have s0_BK8 := blk_far BK8.out (p := ⟨gb5, 0, none⟩) (Ne.symm NE_gb5_gb8.out) (.slice AL2 L2.length cL2)
      have s0_HB := below_set (j := 0) (v := .slice AL2 L2.length cL2) HB.out GE_gb5.out
      have s1_HO2 := Kd.R_set s0_HO2 s0_BK5 (by decide) 1 (.slice AD2 D2.length cD2)
      have s1_HO3 := Kd.R_set s0_HO3 s0_BK5 (by decide) 1 (.slice AD2 D2.length cD2)
      have s1_BK5 := blk_put (cs' := #[.slice AL2 L2.length cL2, .slice AD2 D2.length cD2, .int .i64 g]) s0_BK5 1 (.slice AD2 D2.length cD2) rfl
      have s1_BK8 := blk_far s0_BK8 (p := ⟨gb5, 1, none⟩) (Ne.symm NE_gb5_gb8.out) (.slice AD2 D2.length cD2)
      have s1_HB := below_set (j := 1) (v := .slice AD2 D2.length cD2) s0_HB GE_gb5.out
      have s2_HO2 := Kd.R_set s1_HO2 s1_BK5 (by decide) 2 (.int .i64 g2)
      have s2_HO3 := Kd.R_set s1_HO3 s1_BK5 (by decide) 2 (.int .i64 g2)
      have s2_BK5 := blk_put (cs' := #[.slice AL2 L2.length cL2, .slice AD2 D2.length cD2, .int .i64 g2]) s1_BK5 2 (.int .i64 g2) rfl
      have s2_BK8 := blk_far s1_BK8 (p := ⟨gb5, 2, none⟩) (Ne.symm NE_gb5_gb8.out) (.int .i64 g2)
      have s2_HB := below_set (j := 2) (v := .int .i64 g2) s1_HB GE_gb5.out
      have n_BK5 := Aside0.mk s2_BK5
      have n_BK8 := Aside0.mk s2_BK8
      have n_HO2 := Aside0.mk s2_HO2
      have n_HO3 := Aside0.mk s2_HO3
      have n_HB := Aside0.mk s2_HB
      clear s0_BK5 s0_BK8 s0_HO2 s0_HO3 s0_HB
      clear s1_BK5 s1_BK8 s1_HO2 s1_HO3 s1_HB
      clear s2_BK5 s2_BK8 s2_HO2 s2_HO3 s2_HB
      clear BK5 BK8 HO2 HO3 HB
      generalize (((w5.setCell ⟨gb5, 0, none⟩ (.slice AL2 L2.length cL2)).setCell ⟨gb5, 1, none⟩ (.slice AD2 D2.length cD2)).setCell ⟨gb5, 2, none⟩ (.int .i64 g2)) = w6 at n_BK5 n_BK8 n_HO2 n_HO3 n_HB ⊢
      have BK5 := n_BK5
      have BK8 := n_BK8
      have HO2 := n_HO2
      have HO3 := n_HO3
      have HB := n_HB
      clear n_BK5 n_BK8 n_HO2 n_HO3 n_HB
      have bk5_0 := (blk_cell BK5.out 0).trans (show _ = some (.slice AL2 L2.length cL2) from rfl); have bk5_1 := (blk_cell BK5.out 1).trans (show _ = some (.slice AD2 D2.length cD2) from rfl); have bk5_2 := (blk_cell BK5.out 2).trans (show _ = some (.int .i64 g2) from rfl); have bk8_0 := (blk_cell BK8.out 0).trans (show _ = some (.int .u8 o.f0) from rfl); have bk8_1 := (blk_cell BK8.out 1).trans (show _ = some (.int .i64 o.f1) from rfl); have bk8_2 := (blk_cell BK8.out 2).trans (show _ = some (.int .i64 o.f2) from rfl); have bk8_3 := (blk_cell BK8.out 3).trans (show _ = some (.int .i64 o.f3) from rfl); have bk8_4 := (blk_cell BK8.out 4).trans (show _ = some (.int .u64 o.f4) from rfl); have bk8_5 := (blk_cell BK8.out 5).trans (show _ = some (.int .i64 o.f5) from rfl); have bk5_f := fun i => blk_frozen BK5.out i; have bk8_f := fun i => blk_frozen BK8.out i
      go_wp2
      go_roundw
      case rel => exact ⟨i + 1, L2, D2, g2, last2, AL2, cL2, AD2, cD2, by omega, by go_num, rfl, HI2, BK5, HO2, HO3, HB⟩
      case measure => simp [intOf]; omega
    · obtain rfl : i = l2.length := by omega
      have hLD : L.length + D.length ≤ 60 := by have := HI.out.len; omega
      have HND := Aside0.mk HI.out.nod
      have HRG := Aside0.mk HI.out.rng
      clear HI
      have bk5_0 := (blk_cell BK5.out 0).trans (show _ = some (.slice AL L.length cL) from rfl); have bk5_1 := (blk_cell BK5.out 1).trans (show _ = some (.slice AD D.length cD) from rfl); have bk5_2 := (blk_cell BK5.out 2).trans (show _ = some (.int .i64 g) from rfl); have bk5_f := fun i => blk_frozen BK5.out i
      go_upto_region 9 with (first | (go_at_call 52; (with_reducible refine (fail_at _ _ L _ _ D g a1 _ (Kd.R_reads' HO0.out).2.2 (Kd.R_reads' HO0.out).2.1 (Kd.R_reads' HO1.out).2.2 (Kd.R_reads' HO1.out).2.1 (by omega)).mono ?_); rintro e w5 ⟨E, ts, AF, cF, AE, cE, AT, cT, rfl, hE, hT, ho0, ho1, hot, hb⟩; have HE := Aside0.mk hE; have HTS := Aside0.mk hT; have n_BK5 := Aside0.mk (blk_below BK5.out hb); have n_HO0 := Aside0.mk (Kd.R_below HO0.out hb); have n_HO1 := Aside0.mk (Kd.R_below HO1.out hb); have n_HO2 := Aside0.mk (Kd.R_lower ho0 hwb); have n_HO3 := Aside0.mk (Kd.R_lower ho1 hwb); have n_HT := Aside0.mk (Kd.R_lower hot hwb); have n_HB := Aside0.mk (below_step HB.out hb); clear bk5_0 bk5_1 bk5_2 bk5_f; clear BK5 HO0 HO1 HB; have BK5 := n_BK5; have HO0 := n_HO0; have HO1 := n_HO1; have HO2 := n_HO2; have HO3 := n_HO3; have HT := n_HT; have HB := n_HB; clear n_BK5 n_HO0 n_HO1 n_HO2 n_HO3 n_HT n_HB; have bk5_0 := (blk_cell BK5.out 0).trans (show _ = some (.slice AL L.length cL) from rfl); have bk5_1 := (blk_cell BK5.out 1).trans (show _ = some (.slice AD D.length cD) from rfl); have bk5_2 := (blk_cell BK5.out 2).trans (show _ = some (.int .i64 g) from rfl); have bk5_f := fun i => blk_frozen BK5.out i; clear hE hT ho0 ho1 hot hb) | ((with_reducible refine gate_dst (N := 9) rfl ?_); refine box_event ?hg (N := 9) ?hd (cs := #[.slice none 0 0, .slice none 0 0, .int .i64 0]) (t := 58) ?hr ?_; (case hd => rfl); (case hg => rfl); (case hr => first | (go_simp; done) | (go_simp; rfl)); intro gb9 hg w3 hbox hb; have NE_gb5_gb9 := Aside0.mk (show gb5 ≠ gb9 from by rw [hg]; exact Nat.ne_of_lt (blk_lt (o := .cells #[.slice AL L.length cL, .slice AD D.length cD, .int .i64 g] 58 (0, 0)) (by (with_reducible repeat (first | refine blk_drewN ?_ _ | refine blk_drew ?_ | refine blk_alloc ?_ _)); exact BK5.out))); have GE_gb9 := Aside0.mk (show w.heap.size ≤ gb9 from by rw [hg]; exact below_size (by repeat (first | (with_reducible first | exact HB.out | apply below_alloc | apply pw_below_drewN | apply below_drew1) | exact HB.out))); clear hg; have n_BK5 := Aside0.mk (blk_below (g := gb5) (o := .cells #[.slice AL L.length cL, .slice AD D.length cD, .int .i64 g] 58 (0, 0)) (by (with_reducible repeat (first | refine blk_drewN ?_ _ | refine blk_drew ?_ | refine blk_alloc ?_ _)); exact BK5.out) hb); have n_HO0 := Aside0.mk (Kd.R_below (by (with_reducible repeat (first | apply Kd.R_alloc | apply Kd.R_drewN | apply Kd.R_drew)); exact HO0.out) hb); have n_HO1 := Aside0.mk (Kd.R_below (by (with_reducible repeat (first | apply Kd.R_alloc | apply Kd.R_drewN | apply Kd.R_drew)); exact HO1.out) hb); have n_HO2 := Aside0.mk (Kd.R_below (by (with_reducible repeat (first | apply Kd.R_alloc | apply Kd.R_drewN | apply Kd.R_drew)); exact HO2.out) hb); have n_HO3 := Aside0.mk (Kd.R_below (by (with_reducible repeat (first | apply Kd.R_alloc | apply Kd.R_drewN | apply Kd.R_drew)); exact HO3.out) hb); have n_HT := Aside0.mk (Kd.R_below (by (with_reducible repeat (first | apply Kd.R_alloc | apply Kd.R_drewN | apply Kd.R_drew)); exact HT.out) hb); have n_HB := Aside0.mk (below_step (by repeat (first | (with_reducible first | exact HB.out | apply below_alloc | apply pw_below_drewN | apply below_drew1) | exact HB.out)) hb); clear bk5_0 bk5_1 bk5_2 bk5_f; clear BK5 HO0 HO1 HO2 HO3 HT HB hb; have BK5 := n_BK5; have HO0 := n_HO0; have HO1 := n_HO1; have HO2 := n_HO2; have HO3 := n_HO3; have HT := n_HT; have HB := n_HB; clear n_BK5 n_HO0 n_HO1 n_HO2 n_HO3 n_HT n_HB; have BK9 := Aside0.mk hbox; clear hbox; have bk5_0 := (blk_cell BK5.out 0).trans (show _ = some (.slice AL L.length cL) from rfl); have bk5_1 := (blk_cell BK5.out 1).trans (show _ = some (.slice AD D.length cD) from rfl); have bk5_2 := (blk_cell BK5.out 2).trans (show _ = some (.int .i64 g) from rfl); have bk9_0 := (blk_cell BK9.out 0).trans (show _ = some (.slice none 0 0) from rfl); have bk9_1 := (blk_cell BK9.out 1).trans (show _ = some (.slice none 0 0) from rfl); have bk9_2 := (blk_cell BK9.out 2).trans (show _ = some (.int .i64 0) from rfl); have bk5_f := fun i => blk_frozen BK5.out i; have bk9_f := fun i => blk_frozen BK9.out i))
      clear bk5_0 bk5_1 bk5_2 bk5_f bk9_0 bk9_1 bk9_2 bk9_f
      have s0_HO0 := Kd.R_set HO0.out BK9.out (by decide) 0 (.slice AF 0 cF)
      have s0_HO1 := Kd.R_set HO1.out BK9.out (by decide) 0 (.slice AF 0 cF)
      have s0_HO2 := Kd.R_set HO2.out BK9.out (by decide) 0 (.slice AF 0 cF)
      have s0_HO3 := Kd.R_set HO3.out BK9.out (by decide) 0 (.slice AF 0 cF)
      have s0_HT := Kd.R_set HT.out BK9.out (by decide) 0 (.slice AF 0 cF)
      have s0_BK5 := blk_far BK5.out (p := ⟨gb9, 0, none⟩) NE_gb5_gb9.out (.slice AF 0 cF)
      have s0_BK9 := blk_put (cs' := #[.slice AF 0 cF, .slice none 0 0, .int .i64 0]) BK9.out 0 (.slice AF 0 cF) rfl
      have s0_HB := below_set (j := 0) (v := .slice AF 0 cF) HB.out GE_gb9.out
      have s1_HO0 := Kd.R_set s0_HO0 s0_BK9 (by decide) 1 (.slice AE E.length cE)
      have s1_HO1 := Kd.R_set s0_HO1 s0_BK9 (by decide) 1 (.slice AE E.length cE)
      have s1_HO2 := Kd.R_set s0_HO2 s0_BK9 (by decide) 1 (.slice AE E.length cE)
      have s1_HO3 := Kd.R_set s0_HO3 s0_BK9 (by decide) 1 (.slice AE E.length cE)
      have s1_HT := Kd.R_set s0_HT s0_BK9 (by decide) 1 (.slice AE E.length cE)
      have s1_BK5 := blk_far s0_BK5 (p := ⟨gb9, 1, none⟩) NE_gb5_gb9.out (.slice AE E.length cE)
      have s1_BK9 := blk_put (cs' := #[.slice AF 0 cF, .slice AE E.length cE, .int .i64 0]) s0_BK9 1 (.slice AE E.length cE) rfl
      have s1_HB := below_set (j := 1) (v := .slice AE E.length cE) s0_HB GE_gb9.out
      have s2_HO0 := Kd.R_set s1_HO0 s1_BK9 (by decide) 2 (.int .i64 0)
      have s2_HO1 := Kd.R_set s1_HO1 s1_BK9 (by decide) 2 (.int .i64 0)
      have s2_HO2 := Kd.R_set s1_HO2 s1_BK9 (by decide) 2 (.int .i64 0)
      have s2_HO3 := Kd.R_set s1_HO3 s1_BK9 (by decide) 2 (.int .i64 0)
      have s2_HT := Kd.R_set s1_HT s1_BK9 (by decide) 2 (.int .i64 0)
      have s2_BK5 := blk_far s1_BK5 (p := ⟨gb9, 2, none⟩) NE_gb5_gb9.out (.int .i64 0)
      have s2_BK9 := blk_put (cs' := #[.slice AF 0 cF, .slice AE E.length cE, .int .i64 0]) s1_BK9 2 (.int .i64 0) rfl
      have s2_HB := below_set (j := 2) (v := .int .i64 0) s1_HB GE_gb9.out
      have n_BK5 := Aside0.mk s2_BK5
      have n_BK9 := Aside0.mk s2_BK9
      have n_HO0 := Aside0.mk s2_HO0
      have n_HO1 := Aside0.mk s2_HO1
      have n_HO2 := Aside0.mk s2_HO2
      have n_HO3 := Aside0.mk s2_HO3
      have n_HT := Aside0.mk s2_HT
      have n_HB := Aside0.mk s2_HB
      clear s0_BK5 s0_BK9 s0_HO0 s0_HO1 s0_HO2 s0_HO3 s0_HT s0_HB
      clear s1_BK5 s1_BK9 s1_HO0 s1_HO1 s1_HO2 s1_HO3 s1_HT s1_HB
      clear s2_BK5 s2_BK9 s2_HO0 s2_HO1 s2_HO2 s2_HO3 s2_HT s2_HB
      clear BK5 BK9 HO0 HO1 HO2 HO3 HT HB
      generalize (((w3.setCell ⟨gb9, 0, none⟩ (.slice AF 0 cF)).setCell ⟨gb9, 1, none⟩ (.slice AE E.length cE)).setCell ⟨gb9, 2, none⟩ (.int .i64 0)) = w6 at n_BK5 n_BK9 n_HO0 n_HO1 n_HO2 n_HO3 n_HT n_HB ⊢
      have BK5 := n_BK5
      have BK9 := n_BK9
      have HO0 := n_HO0
      have HO1 := n_HO1
      have HO2 := n_HO2
      have HO3 := n_HO3
      have HT := n_HT
      have HB := n_HB
      clear n_BK5 n_BK9 n_HO0 n_HO1 n_HO2 n_HO3 n_HT n_HB
      have bk5_0 := (blk_cell BK5.out 0).trans (show _ = some (.slice AL L.length cL) from rfl); have bk5_1 := (blk_cell BK5.out 1).trans (show _ = some (.slice AD D.length cD) from rfl); have bk5_2 := (blk_cell BK5.out 2).trans (show _ = some (.int .i64 g) from rfl); have bk9_0 := (blk_cell BK9.out 0).trans (show _ = some (.slice AF 0 cF) from rfl); have bk9_1 := (blk_cell BK9.out 1).trans (show _ = some (.slice AE E.length cE) from rfl); have bk9_2 := (blk_cell BK9.out 2).trans (show _ = some (.int .i64 0) from rfl); have bk5_f := fun i => blk_frozen BK5.out i; have bk9_f := fun i => blk_frozen BK9.out i
      have hE0 : E.length = D.length + L.length := by rw [HE.out, List.length_append, List.length_map]
      have HEL := Aside0.mk hE0
      have hE1 : E.length ≤ D.length + L.length := by omega
      have hE2 : D.length + L.length ≤ E.length := by omega
      have hq1 : ((E.length : Int) == (D.length : Int) + (L.length : Int)) = true := beq_iff_eq.2 (by omega)
      have hq3 : ((E.length : Int) != (D.length : Int) + (L.length : Int)) = false := by rw [bne, hq1]; rfl
      have hq2 : (E.length == D.length + L.length) = true := beq_iff_eq.2 (by omega)
      obtain ⟨i65, hi65, hs65⟩ := Option.map_eq_some_iff.1 inf65q
      have hcutE := cut_to (P := Try.prog) 56 65 .i64 Try.underlying56 hi65 AE E.length cE (D.length : Int) (by omega) (by omega) (Kd.R_reads' HO3.out).2.1
      rw [Int.toNat_natCast] at hcutE
      have hcutF := cut_from (P := Try.prog) 56 65 .i64 Try.underlying56 hi65 6 hs65 AE E.length cE (D.length : Int) (by omega) (by omega)
      rw [Int.toNat_natCast] at hcutF
      obtain ⟨Az, hAz⟩ : ∃ Az, (if cE = D.length then AE else AE.map (·.add (D.length * 6))) = Az := ⟨_, rfl⟩
      rw [hAz, show E.length - D.length = L.length by omega] at hcutF
      have hdE : E.drop D.length = L.map (sayDone a1) := by rw [HE.out, List.drop_left]
      have htE : E.take D.length = D := by rw [HE.out, List.take_left]
      have hcd := Kd.C_drop (Kd.R_reads' HO3.out).2.2 (m := D.length) (c := cE) (by omega) (Kd.R_reads' HO3.out).2.1
      rw [show k65.sz = 6 from rfl, hAz, hdE, List.length_map] at hcd
      have HDC := Aside0.mk hcd
      have hct := Kd.C_take (Kd.R_reads' HO3.out).2.2 (m := D.length) (by omega)
      rw [htE] at hct
      have HTC := Aside0.mk hct
      have C1 := Aside0.mk (Kd.R_reads' HO1.out).2.2
      have C1l : Aside0 (D.length ≤ cD) := ⟨(Kd.R_reads' HO1.out).2.1⟩
      have HCE : Aside0 (D.length ≤ cE) := ⟨by have := (Kd.R_reads' HO3.out).2.1; omega⟩
      have HD1 : Aside0 (D.length ≤ 1000) := ⟨by omega⟩
      clear hE0 hi65 hs65 hAz hdE htE hcd hct
      go_quiet (first | (go_at_call 59; refine Calls.quiet_of (members_q _ _ _ _ D _ (Kd.C_drewN HTC.out _) HCE.out (Kd.C_drewN C1.out _) C1l.out HD1.out)))
      clear hq1 hq2 hq3
      go_wp2
      clear hcutE hcutF bk5_0 bk5_1 bk5_2 bk5_f bk9_0 bk9_1 bk9_2 bk9_f HTC C1 C1l HCE
      have HBo := HB
      clear HB
      go_loopw [95] (fun v95 wr => ∃ j : Nat, j ≤ L.length ∧ v95 = .int .i64 j ∧ Aside0 (Below w6.heap.size w6 wr)) (fun v95 _ => L.length - (intOf v95).toNat)
      case atStart => exact ⟨0, Nat.zero_le _, rfl, ⟨by repeat (first | exact Below.refl _ _ | apply pw_below_drewN | apply below_drew1)⟩⟩
      case round =>
        obtain ⟨j, hj, rfl, HB⟩ := hrel
        rename World => wy
        by_cases hlj : j < L.length
        · obtain ⟨ad2, e2, hy0, hy1, hy2, hy3, hy4, hy5⟩ := at_T65 HDC.out (j : Int) (by omega) (by omega)
          subst e2
          obtain ⟨ad3, e3, hz0, hz1, hz2, hz3, hz4, hz5⟩ := at_T65 (Kd.R_reads' HO0.out).2.2 (j : Int) (by omega) (by omega)
          subst e3
          clear hz1 hz2 hz4 hz5
          have hct := (Kd.R_reads' HT.out).2.2
          have hctl : ts.length = L.length := by rw [HTS.out, List.length_map]
          obtain ⟨ad4, e4, ht⟩ := Kd.at_int hct (j : Int) (by omega) (by omega)
          subst e4
          clear hct hctl
          rw [HTS.out, rd_f0 L j hlj] at ht
          simp only [rd_done a1 L j hlj, rd65_nat, Int.toNat_natCast] at hy0 hy1 hy2 hy3 hy4 hy5 hz0 hz3 ht
          generalize L.getD j z65 = y at hy0 hy1 hy2 hy3 hy4 hy5 hz0 hz3 ht
          simp only [sayDone] at hy0 hy1 hy2 hy3 hy4 hy5
          have BK5z := Aside0.mk (blk_below (g := gb5) (o := .cells #[.slice (some ad3) L.length cL, .slice AD D.length cD, .int .i64 g] 58 (0, 0)) BK5.out HB.out)
          replace hy0 := (HB.out.cell (World.block_lt_of_cell? w6 _ hy0)).trans hy0
          replace hy1 := (HB.out.cell (World.block_lt_of_cell? w6 _ hy1)).trans hy1
          replace hy2 := (HB.out.cell (World.block_lt_of_cell? w6 _ hy2)).trans hy2
          replace hy3 := (HB.out.cell (World.block_lt_of_cell? w6 _ hy3)).trans hy3
          replace hy4 := (HB.out.cell (World.block_lt_of_cell? w6 _ hy4)).trans hy4
          replace hy5 := (HB.out.cell (World.block_lt_of_cell? w6 _ hy5)).trans hy5
          have bk5z_0 := (blk_cell BK5z.out 0).trans (show _ = some (.slice (some ad3) L.length cL) from rfl); have bk5z_1 := (blk_cell BK5z.out 1).trans (show _ = some (.slice AD D.length cD) from rfl); have bk5z_2 := (blk_cell BK5z.out 2).trans (show _ = some (.int .i64 g) from rfl); have bk5z_f := fun i => blk_frozen BK5z.out i
          go_upto_region 14 with (first | ((with_reducible refine gate_dst (N := 12) rfl ?_); refine box_event ?hg (N := 12) ?hd (cs := #[.int .i64 0, .int .i64 0, .int .u64 0, .int .u64 0, .int .u8 0, .int .i64 0]) (t := 65) ?hr ?_; (case hd => rfl); (case hg => rfl); (case hr => first | (go_simp; done) | (go_simp; rfl)); intro gb12 hg w3 hbox hb; have NE_gb5_gb12 := Aside0.mk (show gb5 ≠ gb12 from by rw [hg]; exact Nat.ne_of_lt (blk_lt (o := .cells #[.slice (some ad3) L.length cL, .slice AD D.length cD, .int .i64 g] 58 (0, 0)) (by (with_reducible repeat (first | refine blk_drewN ?_ _ | refine blk_drew ?_ | refine blk_alloc ?_ _)); exact BK5z.out))); have GE_gb12 := Aside0.mk (show w6.heap.size ≤ gb12 from by rw [hg]; exact below_size (by repeat (first | (with_reducible first | exact HB.out | apply below_alloc | apply pw_below_drewN | apply below_drew1) | exact HB.out))); clear hg; have n_BK5z := Aside0.mk (blk_below (g := gb5) (o := .cells #[.slice (some ad3) L.length cL, .slice AD D.length cD, .int .i64 g] 58 (0, 0)) (by (with_reducible repeat (first | refine blk_drewN ?_ _ | refine blk_drew ?_ | refine blk_alloc ?_ _)); exact BK5z.out) hb); have n_HB := Aside0.mk (below_step (by repeat (first | (with_reducible first | exact HB.out | apply below_alloc | apply pw_below_drewN | apply below_drew1) | exact HB.out)) hb); clear bk5z_0 bk5z_1 bk5z_2 bk5z_f; clear BK5z HB hb; have BK5z := n_BK5z; have HB := n_HB; clear n_BK5z n_HB; have BK12 := Aside0.mk hbox; clear hbox; have bk5z_0 := (blk_cell BK5z.out 0).trans (show _ = some (.slice (some ad3) L.length cL) from rfl); have bk5z_1 := (blk_cell BK5z.out 1).trans (show _ = some (.slice AD D.length cD) from rfl); have bk5z_2 := (blk_cell BK5z.out 2).trans (show _ = some (.int .i64 g) from rfl); have bk12_0 := (blk_cell BK12.out 0).trans (show _ = some (.int .i64 0) from rfl); have bk12_1 := (blk_cell BK12.out 1).trans (show _ = some (.int .i64 0) from rfl); have bk12_2 := (blk_cell BK12.out 2).trans (show _ = some (.int .u64 0) from rfl); have bk12_3 := (blk_cell BK12.out 3).trans (show _ = some (.int .u64 0) from rfl); have bk12_4 := (blk_cell BK12.out 4).trans (show _ = some (.int .u8 0) from rfl); have bk12_5 := (blk_cell BK12.out 5).trans (show _ = some (.int .i64 0) from rfl); have bk5z_f := fun i => blk_frozen BK5z.out i; have bk12_f := fun i => blk_frozen BK12.out i))
          clear hy0 hy1 hy2 hy3 hy4 hy5
          clear bk5z_0 bk5z_1 bk5z_2 bk5z_f bk12_0 bk12_1 bk12_2 bk12_3 bk12_4 bk12_5 bk12_f
          have s0_BK5z := blk_far BK5z.out (p := ⟨gb12, 0, none⟩) NE_gb5_gb12.out (.int .i64 y.f0)
          have s0_BK12 := blk_put (cs' := #[.int .i64 y.f0, .int .i64 0, .int .u64 0, .int .u64 0, .int .u8 0, .int .i64 0]) BK12.out 0 (.int .i64 y.f0) rfl
          have s0_HB := below_set (j := 0) (v := .int .i64 y.f0) HB.out GE_gb12.out
          have s1_BK5z := blk_far s0_BK5z (p := ⟨gb12, 1, none⟩) NE_gb5_gb12.out (.int .i64 y.f1)
          have s1_BK12 := blk_put (cs' := #[.int .i64 y.f0, .int .i64 y.f1, .int .u64 0, .int .u64 0, .int .u8 0, .int .i64 0]) s0_BK12 1 (.int .i64 y.f1) rfl
          have s1_HB := below_set (j := 1) (v := .int .i64 y.f1) s0_HB GE_gb12.out
          have s2_BK5z := blk_far s1_BK5z (p := ⟨gb12, 2, none⟩) NE_gb5_gb12.out (.int .u64 y.f2)
          have s2_BK12 := blk_put (cs' := #[.int .i64 y.f0, .int .i64 y.f1, .int .u64 y.f2, .int .u64 0, .int .u8 0, .int .i64 0]) s1_BK12 2 (.int .u64 y.f2) rfl
          have s2_HB := below_set (j := 2) (v := .int .u64 y.f2) s1_HB GE_gb12.out
          have s3_BK5z := blk_far s2_BK5z (p := ⟨gb12, 3, none⟩) NE_gb5_gb12.out (.int .u64 y.f3)
          have s3_BK12 := blk_put (cs' := #[.int .i64 y.f0, .int .i64 y.f1, .int .u64 y.f2, .int .u64 y.f3, .int .u8 0, .int .i64 0]) s2_BK12 3 (.int .u64 y.f3) rfl
          have s3_HB := below_set (j := 3) (v := .int .u64 y.f3) s2_HB GE_gb12.out
          have s4_BK5z := blk_far s3_BK5z (p := ⟨gb12, 4, none⟩) NE_gb5_gb12.out (.int .u8 3)
          have s4_BK12 := blk_put (cs' := #[.int .i64 y.f0, .int .i64 y.f1, .int .u64 y.f2, .int .u64 y.f3, .int .u8 3, .int .i64 0]) s3_BK12 4 (.int .u8 3) rfl
          have s4_HB := below_set (j := 4) (v := .int .u8 3) s3_HB GE_gb12.out
          have s5_BK5z := blk_far s4_BK5z (p := ⟨gb12, 5, none⟩) NE_gb5_gb12.out (.int .i64 a1)
          have s5_BK12 := blk_put (cs' := #[.int .i64 y.f0, .int .i64 y.f1, .int .u64 y.f2, .int .u64 y.f3, .int .u8 3, .int .i64 a1]) s4_BK12 5 (.int .i64 a1) rfl
          have s5_HB := below_set (j := 5) (v := .int .i64 a1) s4_HB GE_gb12.out
          have n_BK5z := Aside0.mk s5_BK5z
          have n_BK12 := Aside0.mk s5_BK12
          have n_HB := Aside0.mk s5_HB
          clear s0_BK5z s0_BK12 s0_HB
          clear s1_BK5z s1_BK12 s1_HB
          clear s2_BK5z s2_BK12 s2_HB
          clear s3_BK5z s3_BK12 s3_HB
          clear s4_BK5z s4_BK12 s4_HB
          clear s5_BK5z s5_BK12 s5_HB
          clear BK5z BK12 HB
          generalize ((((((w3.setCell ⟨gb12, 0, none⟩ (.int .i64 y.f0)).setCell ⟨gb12, 1, none⟩ (.int .i64 y.f1)).setCell ⟨gb12, 2, none⟩ (.int .u64 y.f2)).setCell ⟨gb12, 3, none⟩ (.int .u64 y.f3)).setCell ⟨gb12, 4, none⟩ (.int .u8 3)).setCell ⟨gb12, 5, none⟩ (.int .i64 a1)) = w4 at n_BK5z n_BK12 n_HB ⊢
          have BK5z := n_BK5z
          have BK12 := n_BK12
          have HB := n_HB
          clear n_BK5z n_BK12 n_HB
          have bk5z_0 := (blk_cell BK5z.out 0).trans (show _ = some (.slice (some ad3) L.length cL) from rfl); have bk5z_1 := (blk_cell BK5z.out 1).trans (show _ = some (.slice AD D.length cD) from rfl); have bk5z_2 := (blk_cell BK5z.out 2).trans (show _ = some (.int .i64 g) from rfl); have bk12_0 := (blk_cell BK12.out 0).trans (show _ = some (.int .i64 y.f0) from rfl); have bk12_1 := (blk_cell BK12.out 1).trans (show _ = some (.int .i64 y.f1) from rfl); have bk12_2 := (blk_cell BK12.out 2).trans (show _ = some (.int .u64 y.f2) from rfl); have bk12_3 := (blk_cell BK12.out 3).trans (show _ = some (.int .u64 y.f3) from rfl); have bk12_4 := (blk_cell BK12.out 4).trans (show _ = some (.int .u8 3) from rfl); have bk12_5 := (blk_cell BK12.out 5).trans (show _ = some (.int .i64 a1) from rfl); have bk5z_f := fun i => blk_frozen BK5z.out i; have bk12_f := fun i => blk_frozen BK12.out i
          replace hz0 := (HB.out.cell (World.block_lt_of_cell? w6 _ hz0)).trans hz0
          replace hz3 := (HB.out.cell (World.block_lt_of_cell? w6 _ hz3)).trans hz3
          replace ht := (HB.out.cell (World.block_lt_of_cell? w6 _ ht)).trans ht
          go_quiet (fail)
          go_wp2
          go_roundw
          case rel => exact ⟨j + 1, by omega, by go_num, ⟨by repeat (first | exact HB.out | apply pw_below_drewN | apply below_drew1)⟩⟩
          case measure => simp [intOf]; omega
        · obtain rfl : j = L.length := by omega
          have n_BK9 := Aside0.mk (blk_below (g := gb9) (o := .cells #[.slice AF 0 cF, .slice AE E.length cE, .int .i64 0] 58 (0, 0)) BK9.out HB.out)
          have n_HO2 := Aside0.mk (Kd.R_below HO2.out HB.out)
          have n_HO3 := Aside0.mk (Kd.R_below HO3.out HB.out)
          have n_HB := Aside0.mk (below_step HBo.out HB.out)
          have TN : Aside0 ((E.map S65.f0).Nodup) := ⟨by
            have hp : (E.map S65.f0).Perm ((L ++ D).map S65.f0) := by
              rw [HE.out, List.map_append, List.map_append, done_f0]
              exact List.perm_append_comm
            exact hp.nodup_iff.2 HND.out⟩
          have TR : Aside0 (∀ x ∈ E, ((0 : Nat) : Int) ≤ x.f0 ∧ x.f0 < 20) := ⟨fun x hx => rng_f0 (L := L) (D := D) (L' := E) (D' := []) HRG.out (fun t ht => by
            rw [List.append_nil, HE.out, List.map_append, done_f0] at ht
            rw [List.map_append]
            rcases List.mem_append.1 ht with h | h
            · exact List.mem_append_right _ h
            · exact List.mem_append_left _ h) x (by rw [List.append_nil]; exact hx)⟩
          have hE60 : E.length ≤ 60 := by omega
          clear BK9 HO2 HO3 HB HBo HO0 HO1 HT HDC BK5 HND HRG HTS HE HEL hE1 hE2 hLD
          have BK9 := n_BK9; have HO2 := n_HO2; have HO3 := n_HO3; have HB := n_HB
          clear n_BK9 n_HO2 n_HO3 n_HB
          rename World => wz
          have bk9_0 := (blk_cell BK9.out 0).trans (show _ = some (.slice AF 0 cF) from rfl); have bk9_1 := (blk_cell BK9.out 1).trans (show _ = some (.slice AE E.length cE) from rfl); have bk9_2 := (blk_cell BK9.out 2).trans (show _ = some (.int .i64 0) from rfl); have bk9_f := fun i => blk_frozen BK9.out i
          go_wp2
          clear bk9_0 bk9_1 bk9_2 bk9_f
          go_loopw [13, 144] (fun v13 v144 wr => ∃ (t : Nat) (E1 : List S65) (AF1 : Option Addr) (cF1 : Nat) (AE1 : Option Addr) (cE1 : Nat), t ≤ 20 ∧ v144 = .int .i64 t ∧ v13 = .int .i64 E1.length ∧ E1.length ≤ 60 ∧ Aside0 ((E1.map S65.f0).Nodup) ∧ Aside0 (∀ x ∈ E1, ((t : Nat) : Int) ≤ x.f0 ∧ x.f0 < 20) ∧ Aside0 (wr.heap[gb9]? = some (.cells #[.slice AF1 0 cF1, .slice AE1 E1.length cE1, .int .i64 0] 58 (0, 0))) ∧ Aside0 (Kd.R k65 65 wr w.heap.size (fun _ => True) (.slice AF1 0 cF1) ([] : List S65)) ∧ Aside0 (Kd.R k65 65 wr w.heap.size (fun _ => True) (.slice AE1 E1.length cE1) E1) ∧ Aside0 (Below w.heap.size w wr)) (fun v13 v144 _ => 20 - (intOf v144).toNat)
          case atStart => exact ⟨0, E, AF, cF, AE, cE, by omega, rfl, by go_num, hE60, TN, TR, BK9, HO2, HO3, HB⟩
          case round =>
            clear BK9 HO2 HO3 HB TN TR hE60 hwb
            obtain ⟨t, E1, AF1, cF1, AE1, cE1, ht, rfl, rfl, hE1, TN, TR, BK9, HO2, HO3, HB⟩ := hrel
            rename World => wt
            have hwb : w.heap.size ≤ wt.heap.size := below_size HB.out
            by_cases hlt2 : t < 20
            · have bk9_0 := (blk_cell BK9.out 0).trans (show _ = some (.slice AF1 0 cF1) from rfl); have bk9_1 := (blk_cell BK9.out 1).trans (show _ = some (.slice AE1 E1.length cE1) from rfl); have bk9_2 := (blk_cell BK9.out 2).trans (show _ = some (.int .i64 0) from rfl); have bk9_f := fun i => blk_frozen BK9.out i
              go_upto_region 22 with (first | (go_at_call 54; (with_reducible refine (take_at0 _ _ _ _ E1 (t : Int) _ (Kd.R_reads' HO2.out).2.2 (Kd.R_reads' HO3.out).2.2 (Kd.R_reads' HO3.out).2.1 (by omega)).mono ?_); rintro e w5 ⟨E2, q, is, AF2, cF2, AE2, cE2, rfl, hk, ho0, ho1, hb⟩; have LAW := Aside0.mk (take_law TN.out TR.out hk); have n_BK9 := Aside0.mk (blk_below BK9.out hb); have n_HO4 := Aside0.mk (Kd.R_lower ho0 hwb); have n_HO5 := Aside0.mk (Kd.R_lower ho1 hwb); have n_HB := Aside0.mk (below_step HB.out hb); clear bk9_0 bk9_1 bk9_2 bk9_f; clear BK9 HB HO2 HO3; have BK9 := n_BK9; have HO4 := n_HO4; have HO5 := n_HO5; have HB := n_HB; clear n_BK9 n_HO4 n_HO5 n_HB; have bk9_0 := (blk_cell BK9.out 0).trans (show _ = some (.slice AF1 0 cF1) from rfl); have bk9_1 := (blk_cell BK9.out 1).trans (show _ = some (.slice AE1 E1.length cE1) from rfl); have bk9_2 := (blk_cell BK9.out 2).trans (show _ = some (.int .i64 0) from rfl); have bk9_f := fun i => blk_frozen BK9.out i; clear hk ho0 ho1 hb) | ((with_reducible refine gate_dst (N := 15) rfl ?_); refine box_event ?hg (N := 15) ?hd (cs := #[.slice none 0 0, .slice none 0 0, .int .i64 0]) (t := 58) ?hr ?_; (case hd => rfl); (case hg => rfl); (case hr => first | (go_simp; done) | (go_simp; rfl)); intro gb15 hg w3 hbox hb; have NE_gb9_gb15 := Aside0.mk (show gb9 ≠ gb15 from by rw [hg]; exact Nat.ne_of_lt (blk_lt (o := .cells #[.slice AF1 0 cF1, .slice AE1 E1.length cE1, .int .i64 0] 58 (0, 0)) (by (with_reducible repeat (first | refine blk_drewN ?_ _ | refine blk_drew ?_ | refine blk_alloc ?_ _)); exact BK9.out))); have GE_gb15 := Aside0.mk (show w.heap.size ≤ gb15 from by rw [hg]; exact below_size (by repeat (first | (with_reducible first | exact HB.out | apply below_alloc | apply pw_below_drewN | apply below_drew1) | exact HB.out))); clear hg; have n_BK9 := Aside0.mk (blk_below (g := gb9) (o := .cells #[.slice AF1 0 cF1, .slice AE1 E1.length cE1, .int .i64 0] 58 (0, 0)) (by (with_reducible repeat (first | refine blk_drewN ?_ _ | refine blk_drew ?_ | refine blk_alloc ?_ _)); exact BK9.out) hb); have n_HO4 := Aside0.mk (Kd.R_below (by (with_reducible repeat (first | apply Kd.R_alloc | apply Kd.R_drewN | apply Kd.R_drew)); exact HO4.out) hb); have n_HO5 := Aside0.mk (Kd.R_below (by (with_reducible repeat (first | apply Kd.R_alloc | apply Kd.R_drewN | apply Kd.R_drew)); exact HO5.out) hb); have n_HB := Aside0.mk (below_step (by repeat (first | (with_reducible first | exact HB.out | apply below_alloc | apply pw_below_drewN | apply below_drew1) | exact HB.out)) hb); clear bk9_0 bk9_1 bk9_2 bk9_f; clear BK9 HO4 HO5 HB hb; have BK9 := n_BK9; have HO4 := n_HO4; have HO5 := n_HO5; have HB := n_HB; clear n_BK9 n_HO4 n_HO5 n_HB; have BK15 := Aside0.mk hbox; clear hbox; have bk9_0 := (blk_cell BK9.out 0).trans (show _ = some (.slice AF1 0 cF1) from rfl); have bk9_1 := (blk_cell BK9.out 1).trans (show _ = some (.slice AE1 E1.length cE1) from rfl); have bk9_2 := (blk_cell BK9.out 2).trans (show _ = some (.int .i64 0) from rfl); have bk15_0 := (blk_cell BK15.out 0).trans (show _ = some (.slice none 0 0) from rfl); have bk15_1 := (blk_cell BK15.out 1).trans (show _ = some (.slice none 0 0) from rfl); have bk15_2 := (blk_cell BK15.out 2).trans (show _ = some (.int .i64 0) from rfl); have bk9_f := fun i => blk_frozen BK9.out i; have bk15_f := fun i => blk_frozen BK15.out i) | ((with_reducible refine gate_dst (N := 16) rfl ?_); refine box_event ?hg (N := 16) ?hd (cs := #[.int .i64 0, .int .i64 0, .int .u64 0, .int .u64 0, .int .u8 0, .int .i64 0]) (t := 65) ?hr ?_; (case hd => rfl); (case hg => rfl); (case hr => first | (go_simp; done) | (go_simp; rfl)); intro gb16 hg w3 hbox hb; have NE_gb9_gb16 := Aside0.mk (show gb9 ≠ gb16 from by rw [hg]; exact Nat.ne_of_lt (blk_lt (o := .cells #[.slice AF1 0 cF1, .slice AE1 E1.length cE1, .int .i64 0] 58 (0, 0)) (by (with_reducible repeat (first | refine blk_drewN ?_ _ | refine blk_drew ?_ | refine blk_alloc ?_ _)); exact BK9.out))); have NE_gb15_gb16 := Aside0.mk (show gb15 ≠ gb16 from by rw [hg]; exact Nat.ne_of_lt (blk_lt (o := .cells #[.slice none 0 0, .slice none 0 0, .int .i64 0] 58 (0, 0)) (by (with_reducible repeat (first | refine blk_drewN ?_ _ | refine blk_drew ?_ | refine blk_alloc ?_ _)); exact BK15.out))); have X4 : Aside0 (some gb16 ≠ (.slice AF2 0 cF2 : Value).ownBlock) := ⟨fun e => by have := Kd.R_lt HO4.out gb16 e.symm; rw [hg] at this; exact absurd this (Nat.lt_irrefl _)⟩; have X5 : Aside0 (some gb16 ≠ (.slice AE2 E2.length cE2 : Value).ownBlock) := ⟨fun e => by have := Kd.R_lt HO5.out gb16 e.symm; rw [hg] at this; exact absurd this (Nat.lt_irrefl _)⟩; have GE_gb16 := Aside0.mk (show w.heap.size ≤ gb16 from by rw [hg]; exact below_size (by repeat (first | (with_reducible first | exact HB.out | apply below_alloc | apply pw_below_drewN | apply below_drew1) | exact HB.out))); clear hg; have n_BK9 := Aside0.mk (blk_below (g := gb9) (o := .cells #[.slice AF1 0 cF1, .slice AE1 E1.length cE1, .int .i64 0] 58 (0, 0)) (by (with_reducible repeat (first | refine blk_drewN ?_ _ | refine blk_drew ?_ | refine blk_alloc ?_ _)); exact BK9.out) hb); have n_BK15 := Aside0.mk (blk_below (g := gb15) (o := .cells #[.slice none 0 0, .slice none 0 0, .int .i64 0] 58 (0, 0)) (by (with_reducible repeat (first | refine blk_drewN ?_ _ | refine blk_drew ?_ | refine blk_alloc ?_ _)); exact BK15.out) hb); have n_HO4 := Aside0.mk (Kd.R_below (by (with_reducible repeat (first | apply Kd.R_alloc | apply Kd.R_drewN | apply Kd.R_drew)); exact HO4.out) hb); have n_HO5 := Aside0.mk (Kd.R_below (by (with_reducible repeat (first | apply Kd.R_alloc | apply Kd.R_drewN | apply Kd.R_drew)); exact HO5.out) hb); have n_HB := Aside0.mk (below_step (by repeat (first | (with_reducible first | exact HB.out | apply below_alloc | apply pw_below_drewN | apply below_drew1) | exact HB.out)) hb); clear bk9_0 bk9_1 bk9_2 bk9_f bk15_0 bk15_1 bk15_2 bk15_f; clear BK9 BK15 HO4 HO5 HB hb; have BK9 := n_BK9; have BK15 := n_BK15; have HO4 := n_HO4; have HO5 := n_HO5; have HB := n_HB; clear n_BK9 n_BK15 n_HO4 n_HO5 n_HB; have BK16 := Aside0.mk hbox; clear hbox; have bk9_0 := (blk_cell BK9.out 0).trans (show _ = some (.slice AF1 0 cF1) from rfl); have bk9_1 := (blk_cell BK9.out 1).trans (show _ = some (.slice AE1 E1.length cE1) from rfl); have bk9_2 := (blk_cell BK9.out 2).trans (show _ = some (.int .i64 0) from rfl); have bk15_0 := (blk_cell BK15.out 0).trans (show _ = some (.slice none 0 0) from rfl); have bk15_1 := (blk_cell BK15.out 1).trans (show _ = some (.slice none 0 0) from rfl); have bk15_2 := (blk_cell BK15.out 2).trans (show _ = some (.int .i64 0) from rfl); have bk16_0 := (blk_cell BK16.out 0).trans (show _ = some (.int .i64 0) from rfl); have bk16_1 := (blk_cell BK16.out 1).trans (show _ = some (.int .i64 0) from rfl); have bk16_2 := (blk_cell BK16.out 2).trans (show _ = some (.int .u64 0) from rfl); have bk16_3 := (blk_cell BK16.out 3).trans (show _ = some (.int .u64 0) from rfl); have bk16_4 := (blk_cell BK16.out 4).trans (show _ = some (.int .u8 0) from rfl); have bk16_5 := (blk_cell BK16.out 5).trans (show _ = some (.int .i64 0) from rfl); have bk9_f := fun i => blk_frozen BK9.out i; have bk15_f := fun i => blk_frozen BK15.out i; have bk16_f := fun i => blk_frozen BK16.out i; have n1516 := NE_gb15_gb16.out; have n1615 := Ne.symm NE_gb15_gb16.out; have n915 := NE_gb9_gb15.out; have n159 := Ne.symm NE_gb9_gb15.out))
              clear n1516 n1615
              clear bk9_0 bk9_1 bk9_2 bk9_f bk15_0 bk15_1 bk15_2 bk15_f bk16_0 bk16_1 bk16_2 bk16_3 bk16_4 bk16_5 bk16_f
              have s0_HO4 := Kd.R_set HO4.out BK15.out (by decide) 0 (.slice AF2 0 cF2)
              have s0_HO5 := Kd.R_set HO5.out BK15.out (by decide) 0 (.slice AF2 0 cF2)
              have s0_BK9 := blk_far BK9.out (p := ⟨gb15, 0, none⟩) NE_gb9_gb15.out (.slice AF2 0 cF2)
              have s0_BK15 := blk_put (cs' := #[.slice AF2 0 cF2, .slice none 0 0, .int .i64 0]) BK15.out 0 (.slice AF2 0 cF2) rfl
              have s0_BK16 := blk_far BK16.out (p := ⟨gb15, 0, none⟩) (Ne.symm NE_gb15_gb16.out) (.slice AF2 0 cF2)
              have s0_HB := below_set (j := 0) (v := .slice AF2 0 cF2) HB.out GE_gb15.out
              have s1_HO4 := Kd.R_set s0_HO4 s0_BK15 (by decide) 1 (.slice AE2 E2.length cE2)
              have s1_HO5 := Kd.R_set s0_HO5 s0_BK15 (by decide) 1 (.slice AE2 E2.length cE2)
              have s1_BK9 := blk_far s0_BK9 (p := ⟨gb15, 1, none⟩) NE_gb9_gb15.out (.slice AE2 E2.length cE2)
              have s1_BK15 := blk_put (cs' := #[.slice AF2 0 cF2, .slice AE2 E2.length cE2, .int .i64 0]) s0_BK15 1 (.slice AE2 E2.length cE2) rfl
              have s1_BK16 := blk_far s0_BK16 (p := ⟨gb15, 1, none⟩) (Ne.symm NE_gb15_gb16.out) (.slice AE2 E2.length cE2)
              have s1_HB := below_set (j := 1) (v := .slice AE2 E2.length cE2) s0_HB GE_gb15.out
              have s2_HO4 := Kd.R_set s1_HO4 s1_BK15 (by decide) 2 (.int .i64 0)
              have s2_HO5 := Kd.R_set s1_HO5 s1_BK15 (by decide) 2 (.int .i64 0)
              have s2_BK9 := blk_far s1_BK9 (p := ⟨gb15, 2, none⟩) NE_gb9_gb15.out (.int .i64 0)
              have s2_BK15 := blk_put (cs' := #[.slice AF2 0 cF2, .slice AE2 E2.length cE2, .int .i64 0]) s1_BK15 2 (.int .i64 0) rfl
              have s2_BK16 := blk_far s1_BK16 (p := ⟨gb15, 2, none⟩) (Ne.symm NE_gb15_gb16.out) (.int .i64 0)
              have s2_HB := below_set (j := 2) (v := .int .i64 0) s1_HB GE_gb15.out
              have s3_HO4 := far_set (p := ⟨gb16, 0, none⟩) s2_HO4 (X4.out) (.int .i64 q.f0)
              have s3_HO5 := far_set (p := ⟨gb16, 0, none⟩) s2_HO5 (X5.out) (.int .i64 q.f0)
              have s3_BK9 := blk_far s2_BK9 (p := ⟨gb16, 0, none⟩) NE_gb9_gb16.out (.int .i64 q.f0)
              have s3_BK15 := blk_far s2_BK15 (p := ⟨gb16, 0, none⟩) NE_gb15_gb16.out (.int .i64 q.f0)
              have s3_BK16 := blk_put (cs' := #[.int .i64 q.f0, .int .i64 0, .int .u64 0, .int .u64 0, .int .u8 0, .int .i64 0]) s2_BK16 0 (.int .i64 q.f0) rfl
              have s3_HB := below_set (j := 0) (v := .int .i64 q.f0) s2_HB GE_gb16.out
              have s4_HO4 := far_set (p := ⟨gb16, 1, none⟩) s3_HO4 (X4.out) (.int .i64 q.f1)
              have s4_HO5 := far_set (p := ⟨gb16, 1, none⟩) s3_HO5 (X5.out) (.int .i64 q.f1)
              have s4_BK9 := blk_far s3_BK9 (p := ⟨gb16, 1, none⟩) NE_gb9_gb16.out (.int .i64 q.f1)
              have s4_BK15 := blk_far s3_BK15 (p := ⟨gb16, 1, none⟩) NE_gb15_gb16.out (.int .i64 q.f1)
              have s4_BK16 := blk_put (cs' := #[.int .i64 q.f0, .int .i64 q.f1, .int .u64 0, .int .u64 0, .int .u8 0, .int .i64 0]) s3_BK16 1 (.int .i64 q.f1) rfl
              have s4_HB := below_set (j := 1) (v := .int .i64 q.f1) s3_HB GE_gb16.out
              have s5_HO4 := far_set (p := ⟨gb16, 2, none⟩) s4_HO4 (X4.out) (.int .u64 q.f2)
              have s5_HO5 := far_set (p := ⟨gb16, 2, none⟩) s4_HO5 (X5.out) (.int .u64 q.f2)
              have s5_BK9 := blk_far s4_BK9 (p := ⟨gb16, 2, none⟩) NE_gb9_gb16.out (.int .u64 q.f2)
              have s5_BK15 := blk_far s4_BK15 (p := ⟨gb16, 2, none⟩) NE_gb15_gb16.out (.int .u64 q.f2)
              have s5_BK16 := blk_put (cs' := #[.int .i64 q.f0, .int .i64 q.f1, .int .u64 q.f2, .int .u64 0, .int .u8 0, .int .i64 0]) s4_BK16 2 (.int .u64 q.f2) rfl
              have s5_HB := below_set (j := 2) (v := .int .u64 q.f2) s4_HB GE_gb16.out
              have s6_HO4 := far_set (p := ⟨gb16, 3, none⟩) s5_HO4 (X4.out) (.int .u64 q.f3)
              have s6_HO5 := far_set (p := ⟨gb16, 3, none⟩) s5_HO5 (X5.out) (.int .u64 q.f3)
              have s6_BK9 := blk_far s5_BK9 (p := ⟨gb16, 3, none⟩) NE_gb9_gb16.out (.int .u64 q.f3)
              have s6_BK15 := blk_far s5_BK15 (p := ⟨gb16, 3, none⟩) NE_gb15_gb16.out (.int .u64 q.f3)
              have s6_BK16 := blk_put (cs' := #[.int .i64 q.f0, .int .i64 q.f1, .int .u64 q.f2, .int .u64 q.f3, .int .u8 0, .int .i64 0]) s5_BK16 3 (.int .u64 q.f3) rfl
              have s6_HB := below_set (j := 3) (v := .int .u64 q.f3) s5_HB GE_gb16.out
              have s7_HO4 := far_set (p := ⟨gb16, 4, none⟩) s6_HO4 (X4.out) (.int .u8 q.f4)
              have s7_HO5 := far_set (p := ⟨gb16, 4, none⟩) s6_HO5 (X5.out) (.int .u8 q.f4)
              have s7_BK9 := blk_far s6_BK9 (p := ⟨gb16, 4, none⟩) NE_gb9_gb16.out (.int .u8 q.f4)
              have s7_BK15 := blk_far s6_BK15 (p := ⟨gb16, 4, none⟩) NE_gb15_gb16.out (.int .u8 q.f4)
              have s7_BK16 := blk_put (cs' := #[.int .i64 q.f0, .int .i64 q.f1, .int .u64 q.f2, .int .u64 q.f3, .int .u8 q.f4, .int .i64 0]) s6_BK16 4 (.int .u8 q.f4) rfl
              have s7_HB := below_set (j := 4) (v := .int .u8 q.f4) s6_HB GE_gb16.out
              have s8_HO4 := far_set (p := ⟨gb16, 5, none⟩) s7_HO4 (X4.out) (.int .i64 q.f5)
              have s8_HO5 := far_set (p := ⟨gb16, 5, none⟩) s7_HO5 (X5.out) (.int .i64 q.f5)
              have s8_BK9 := blk_far s7_BK9 (p := ⟨gb16, 5, none⟩) NE_gb9_gb16.out (.int .i64 q.f5)
              have s8_BK15 := blk_far s7_BK15 (p := ⟨gb16, 5, none⟩) NE_gb15_gb16.out (.int .i64 q.f5)
              have s8_BK16 := blk_put (cs' := #[.int .i64 q.f0, .int .i64 q.f1, .int .u64 q.f2, .int .u64 q.f3, .int .u8 q.f4, .int .i64 q.f5]) s7_BK16 5 (.int .i64 q.f5) rfl
              have s8_HB := below_set (j := 5) (v := .int .i64 q.f5) s7_HB GE_gb16.out
              have n_BK9 := Aside0.mk s8_BK9
              have n_BK15 := Aside0.mk s8_BK15
              have n_BK16 := Aside0.mk s8_BK16
              have n_HO4 := Aside0.mk s8_HO4
              have n_HO5 := Aside0.mk s8_HO5
              have n_HB := Aside0.mk s8_HB
              clear s0_BK9 s0_BK15 s0_BK16 s0_HO4 s0_HO5 s0_HB
              clear s1_BK9 s1_BK15 s1_BK16 s1_HO4 s1_HO5 s1_HB
              clear s2_BK9 s2_BK15 s2_BK16 s2_HO4 s2_HO5 s2_HB
              clear s3_BK9 s3_BK15 s3_BK16 s3_HO4 s3_HO5 s3_HB
              clear s4_BK9 s4_BK15 s4_BK16 s4_HO4 s4_HO5 s4_HB
              clear s5_BK9 s5_BK15 s5_BK16 s5_HO4 s5_HO5 s5_HB
              clear s6_BK9 s6_BK15 s6_BK16 s6_HO4 s6_HO5 s6_HB
              clear s7_BK9 s7_BK15 s7_BK16 s7_HO4 s7_HO5 s7_HB
              clear s8_BK9 s8_BK15 s8_BK16 s8_HO4 s8_HO5 s8_HB
              clear BK9 BK15 BK16 HO4 HO5 HB
              generalize (((((((((w3.setCell ⟨gb15, 0, none⟩ (.slice AF2 0 cF2)).setCell ⟨gb15, 1, none⟩ (.slice AE2 E2.length cE2)).setCell ⟨gb15, 2, none⟩ (.int .i64 0)).setCell ⟨gb16, 0, none⟩ (.int .i64 q.f0)).setCell ⟨gb16, 1, none⟩ (.int .i64 q.f1)).setCell ⟨gb16, 2, none⟩ (.int .u64 q.f2)).setCell ⟨gb16, 3, none⟩ (.int .u64 q.f3)).setCell ⟨gb16, 4, none⟩ (.int .u8 q.f4)).setCell ⟨gb16, 5, none⟩ (.int .i64 q.f5)) = w7 at n_BK9 n_BK15 n_BK16 n_HO4 n_HO5 n_HB ⊢
              have BK9 := n_BK9
              have BK15 := n_BK15
              have BK16 := n_BK16
              have HO4 := n_HO4
              have HO5 := n_HO5
              have HB := n_HB
              clear n_BK9 n_BK15 n_BK16 n_HO4 n_HO5 n_HB
              have bk9_0 := (blk_cell BK9.out 0).trans (show _ = some (.slice AF1 0 cF1) from rfl); have bk9_1 := (blk_cell BK9.out 1).trans (show _ = some (.slice AE1 E1.length cE1) from rfl); have bk9_2 := (blk_cell BK9.out 2).trans (show _ = some (.int .i64 0) from rfl); have bk15_0 := (blk_cell BK15.out 0).trans (show _ = some (.slice AF2 0 cF2) from rfl); have bk15_1 := (blk_cell BK15.out 1).trans (show _ = some (.slice AE2 E2.length cE2) from rfl); have bk15_2 := (blk_cell BK15.out 2).trans (show _ = some (.int .i64 0) from rfl); have bk16_0 := (blk_cell BK16.out 0).trans (show _ = some (.int .i64 q.f0) from rfl); have bk16_1 := (blk_cell BK16.out 1).trans (show _ = some (.int .i64 q.f1) from rfl); have bk16_2 := (blk_cell BK16.out 2).trans (show _ = some (.int .u64 q.f2) from rfl); have bk16_3 := (blk_cell BK16.out 3).trans (show _ = some (.int .u64 q.f3) from rfl); have bk16_4 := (blk_cell BK16.out 4).trans (show _ = some (.int .u8 q.f4) from rfl); have bk16_5 := (blk_cell BK16.out 5).trans (show _ = some (.int .i64 q.f5) from rfl); have bk9_f := fun i => blk_frozen BK9.out i; have bk15_f := fun i => blk_frozen BK15.out i; have bk16_f := fun i => blk_frozen BK16.out i
              cases is
              case true =>
                obtain ⟨hq0, hq1⟩ := LAW.out.2.2.1 rfl
                rw [hq0] at bk16_0
                have hlen : ((E2.length : Int) == (E1.length : Int) - 1) = true := beq_iff_eq.2 (by omega)
                have hlen2 : ((E2.length : Int) != (E1.length : Int) - 1) = false := by rw [bne, hlen]; rfl
                clear hq0
                go_upto_region 26 with (fail)
                go_wp2
                clear hlen hlen2 n915 n159
                clear bk9_0 bk9_1 bk9_2 bk9_f bk15_0 bk15_1 bk15_2 bk15_f bk16_0 bk16_1 bk16_2 bk16_3 bk16_4 bk16_5 bk16_f
                have s0_HO4 := Kd.R_set HO4.out BK9.out (by decide) 0 (.slice AF2 0 cF2)
                have s0_HO5 := Kd.R_set HO5.out BK9.out (by decide) 0 (.slice AF2 0 cF2)
                have s0_BK9 := blk_put (cs' := #[.slice AF2 0 cF2, .slice AE1 E1.length cE1, .int .i64 0]) BK9.out 0 (.slice AF2 0 cF2) rfl
                have s0_BK15 := blk_far BK15.out (p := ⟨gb9, 0, none⟩) (Ne.symm NE_gb9_gb15.out) (.slice AF2 0 cF2)
                have s0_BK16 := blk_far BK16.out (p := ⟨gb9, 0, none⟩) (Ne.symm NE_gb9_gb16.out) (.slice AF2 0 cF2)
                have s0_HB := below_set (j := 0) (v := .slice AF2 0 cF2) HB.out GE_gb9.out
                have s1_HO4 := Kd.R_set s0_HO4 s0_BK9 (by decide) 1 (.slice AE2 E2.length cE2)
                have s1_HO5 := Kd.R_set s0_HO5 s0_BK9 (by decide) 1 (.slice AE2 E2.length cE2)
                have s1_BK9 := blk_put (cs' := #[.slice AF2 0 cF2, .slice AE2 E2.length cE2, .int .i64 0]) s0_BK9 1 (.slice AE2 E2.length cE2) rfl
                have s1_BK15 := blk_far s0_BK15 (p := ⟨gb9, 1, none⟩) (Ne.symm NE_gb9_gb15.out) (.slice AE2 E2.length cE2)
                have s1_BK16 := blk_far s0_BK16 (p := ⟨gb9, 1, none⟩) (Ne.symm NE_gb9_gb16.out) (.slice AE2 E2.length cE2)
                have s1_HB := below_set (j := 1) (v := .slice AE2 E2.length cE2) s0_HB GE_gb9.out
                have s2_HO4 := Kd.R_set s1_HO4 s1_BK9 (by decide) 2 (.int .i64 0)
                have s2_HO5 := Kd.R_set s1_HO5 s1_BK9 (by decide) 2 (.int .i64 0)
                have s2_BK9 := blk_put (cs' := #[.slice AF2 0 cF2, .slice AE2 E2.length cE2, .int .i64 0]) s1_BK9 2 (.int .i64 0) rfl
                have s2_BK15 := blk_far s1_BK15 (p := ⟨gb9, 2, none⟩) (Ne.symm NE_gb9_gb15.out) (.int .i64 0)
                have s2_BK16 := blk_far s1_BK16 (p := ⟨gb9, 2, none⟩) (Ne.symm NE_gb9_gb16.out) (.int .i64 0)
                have s2_HB := below_set (j := 2) (v := .int .i64 0) s1_HB GE_gb9.out
                have n_BK9 := Aside0.mk s2_BK9
                have n_BK15 := Aside0.mk s2_BK15
                have n_BK16 := Aside0.mk s2_BK16
                have n_HO4 := Aside0.mk s2_HO4
                have n_HO5 := Aside0.mk s2_HO5
                have n_HB := Aside0.mk s2_HB
                clear s0_BK9 s0_BK15 s0_BK16 s0_HO4 s0_HO5 s0_HB
                clear s1_BK9 s1_BK15 s1_BK16 s1_HO4 s1_HO5 s1_HB
                clear s2_BK9 s2_BK15 s2_BK16 s2_HO4 s2_HO5 s2_HB
                clear BK9 BK15 BK16 HO4 HO5 HB
                generalize (((w7.setCell ⟨gb9, 0, none⟩ (.slice AF2 0 cF2)).setCell ⟨gb9, 1, none⟩ (.slice AE2 E2.length cE2)).setCell ⟨gb9, 2, none⟩ (.int .i64 0)) = w8 at n_BK9 n_BK15 n_BK16 n_HO4 n_HO5 n_HB ⊢
                have BK9 := n_BK9
                have BK15 := n_BK15
                have BK16 := n_BK16
                have HO4 := n_HO4
                have HO5 := n_HO5
                have HB := n_HB
                clear n_BK9 n_BK15 n_BK16 n_HO4 n_HO5 n_HB
                have bk9_0 := (blk_cell BK9.out 0).trans (show _ = some (.slice AF2 0 cF2) from rfl); have bk9_1 := (blk_cell BK9.out 1).trans (show _ = some (.slice AE2 E2.length cE2) from rfl); have bk9_2 := (blk_cell BK9.out 2).trans (show _ = some (.int .i64 0) from rfl); have bk15_0 := (blk_cell BK15.out 0).trans (show _ = some (.slice AF2 0 cF2) from rfl); have bk15_1 := (blk_cell BK15.out 1).trans (show _ = some (.slice AE2 E2.length cE2) from rfl); have bk15_2 := (blk_cell BK15.out 2).trans (show _ = some (.int .i64 0) from rfl); have bk16_0 := (blk_cell BK16.out 0).trans (show _ = some (.int .i64 q.f0) from rfl); have bk16_1 := (blk_cell BK16.out 1).trans (show _ = some (.int .i64 q.f1) from rfl); have bk16_2 := (blk_cell BK16.out 2).trans (show _ = some (.int .u64 q.f2) from rfl); have bk16_3 := (blk_cell BK16.out 3).trans (show _ = some (.int .u64 q.f3) from rfl); have bk16_4 := (blk_cell BK16.out 4).trans (show _ = some (.int .u8 q.f4) from rfl); have bk16_5 := (blk_cell BK16.out 5).trans (show _ = some (.int .i64 q.f5) from rfl); have bk9_f := fun i => blk_frozen BK9.out i; have bk15_f := fun i => blk_frozen BK15.out i; have bk16_f := fun i => blk_frozen BK16.out i
                go_roundw
                case rel => exact ⟨t + 1, E2, AF2, cF2, AE2, cE2, by omega, by go_num, by go_num, by omega, ⟨LAW.out.1⟩, ⟨LAW.out.2.1⟩, BK9, HO4, HO5, HB⟩
                case measure => simp [intOf]; omega
              case false =>
                obtain rfl := (LAW.out.2.2.2 rfl).symm
                go_upto_region 26 with (fail)
                go_wp2
                clear n915 n159
                clear bk9_0 bk9_1 bk9_2 bk9_f bk15_0 bk15_1 bk15_2 bk15_f bk16_0 bk16_1 bk16_2 bk16_3 bk16_4 bk16_5 bk16_f
                have s0_HO4 := Kd.R_set HO4.out BK9.out (by decide) 0 (.slice AF2 0 cF2)
                have s0_HO5 := Kd.R_set HO5.out BK9.out (by decide) 0 (.slice AF2 0 cF2)
                have s0_BK9 := blk_put (cs' := #[.slice AF2 0 cF2, .slice AE1 E1.length cE1, .int .i64 0]) BK9.out 0 (.slice AF2 0 cF2) rfl
                have s0_BK15 := blk_far BK15.out (p := ⟨gb9, 0, none⟩) (Ne.symm NE_gb9_gb15.out) (.slice AF2 0 cF2)
                have s0_BK16 := blk_far BK16.out (p := ⟨gb9, 0, none⟩) (Ne.symm NE_gb9_gb16.out) (.slice AF2 0 cF2)
                have s0_HB := below_set (j := 0) (v := .slice AF2 0 cF2) HB.out GE_gb9.out
                have s1_HO4 := Kd.R_set s0_HO4 s0_BK9 (by decide) 1 (.slice AE2 E1.length cE2)
                have s1_HO5 := Kd.R_set s0_HO5 s0_BK9 (by decide) 1 (.slice AE2 E1.length cE2)
                have s1_BK9 := blk_put (cs' := #[.slice AF2 0 cF2, .slice AE2 E1.length cE2, .int .i64 0]) s0_BK9 1 (.slice AE2 E1.length cE2) rfl
                have s1_BK15 := blk_far s0_BK15 (p := ⟨gb9, 1, none⟩) (Ne.symm NE_gb9_gb15.out) (.slice AE2 E1.length cE2)
                have s1_BK16 := blk_far s0_BK16 (p := ⟨gb9, 1, none⟩) (Ne.symm NE_gb9_gb16.out) (.slice AE2 E1.length cE2)
                have s1_HB := below_set (j := 1) (v := .slice AE2 E1.length cE2) s0_HB GE_gb9.out
                have s2_HO4 := Kd.R_set s1_HO4 s1_BK9 (by decide) 2 (.int .i64 0)
                have s2_HO5 := Kd.R_set s1_HO5 s1_BK9 (by decide) 2 (.int .i64 0)
                have s2_BK9 := blk_put (cs' := #[.slice AF2 0 cF2, .slice AE2 E1.length cE2, .int .i64 0]) s1_BK9 2 (.int .i64 0) rfl
                have s2_BK15 := blk_far s1_BK15 (p := ⟨gb9, 2, none⟩) (Ne.symm NE_gb9_gb15.out) (.int .i64 0)
                have s2_BK16 := blk_far s1_BK16 (p := ⟨gb9, 2, none⟩) (Ne.symm NE_gb9_gb16.out) (.int .i64 0)
                have s2_HB := below_set (j := 2) (v := .int .i64 0) s1_HB GE_gb9.out
                have n_BK9 := Aside0.mk s2_BK9
                have n_BK15 := Aside0.mk s2_BK15
                have n_BK16 := Aside0.mk s2_BK16
                have n_HO4 := Aside0.mk s2_HO4
                have n_HO5 := Aside0.mk s2_HO5
                have n_HB := Aside0.mk s2_HB
                clear s0_BK9 s0_BK15 s0_BK16 s0_HO4 s0_HO5 s0_HB
                clear s1_BK9 s1_BK15 s1_BK16 s1_HO4 s1_HO5 s1_HB
                clear s2_BK9 s2_BK15 s2_BK16 s2_HO4 s2_HO5 s2_HB
                clear BK9 BK15 BK16 HO4 HO5 HB
                generalize (((w7.setCell ⟨gb9, 0, none⟩ (.slice AF2 0 cF2)).setCell ⟨gb9, 1, none⟩ (.slice AE2 E1.length cE2)).setCell ⟨gb9, 2, none⟩ (.int .i64 0)) = w8 at n_BK9 n_BK15 n_BK16 n_HO4 n_HO5 n_HB ⊢
                have BK9 := n_BK9
                have BK15 := n_BK15
                have BK16 := n_BK16
                have HO4 := n_HO4
                have HO5 := n_HO5
                have HB := n_HB
                clear n_BK9 n_BK15 n_BK16 n_HO4 n_HO5 n_HB
                have bk9_0 := (blk_cell BK9.out 0).trans (show _ = some (.slice AF2 0 cF2) from rfl); have bk9_1 := (blk_cell BK9.out 1).trans (show _ = some (.slice AE2 E1.length cE2) from rfl); have bk9_2 := (blk_cell BK9.out 2).trans (show _ = some (.int .i64 0) from rfl); have bk15_0 := (blk_cell BK15.out 0).trans (show _ = some (.slice AF2 0 cF2) from rfl); have bk15_1 := (blk_cell BK15.out 1).trans (show _ = some (.slice AE2 E1.length cE2) from rfl); have bk15_2 := (blk_cell BK15.out 2).trans (show _ = some (.int .i64 0) from rfl); have bk16_0 := (blk_cell BK16.out 0).trans (show _ = some (.int .i64 q.f0) from rfl); have bk16_1 := (blk_cell BK16.out 1).trans (show _ = some (.int .i64 q.f1) from rfl); have bk16_2 := (blk_cell BK16.out 2).trans (show _ = some (.int .u64 q.f2) from rfl); have bk16_3 := (blk_cell BK16.out 3).trans (show _ = some (.int .u64 q.f3) from rfl); have bk16_4 := (blk_cell BK16.out 4).trans (show _ = some (.int .u8 q.f4) from rfl); have bk16_5 := (blk_cell BK16.out 5).trans (show _ = some (.int .i64 q.f5) from rfl); have bk9_f := fun i => blk_frozen BK9.out i; have bk15_f := fun i => blk_frozen BK15.out i; have bk16_f := fun i => blk_frozen BK16.out i
                go_roundw
                case rel => exact ⟨t + 1, E1, AF2, cF2, AE2, cE2, by omega, by go_num, by go_num, by omega, ⟨LAW.out.1⟩, ⟨LAW.out.2.1⟩, BK9, HO4, HO5, HB⟩
                case measure => simp [intOf]; omega
            · obtain rfl : t = 20 := by omega
              obtain rfl : E1 = [] := take_end TR.out
              have BK9z : Aside0 (wt.heap[gb9]? = some (.cells #[.slice AF1 0 cF1, .slice AE1 0 cE1, .int .i64 0] 58 (0, 0))) := ⟨BK9.out⟩
              clear BK9
              rw [show ((([] : List S65).length : Nat) : Int) = 0 from rfl]
              have bk9z_0 := (blk_cell BK9z.out 0).trans (show _ = some (.slice AF1 0 cF1) from rfl); have bk9z_1 := (blk_cell BK9z.out 1).trans (show _ = some (.slice AE1 0 cE1) from rfl); have bk9z_2 := (blk_cell BK9z.out 2).trans (show _ = some (.int .i64 0) from rfl); have bk9z_f := fun i => blk_frozen BK9z.out i
              have HZ := Aside0.mk (Below.refl wt.heap.size wt)
              go_upto_region 29 with (first | (go_at_call 54; (with_reducible refine (take_nil _ _ _ _ 3 _ (Kd.C_below (Kd.R_reads' HO2.out).2.2 HZ.out) (Kd.C_below (Kd.R_reads' HO3.out).2.2 HZ.out)).mono ?_); rintro e w5 ⟨q, AL3, cL3, AD3, cD3, rfl, hb⟩; have hsz := below_size (by repeat (first | (with_reducible first | exact HB.out | apply below_alloc | apply pw_below_drewN | apply below_drew1) | exact HB.out)); have n_BK9z := Aside0.mk (blk_below (g := gb9) (o := .cells #[.slice AF1 0 cF1, .slice AE1 0 cE1, .int .i64 0] 58 (0, 0)) (by (with_reducible repeat (first | refine blk_drewN ?_ _ | refine blk_drew ?_ | refine blk_alloc ?_ _)); exact BK9z.out) hb); have n_HB := Aside0.mk (below_step (by repeat (first | (with_reducible first | exact HB.out | apply below_alloc | apply pw_below_drewN | apply below_drew1) | exact HB.out)) hb); clear bk9z_0 bk9z_1 bk9z_2 bk9z_f; clear BK9z HB hb; have BK9z := n_BK9z; have HB := n_HB; clear n_BK9z n_HB; clear hsz; have bk9z_0 := (blk_cell BK9z.out 0).trans (show _ = some (.slice AF1 0 cF1) from rfl); have bk9z_1 := (blk_cell BK9z.out 1).trans (show _ = some (.slice AE1 0 cE1) from rfl); have bk9z_2 := (blk_cell BK9z.out 2).trans (show _ = some (.int .i64 0) from rfl); have bk9z_f := fun i => blk_frozen BK9z.out i) | ((with_reducible refine gate_dst (N := 18) rfl ?_); refine box_event ?hg (N := 18) ?hd (cs := #[.slice none 0 0, .slice none 0 0, .int .i64 0]) (t := 58) ?hr ?_; (case hd => rfl); (case hg => rfl); (case hr => first | (go_simp; done) | (go_simp; rfl)); intro gb18 hg w3 hbox hb; have NE_gb9_gb18 := Aside0.mk (show gb9 ≠ gb18 from by rw [hg]; exact Nat.ne_of_lt (blk_lt (o := .cells #[.slice AF1 0 cF1, .slice AE1 0 cE1, .int .i64 0] 58 (0, 0)) (by (with_reducible repeat (first | refine blk_drewN ?_ _ | refine blk_drew ?_ | refine blk_alloc ?_ _)); exact BK9z.out))); have GE_gb18 := Aside0.mk (show w.heap.size ≤ gb18 from by rw [hg]; exact below_size (by repeat (first | (with_reducible first | exact HB.out | apply below_alloc | apply pw_below_drewN | apply below_drew1) | exact HB.out))); clear hg; have n_BK9z := Aside0.mk (blk_below (g := gb9) (o := .cells #[.slice AF1 0 cF1, .slice AE1 0 cE1, .int .i64 0] 58 (0, 0)) (by (with_reducible repeat (first | refine blk_drewN ?_ _ | refine blk_drew ?_ | refine blk_alloc ?_ _)); exact BK9z.out) hb); have n_HB := Aside0.mk (below_step (by repeat (first | (with_reducible first | exact HB.out | apply below_alloc | apply pw_below_drewN | apply below_drew1) | exact HB.out)) hb); clear bk9z_0 bk9z_1 bk9z_2 bk9z_f; clear BK9z HB hb; have BK9z := n_BK9z; have HB := n_HB; clear n_BK9z n_HB; have BK18 := Aside0.mk hbox; clear hbox; have bk9z_0 := (blk_cell BK9z.out 0).trans (show _ = some (.slice AF1 0 cF1) from rfl); have bk9z_1 := (blk_cell BK9z.out 1).trans (show _ = some (.slice AE1 0 cE1) from rfl); have bk9z_2 := (blk_cell BK9z.out 2).trans (show _ = some (.int .i64 0) from rfl); have bk18_0 := (blk_cell BK18.out 0).trans (show _ = some (.slice none 0 0) from rfl); have bk18_1 := (blk_cell BK18.out 1).trans (show _ = some (.slice none 0 0) from rfl); have bk18_2 := (blk_cell BK18.out 2).trans (show _ = some (.int .i64 0) from rfl); have bk9z_f := fun i => blk_frozen BK9z.out i; have bk18_f := fun i => blk_frozen BK18.out i) | ((with_reducible refine gate_dst (N := 19) rfl ?_); refine box_event ?hg (N := 19) ?hd (cs := #[.int .i64 0, .int .i64 0, .int .u64 0, .int .u64 0, .int .u8 0, .int .i64 0]) (t := 65) ?hr ?_; (case hd => rfl); (case hg => rfl); (case hr => first | (go_simp; done) | (go_simp; rfl)); intro gb19 hg w3 hbox hb; have NE_gb9_gb19 := Aside0.mk (show gb9 ≠ gb19 from by rw [hg]; exact Nat.ne_of_lt (blk_lt (o := .cells #[.slice AF1 0 cF1, .slice AE1 0 cE1, .int .i64 0] 58 (0, 0)) (by (with_reducible repeat (first | refine blk_drewN ?_ _ | refine blk_drew ?_ | refine blk_alloc ?_ _)); exact BK9z.out))); have NE_gb18_gb19 := Aside0.mk (show gb18 ≠ gb19 from by rw [hg]; exact Nat.ne_of_lt (blk_lt (o := .cells #[.slice none 0 0, .slice none 0 0, .int .i64 0] 58 (0, 0)) (by (with_reducible repeat (first | refine blk_drewN ?_ _ | refine blk_drew ?_ | refine blk_alloc ?_ _)); exact BK18.out))); have GE_gb19 := Aside0.mk (show w.heap.size ≤ gb19 from by rw [hg]; exact below_size (by repeat (first | (with_reducible first | exact HB.out | apply below_alloc | apply pw_below_drewN | apply below_drew1) | exact HB.out))); clear hg; have n_BK9z := Aside0.mk (blk_below (g := gb9) (o := .cells #[.slice AF1 0 cF1, .slice AE1 0 cE1, .int .i64 0] 58 (0, 0)) (by (with_reducible repeat (first | refine blk_drewN ?_ _ | refine blk_drew ?_ | refine blk_alloc ?_ _)); exact BK9z.out) hb); have n_BK18 := Aside0.mk (blk_below (g := gb18) (o := .cells #[.slice none 0 0, .slice none 0 0, .int .i64 0] 58 (0, 0)) (by (with_reducible repeat (first | refine blk_drewN ?_ _ | refine blk_drew ?_ | refine blk_alloc ?_ _)); exact BK18.out) hb); have n_HB := Aside0.mk (below_step (by repeat (first | (with_reducible first | exact HB.out | apply below_alloc | apply pw_below_drewN | apply below_drew1) | exact HB.out)) hb); clear bk9z_0 bk9z_1 bk9z_2 bk9z_f bk18_0 bk18_1 bk18_2 bk18_f; clear BK9z BK18 HB hb; have BK9z := n_BK9z; have BK18 := n_BK18; have HB := n_HB; clear n_BK9z n_BK18 n_HB; have BK19 := Aside0.mk hbox; clear hbox; have bk9z_0 := (blk_cell BK9z.out 0).trans (show _ = some (.slice AF1 0 cF1) from rfl); have bk9z_1 := (blk_cell BK9z.out 1).trans (show _ = some (.slice AE1 0 cE1) from rfl); have bk9z_2 := (blk_cell BK9z.out 2).trans (show _ = some (.int .i64 0) from rfl); have bk18_0 := (blk_cell BK18.out 0).trans (show _ = some (.slice none 0 0) from rfl); have bk18_1 := (blk_cell BK18.out 1).trans (show _ = some (.slice none 0 0) from rfl); have bk18_2 := (blk_cell BK18.out 2).trans (show _ = some (.int .i64 0) from rfl); have bk19_0 := (blk_cell BK19.out 0).trans (show _ = some (.int .i64 0) from rfl); have bk19_1 := (blk_cell BK19.out 1).trans (show _ = some (.int .i64 0) from rfl); have bk19_2 := (blk_cell BK19.out 2).trans (show _ = some (.int .u64 0) from rfl); have bk19_3 := (blk_cell BK19.out 3).trans (show _ = some (.int .u64 0) from rfl); have bk19_4 := (blk_cell BK19.out 4).trans (show _ = some (.int .u8 0) from rfl); have bk19_5 := (blk_cell BK19.out 5).trans (show _ = some (.int .i64 0) from rfl); have bk9z_f := fun i => blk_frozen BK9z.out i; have bk18_f := fun i => blk_frozen BK18.out i; have bk19_f := fun i => blk_frozen BK19.out i; have n1819 := NE_gb18_gb19.out; have n1918 := Ne.symm NE_gb18_gb19.out))
              clear n1819 n1918
              clear bk9z_0 bk9z_1 bk9z_2 bk9z_f bk18_0 bk18_1 bk18_2 bk18_f bk19_0 bk19_1 bk19_2 bk19_3 bk19_4 bk19_5 bk19_f
              have s0_BK9z := blk_far BK9z.out (p := ⟨gb18, 0, none⟩) NE_gb9_gb18.out (.slice AL3 0 cL3)
              have s0_BK18 := blk_put (cs' := #[.slice AL3 0 cL3, .slice none 0 0, .int .i64 0]) BK18.out 0 (.slice AL3 0 cL3) rfl
              have s0_BK19 := blk_far BK19.out (p := ⟨gb18, 0, none⟩) (Ne.symm NE_gb18_gb19.out) (.slice AL3 0 cL3)
              have s0_HB := below_set (j := 0) (v := .slice AL3 0 cL3) HB.out GE_gb18.out
              have s1_BK9z := blk_far s0_BK9z (p := ⟨gb18, 1, none⟩) NE_gb9_gb18.out (.slice AD3 0 cD3)
              have s1_BK18 := blk_put (cs' := #[.slice AL3 0 cL3, .slice AD3 0 cD3, .int .i64 0]) s0_BK18 1 (.slice AD3 0 cD3) rfl
              have s1_BK19 := blk_far s0_BK19 (p := ⟨gb18, 1, none⟩) (Ne.symm NE_gb18_gb19.out) (.slice AD3 0 cD3)
              have s1_HB := below_set (j := 1) (v := .slice AD3 0 cD3) s0_HB GE_gb18.out
              have s2_BK9z := blk_far s1_BK9z (p := ⟨gb18, 2, none⟩) NE_gb9_gb18.out (.int .i64 0)
              have s2_BK18 := blk_put (cs' := #[.slice AL3 0 cL3, .slice AD3 0 cD3, .int .i64 0]) s1_BK18 2 (.int .i64 0) rfl
              have s2_BK19 := blk_far s1_BK19 (p := ⟨gb18, 2, none⟩) (Ne.symm NE_gb18_gb19.out) (.int .i64 0)
              have s2_HB := below_set (j := 2) (v := .int .i64 0) s1_HB GE_gb18.out
              have s3_BK9z := blk_far s2_BK9z (p := ⟨gb19, 0, none⟩) NE_gb9_gb19.out (.int .i64 q.f0)
              have s3_BK18 := blk_far s2_BK18 (p := ⟨gb19, 0, none⟩) NE_gb18_gb19.out (.int .i64 q.f0)
              have s3_BK19 := blk_put (cs' := #[.int .i64 q.f0, .int .i64 0, .int .u64 0, .int .u64 0, .int .u8 0, .int .i64 0]) s2_BK19 0 (.int .i64 q.f0) rfl
              have s3_HB := below_set (j := 0) (v := .int .i64 q.f0) s2_HB GE_gb19.out
              have s4_BK9z := blk_far s3_BK9z (p := ⟨gb19, 1, none⟩) NE_gb9_gb19.out (.int .i64 q.f1)
              have s4_BK18 := blk_far s3_BK18 (p := ⟨gb19, 1, none⟩) NE_gb18_gb19.out (.int .i64 q.f1)
              have s4_BK19 := blk_put (cs' := #[.int .i64 q.f0, .int .i64 q.f1, .int .u64 0, .int .u64 0, .int .u8 0, .int .i64 0]) s3_BK19 1 (.int .i64 q.f1) rfl
              have s4_HB := below_set (j := 1) (v := .int .i64 q.f1) s3_HB GE_gb19.out
              have s5_BK9z := blk_far s4_BK9z (p := ⟨gb19, 2, none⟩) NE_gb9_gb19.out (.int .u64 q.f2)
              have s5_BK18 := blk_far s4_BK18 (p := ⟨gb19, 2, none⟩) NE_gb18_gb19.out (.int .u64 q.f2)
              have s5_BK19 := blk_put (cs' := #[.int .i64 q.f0, .int .i64 q.f1, .int .u64 q.f2, .int .u64 0, .int .u8 0, .int .i64 0]) s4_BK19 2 (.int .u64 q.f2) rfl
              have s5_HB := below_set (j := 2) (v := .int .u64 q.f2) s4_HB GE_gb19.out
              have s6_BK9z := blk_far s5_BK9z (p := ⟨gb19, 3, none⟩) NE_gb9_gb19.out (.int .u64 q.f3)
              have s6_BK18 := blk_far s5_BK18 (p := ⟨gb19, 3, none⟩) NE_gb18_gb19.out (.int .u64 q.f3)
              have s6_BK19 := blk_put (cs' := #[.int .i64 q.f0, .int .i64 q.f1, .int .u64 q.f2, .int .u64 q.f3, .int .u8 0, .int .i64 0]) s5_BK19 3 (.int .u64 q.f3) rfl
              have s6_HB := below_set (j := 3) (v := .int .u64 q.f3) s5_HB GE_gb19.out
              have s7_BK9z := blk_far s6_BK9z (p := ⟨gb19, 4, none⟩) NE_gb9_gb19.out (.int .u8 q.f4)
              have s7_BK18 := blk_far s6_BK18 (p := ⟨gb19, 4, none⟩) NE_gb18_gb19.out (.int .u8 q.f4)
              have s7_BK19 := blk_put (cs' := #[.int .i64 q.f0, .int .i64 q.f1, .int .u64 q.f2, .int .u64 q.f3, .int .u8 q.f4, .int .i64 0]) s6_BK19 4 (.int .u8 q.f4) rfl
              have s7_HB := below_set (j := 4) (v := .int .u8 q.f4) s6_HB GE_gb19.out
              have s8_BK9z := blk_far s7_BK9z (p := ⟨gb19, 5, none⟩) NE_gb9_gb19.out (.int .i64 q.f5)
              have s8_BK18 := blk_far s7_BK18 (p := ⟨gb19, 5, none⟩) NE_gb18_gb19.out (.int .i64 q.f5)
              have s8_BK19 := blk_put (cs' := #[.int .i64 q.f0, .int .i64 q.f1, .int .u64 q.f2, .int .u64 q.f3, .int .u8 q.f4, .int .i64 q.f5]) s7_BK19 5 (.int .i64 q.f5) rfl
              have s8_HB := below_set (j := 5) (v := .int .i64 q.f5) s7_HB GE_gb19.out
              have n_BK9z := Aside0.mk s8_BK9z
              have n_BK18 := Aside0.mk s8_BK18
              have n_BK19 := Aside0.mk s8_BK19
              have n_HB := Aside0.mk s8_HB
              clear s0_BK9z s0_BK18 s0_BK19 s0_HB
              clear s1_BK9z s1_BK18 s1_BK19 s1_HB
              clear s2_BK9z s2_BK18 s2_BK19 s2_HB
              clear s3_BK9z s3_BK18 s3_BK19 s3_HB
              clear s4_BK9z s4_BK18 s4_BK19 s4_HB
              clear s5_BK9z s5_BK18 s5_BK19 s5_HB
              clear s6_BK9z s6_BK18 s6_BK19 s6_HB
              clear s7_BK9z s7_BK18 s7_BK19 s7_HB
              clear s8_BK9z s8_BK18 s8_BK19 s8_HB
              clear BK9z BK18 BK19 HB
              generalize (((((((((w3.setCell ⟨gb18, 0, none⟩ (.slice AL3 0 cL3)).setCell ⟨gb18, 1, none⟩ (.slice AD3 0 cD3)).setCell ⟨gb18, 2, none⟩ (.int .i64 0)).setCell ⟨gb19, 0, none⟩ (.int .i64 q.f0)).setCell ⟨gb19, 1, none⟩ (.int .i64 q.f1)).setCell ⟨gb19, 2, none⟩ (.int .u64 q.f2)).setCell ⟨gb19, 3, none⟩ (.int .u64 q.f3)).setCell ⟨gb19, 4, none⟩ (.int .u8 q.f4)).setCell ⟨gb19, 5, none⟩ (.int .i64 q.f5)) = w7 at n_BK9z n_BK18 n_BK19 n_HB ⊢
              have BK9z := n_BK9z
              have BK18 := n_BK18
              have BK19 := n_BK19
              have HB := n_HB
              clear n_BK9z n_BK18 n_BK19 n_HB
              have bk9z_0 := (blk_cell BK9z.out 0).trans (show _ = some (.slice AF1 0 cF1) from rfl); have bk9z_1 := (blk_cell BK9z.out 1).trans (show _ = some (.slice AE1 0 cE1) from rfl); have bk9z_2 := (blk_cell BK9z.out 2).trans (show _ = some (.int .i64 0) from rfl); have bk18_0 := (blk_cell BK18.out 0).trans (show _ = some (.slice AL3 0 cL3) from rfl); have bk18_1 := (blk_cell BK18.out 1).trans (show _ = some (.slice AD3 0 cD3) from rfl); have bk18_2 := (blk_cell BK18.out 2).trans (show _ = some (.int .i64 0) from rfl); have bk19_0 := (blk_cell BK19.out 0).trans (show _ = some (.int .i64 q.f0) from rfl); have bk19_1 := (blk_cell BK19.out 1).trans (show _ = some (.int .i64 q.f1) from rfl); have bk19_2 := (blk_cell BK19.out 2).trans (show _ = some (.int .u64 q.f2) from rfl); have bk19_3 := (blk_cell BK19.out 3).trans (show _ = some (.int .u64 q.f3) from rfl); have bk19_4 := (blk_cell BK19.out 4).trans (show _ = some (.int .u8 q.f4) from rfl); have bk19_5 := (blk_cell BK19.out 5).trans (show _ = some (.int .i64 q.f5) from rfl); have bk9z_f := fun i => blk_frozen BK9z.out i; have bk18_f := fun i => blk_frozen BK18.out i; have bk19_f := fun i => blk_frozen BK19.out i
              go_wp2_with (first
                | (go_at_call 41; (with_reducible refine (ratlinelaw21_awake.calls true _ rfl).mono ?_); rintro e w20 ⟨rfl, hbb⟩; have n0 := Aside0.mk (below_step HB.out hbb); clear HB; have HB := n0; clear n0 hbb))
              go_ret
              exact ⟨rfl, HB.out⟩
#print axioms fails_walk
end Go.Proofs.Ythlahhkjoocigaa.XQueue
