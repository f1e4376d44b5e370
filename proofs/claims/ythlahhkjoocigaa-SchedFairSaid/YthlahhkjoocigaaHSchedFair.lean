/- SchedFair: the plain law and the walk of its code: that whatever turns it is given it answers true. -/
import Derived.Test.YthlahhkjoocigaaHSched
import Derived.Test.YthlahhkjoocigaaHOpen
namespace Go.Proofs.Ythlahhkjoocigaa.XSched
open Go Go.RowKit Go.Proofs.YthlahhkjoocigaaW.PrintWords Go.Proofs.YthlahhkjoocigaaW.PrintLast Go.Proofs.YthlahhkjoocigaaW.PrintMore
attribute [local go_sem] max2_int min2_int max_two min_two max_three min_three max_four min_four
set_option linter.unusedVariables false
set_option linter.unusedSimpArgs false

theorem mx_eq (a b : Int) : mx a b = if a < b then b else a := by rw [mx_max]; split <;> omega
/-! ### How often one waits at most, of all -/
def mostC (t : List S51) (c : List Int) (m : Int) : Int := c.foldl (fun m n => mx m (bestN n t)) m
def mostT (t : List S51) (r : List S51) (m : Int) : Int := r.foldl (fun m x => mostC t x.f1 m) m
theorem mostC_take (t : List S51) (c : List Int) (m : Int) (j : Nat) (h : j < c.length) : mostC t (c.take (j + 1)) m = mx (mostC t (c.take j) m) (bestN (c.getD j 0) t) := by
  unfold mostC
  rw [List.take_succ_eq_append_getElem h, List.foldl_append, List.getD_eq_getElem?_getD, List.getElem?_eq_getElem h]
  rfl
theorem mostT_take (t r : List S51) (m : Int) (j : Nat) (h : j < r.length) : mostT t (r.take (j + 1)) m = mostC t (r.getD j z51).f1 (mostT t (r.take j) m) := by
  unfold mostT
  rw [List.take_succ_eq_append_getElem h, List.foldl_append, List.getD_eq_getElem?_getD, List.getElem?_eq_getElem h]
  rfl
theorem mostC_lt (t : List S51) (w : Int) : ∀ (c : List Int) (m : Int), mostC t c m < w ↔ (m < w ∧ ∀ n ∈ c, (bestN n t : Int) < w)
  | [], m => by simp [mostC]
  | n :: c, m => by
    have h := mostC_lt t w c (mx m (bestN n t))
    have e : mostC t (n :: c) m = mostC t c (mx m (bestN n t)) := rfl
    rw [e, h, mx_max]
    constructor
    · rintro ⟨h1, h2⟩
      exact ⟨by omega, fun k hk => by rcases List.mem_cons.1 hk with rfl | hk; (· omega); exact h2 k hk⟩
    · rintro ⟨h1, h2⟩
      have := h2 n List.mem_cons_self
      exact ⟨by omega, fun k hk => h2 k (List.mem_cons_of_mem _ hk)⟩
theorem mostT_lt (t : List S51) (w : Int) : ∀ (r : List S51) (m : Int), mostT t r m < w ↔ (m < w ∧ ∀ x ∈ r, ∀ n ∈ x.f1, (bestN n t : Int) < w)
  | [], m => by simp [mostT]
  | x :: r, m => by
    have h := mostT_lt t w r (mostC t x.f1 m)
    have e : mostT t (x :: r) m = mostT t r (mostC t x.f1 m) := rfl
    rw [e, h, mostC_lt]
    constructor
    · rintro ⟨⟨h1, h2⟩, h3⟩
      exact ⟨h1, fun y hy => by rcases List.mem_cons.1 hy with rfl | hy; (· exact h2); exact h3 y hy⟩
    · rintro ⟨h1, h2⟩
      exact ⟨⟨h1, h2 x List.mem_cons_self⟩, fun y hy => h2 y (List.mem_cons_of_mem _ hy)⟩
theorem fair_most (t : List S51) (w : Int) (hw : 0 < w) : fairB t w = decide (mostT t t 0 < w) := by
  unfold fairB
  rw [Bool.eq_iff_iff, Bool.and_eq_true, List.all_eq_true, decide_eq_true_iff, decide_eq_true_iff, mostT_lt]
  constructor
  · rintro ⟨h1, h2⟩
    refine ⟨by omega, fun x hx n hn => ?_⟩
    have h3 := h1 x hx
    rw [List.all_eq_true] at h3
    exact of_decide_eq_true (h3 n hn)
  · rintro ⟨h1, h2⟩
    refine ⟨fun x hx => ?_, by omega⟩
    rw [List.all_eq_true]
    exact fun n hn => decide_eq_true (h2 x hx n hn)
theorem fair_more (t : List S51) (w : Int) (h : fairB t w = true) : fairB t (w + 1) = true := by
  have hw : 0 < w := by
    unfold fairB at h
    rw [Bool.and_eq_true] at h
    have := of_decide_eq_true h.2
    omega
  rw [fair_most t w hw] at h
  rw [fair_most t (w + 1) (by omega)]
  have := of_decide_eq_true h
  exact decide_eq_true (by omega)
theorem fair_len (t : List S51) : fairB t ((t.length : Int) + 1) = true := by
  rw [fair_most t _ (by omega)]
  refine decide_eq_true ((mostT_lt t _ t 0).2 ⟨by omega, fun x _ n _ => ?_⟩)
  have := best_le n t
  omega

/-! ### One that could run in a whole row of turns and was taken in none -/
def hitB (n : Int) (s : List S51) : Bool := s.all (fun x => decide (n ∈ x.f1)) && !s.any (fun x => decide (x.f0 = n))
def seg (t : List S51) (w i : Nat) : List S51 := (t.take (i + w)).drop i
def leftS (s : List S51) (c : List Int) : Bool := c.any fun n => hitB n s
def leftT (t : List S51) (w i : Nat) : Bool := (List.range i).any fun j => leftS (seg t w j) (t.getD j z51).f1

theorem leftS_take (s : List S51) (c : List Int) (j : Nat) (h : j < c.length) : leftS s (c.take (j + 1)) = (leftS s (c.take j) || hitB (c.getD j 0) s) := by
  unfold leftS
  rw [List.take_succ_eq_append_getElem h, List.any_append, List.getD_eq_getElem?_getD, List.getElem?_eq_getElem h]
  simp
def allP (n : Int) (s : List S51) : Bool := s.all (fun x => decide (n ∈ x.f1))
def anyP (n : Int) (s : List S51) : Bool := s.any (fun x => decide (x.f0 = n))
theorem allP_take (n : Int) (s : List S51) (p : Nat) (h : p < s.length) : allP n (s.take (p + 1)) = (allP n (s.take p) && decide (n ∈ (s.getD p z51).f1)) := by
  unfold allP
  rw [List.take_succ_eq_append_getElem h, List.all_append, List.getD_eq_getElem?_getD, List.getElem?_eq_getElem h]
  simp
theorem anyP_take (n : Int) (s : List S51) (p : Nat) (h : p < s.length) : anyP n (s.take (p + 1)) = (anyP n (s.take p) || decide ((s.getD p z51).f0 = n)) := by
  unfold anyP
  rw [List.take_succ_eq_append_getElem h, List.any_append, List.getD_eq_getElem?_getD, List.getElem?_eq_getElem h]
  simp
theorem cell_more {w : World} {a : Addr} {v : Value} (h : w.cell? a = some v) (o : Obj) : (w.alloc o).cell? a = some v := ((below_alloc (Below.refl _ _) o).cell (World.block_lt_of_cell? w _ h)).trans h
theorem hit_parts (n : Int) (s : List S51) : hitB n s = (allP n s && !anyP n s) := rfl
def inP (n : Int) (c : List Int) : Bool := decide (n ∈ c)
theorem inP_take (n : Int) (c : List Int) (q : Nat) (h : q < c.length) : inP n (c.take (q + 1)) = (inP n (c.take q) || decide (c.getD q 0 = n)) := by
  unfold inP
  rw [List.take_succ_eq_append_getElem h, List.getD_eq_getElem?_getD, List.getElem?_eq_getElem h, Bool.eq_iff_iff]
  simp only [Option.getD_some, List.mem_append, List.mem_singleton, Bool.or_eq_true, decide_eq_true_iff]
  exact or_congr Iff.rfl eq_comm
theorem leftT_succ (t : List S51) (w i : Nat) : leftT t w (i + 1) = (leftT t w i || leftS (seg t w i) (t.getD i z51).f1) := by
  unfold leftT
  rw [List.range_succ, List.any_append]
  simp

theorem run_ge (n : Int) : ∀ (l : List S51) (w : Nat), w ≤ runN n l ↔ (w ≤ l.length ∧ ∀ x ∈ l.take w, waitsB n x = true)
  | [], w => by
    simp only [runN, List.length_nil, List.take_nil]
    exact ⟨fun h => ⟨h, fun x hx => by cases hx⟩, fun h => h.1⟩
  | t :: ts, 0 => by simp
  | t :: ts, w + 1 => by
    have ih := run_ge n ts w
    by_cases ht : waitsB n t = true
    · simp only [runN, ht, if_true, List.length_cons, List.take_succ_cons, List.forall_mem_cons, true_and]
      constructor
      · intro h
        have h2 := ih.1 (by omega)
        exact ⟨by omega, h2.2⟩
      · intro h
        have h2 := ih.2 ⟨by omega, h.2⟩
        omega
    · simp only [runN, ht, if_false, List.take_succ_cons, List.forall_mem_cons, false_and, and_false]
      simp
theorem hit_iff (n : Int) (s : List S51) : hitB n s = true ↔ ∀ x ∈ s, waitsB n x = true := by
  unfold hitB waitsB
  simp only [Bool.and_eq_true, List.all_eq_true, Bool.not_eq_true', List.any_eq_false, decide_eq_true_iff, bne_iff_ne, ne_eq]
  exact ⟨fun h x hx => ⟨h.1 x hx, h.2 x hx⟩, fun h => ⟨fun x hx => (h x hx).1, fun x hx => (h x hx).2⟩⟩
theorem best_ge (n : Int) (w : Nat) (hw : 1 ≤ w) : ∀ l : List S51, w ≤ bestN n l ↔ ∃ j, w ≤ runN n (l.drop j)
  | [] => by simp [bestN, runN]
  | t :: ts => by
    have ih := best_ge n w hw ts
    rw [bestN]
    constructor
    · intro h
      rcases Nat.lt_or_ge (runN n (t :: ts)) w with h1 | h1
      · obtain ⟨j, hj⟩ := ih.1 (by omega)
        exact ⟨j + 1, by simpa using hj⟩
      · exact ⟨0, by simpa using h1⟩
    · rintro ⟨j, hj⟩
      cases j with
      | zero => rw [List.drop_zero] at hj; omega
      | succ j =>
        have := ih.2 ⟨j, by simpa using hj⟩
        omega
theorem seg_eq (t : List S51) (w i : Nat) : seg t w i = (t.drop i).take w := by
  unfold seg
  rw [List.drop_take]
  congr 1
  omega
theorem left_all (t : List S51) (w i : Nat) (hw : 1 ≤ w) (hi : i = 0 ∨ i + w ≤ t.length + 1) (hn : t.length < i + w) : leftT t w i = !fairB t (w : Int) := by
  have hf : fairB t (w : Int) = false ↔ ∃ x ∈ t, ∃ n ∈ x.f1, w ≤ bestN n t := by
    rw [fair_most t _ (by omega), decide_eq_false_iff_not, mostT_lt]
    constructor
    · intro h
      refine Classical.byContradiction fun hno => h ⟨by omega, fun x hx n hn => ?_⟩
      have : ¬ w ≤ bestN n t := fun hb => hno ⟨x, hx, n, hn, hb⟩
      omega
    · rintro ⟨x, hx, n, hn, hb⟩ ⟨_, h⟩
      have := h x hx n hn
      omega
  have hl : leftT t w i = true ↔ ∃ x ∈ t, ∃ n ∈ x.f1, w ≤ bestN n t := by
    unfold leftT leftS
    simp only [List.any_eq_true, List.mem_range]
    constructor
    · rintro ⟨j, hj, n, hn2, hh⟩
      have hjw : j + w ≤ t.length := by omega
      have hjt : j < t.length := by omega
      refine ⟨t.getD j z51, ?_, n, hn2, (best_ge n w hw t).2 ⟨j, (run_ge n _ w).2 ⟨by rw [List.length_drop]; omega, ?_⟩⟩⟩
      · rw [List.getD_eq_getElem?_getD, List.getElem?_eq_getElem hjt]
        exact List.getElem_mem _
      · rw [seg_eq] at hh
        exact (hit_iff n _).1 hh
    · rintro ⟨x, hx, n, hn2, hb⟩
      obtain ⟨j, hj⟩ := (best_ge n w hw t).1 hb
      obtain ⟨h1, h2⟩ := (run_ge n _ w).1 hj
      rw [List.length_drop] at h1
      have hjt : j < t.length := by omega
      refine ⟨j, by omega, n, ?_, ?_⟩
      · have hd := drop_S t j hjt
        have h3 := h2 (t.getD j z51) (by
          rw [hd]
          obtain ⟨w', rfl⟩ : ∃ w', w = w' + 1 := ⟨w - 1, by omega⟩
          rw [List.take_succ_cons]
          exact List.mem_cons_self)
        unfold waitsB at h3
        rw [Bool.and_eq_true] at h3
        exact of_decide_eq_true h3.1
      · rw [seg_eq]
        exact (hit_iff n _).2 h2
  cases h1 : leftT t w i <;> cases h2 : fairB t (w : Int)
  · rw [h1] at hl
    have := hl.2 (hf.1 h2)
    cases this
  · rfl
  · rfl
  · rw [h2] at hf
    have := hf.2 (hl.1 h1)
    cases this

set_option maxHeartbeats 16000000 in
set_option maxRecDepth 100000 in
theorem fair_walk (A0 : Option Addr) (c0 : Nat) (l0 : List S51) (a1 : Int) (w : World) (hr0 : Kd.C k51 w A0 l0.length l0) (hc0 : l0.length ≤ c0) (h0 : l0.length ≤ 9223372036854775807) (hp0 : 0 ≤ a1) (hp1 : a1 ≤ 255) (hwf : ∀ t ∈ l0, ∀ x ∈ t.f1, (Lit.int .i64 x).wf = true) :
    Calls Try.prog 7 #[.slice A0 l0.length c0, .int .u8 a1] w fun e w' => e = .returned (.bool true) ∧ Below w.heap.size w w' := by
  obtain ⟨kf, hkf⟩ := (few_ev l0 40 h0).rounds
  have KF := Aside0.mk hkf
  have HR0 := Aside0.mk hr0
  have HC0 := Aside0.mk hc0
  have HWF := Aside0.mk hwf
  clear hr0 hc0 hwf hkf
  by_cases hf : fewB l0 40 = true
  case neg =>
    rw [Bool.eq_false_iff.mpr hf] at KF
    clear hf
    go_enter Try.func7, Try.ntmps7
    go_wp2_with (first | (go_at_call 27; (with_reducible refine (ratlinelaw16_Few.calls kf _ _ l0 40 false _ HR0.out HC0.out KF.out).mono ?_); rintro e w5 ⟨rfl, hb⟩; have HB := Aside0.mk hb; clear hb) | (go_at_call 28; (with_reducible refine (ratlinelaw16_awake.calls true _ rfl).mono ?_); rintro e w6 ⟨rfl, hb⟩; have HB2 := Aside0.mk (below_step HB.out hb); clear hb))
    go_ret
    exact ⟨rfl, HB2.out⟩
  obtain ⟨hsm, hlen⟩ := few_parts hf
  rw [hf] at KF
  obtain ⟨kt, hkt⟩ := (turns_ev l0 (by omega) hsm).rounds
  have KT := Aside0.mk hkt
  have hsz := up_sized hsm (by omega) HWF.out
  have hus := up_small hsm
  have htl : (l0.map turnUp).length = l0.length := List.length_map _
  generalize l0.map turnUp = t at KT hsz hus htl
  obtain ⟨W, hW⟩ : ∃ W : Nat, 1 + a1 % 40 = (W : Int) := ⟨(1 + a1 % 40).toNat, by omega⟩
  obtain ⟨i51, hi51, hzz⟩ := Option.map_eq_some_iff.1 info51
  simp only [Prod.mk.injEq] at hzz
  obtain ⟨hz0, hz1, hz2⟩ := hzz
  have i51 := Aside0.mk hi51
  have z51s := Aside0.mk hz1
  clear hi51 hz0 hz1 hz2
  have HUS := Aside0.mk hus
  have HSZ := Aside0.mk hsz
  have htl40 : t.length ≤ 40 := by omega
  have hW1 : 1 ≤ W := by omega
  have hW40 : W ≤ 40 := by omega
  clear hus hsz hf hsm hlen htl hkt
  go_enter Try.func7, Try.ntmps7
  go_wp2_with (first | (go_at_call 27; (with_reducible refine (ratlinelaw16_Few.calls kf _ _ l0 40 true _ HR0.out HC0.out KF.out).mono ?_); rintro e w5 ⟨rfl, hb⟩; have HB := Aside0.mk hb; clear hb) | (go_at_call 30; (with_reducible refine (ratlinelaw16_Turns.calls kt _ _ l0 t _ (Kd.C_below HR0.out HB.out) HC0.out KT.out).mono ?_); rintro e w6 ⟨v6, rfl, ho, hb⟩; have HN := Aside0.mk (Kd.S_N (Kd.S_bound ho)); have HB2 := Aside0.mk (below_step HB.out hb); clear hb ho; obtain ⟨At, ct, et⟩ := Kd.N_slice HN.out; subst et; have HT := Aside0.mk (Kd.N_reads' HN.out).2.2; have HC := Aside0.mk (Kd.N_reads' HN.out).2.1; clear HN))
  go_loopw [7, 35] (fun v7 v35 wr => ∃ i : Nat, i ≤ t.length ∧ v35 = .int .i64 i ∧ v7 = .int .i64 (mostT t (t.take i) 0) ∧ Aside0 (Below w6.heap.size w6 wr)) (fun v7 v35 _ => t.length - (intOf v35).toNat)
  case atStart => exact ⟨0, Nat.zero_le _, rfl, rfl, ⟨Below.refl _ _⟩⟩
  case round =>
    obtain ⟨i, hi, rfl, rfl, HB⟩ := hrel
    by_cases hlt : i < t.length
    · have hmt := Aside0.mk (mostT_take t t 0 i hlt)
      obtain ⟨ad, A1, c1, e0, hx0, hx1, hl1, hi1⟩ := at_T51 HT.out (i : Int) (by omega) (by omega)
      subst e0
      replace hx0 := (HB.out.cell (World.block_lt_of_cell? w6 _ hx0)).trans hx0
      replace hx1 := (HB.out.cell (World.block_lt_of_cell? w6 _ hx1)).trans hx1
      simp only [rdT_nat] at hx0 hx1 hl1 hi1
      simp only [Int.toNat_natCast] at hx0 hx1
      generalize t.getD i z51 = x at hx0 hx1 hl1 hi1 hmt
      generalize mostT t (t.take i) 0 = m0 at hmt
      have HR1 := Aside0.mk hi1
      have HC1 := Aside0.mk hl1
      have hl1' : x.f1.length ≤ 9223372036854775807 := hi1.2.1
      clear hi1 hl1
      go_wp2
      go_loopw [7, 42] (fun v7 v42 wq => ∃ j : Nat, j ≤ x.f1.length ∧ v42 = .int .i64 j ∧ v7 = .int .i64 (mostC t (x.f1.take j) m0) ∧ Aside0 (Below w6.heap.size w6 wq)) (fun v7 v42 _ => x.f1.length - (intOf v42).toNat)
      case atStart => exact ⟨0, Nat.zero_le _, rfl, rfl, ⟨below_alloc HB.out _⟩⟩
      case round =>
        clear hx0 hx1
        obtain ⟨j, hj, rfl, rfl, HB2⟩ := hrel
        by_cases hlj : j < x.f1.length
        · have hmc := Aside0.mk (mostC_take t x.f1 m0 j hlj)
          obtain ⟨ad2, e2, hy⟩ := Kd.at_int HR1.out (j : Int) (by omega) (by omega)
          subst e2
          replace hy := (HB2.out.cell (World.block_lt_of_cell? w6 _ hy)).trans hy
          simp only [rd_nat, Int.toNat_natCast] at hy
          generalize x.f1.getD j 0 = y at hy hmc
          go_wp2_with (go_at_call 35; (with_reducible refine (sched_Waits.calls _ _ t y _ _ (Kd.C_below HT.out HB2.out) HC.out (waits_best t y)).mono ?_); rintro e w10 ⟨rfl, hb⟩; have HB10 := Aside0.mk (below_step HB2.out hb); clear hb)
          go_roundw
          case rel => exact ⟨j + 1, by omega, by go_num, by rw [hmc.out, mx_eq], HB10⟩
          case measure => simp [intOf]; omega
        · obtain rfl : j = x.f1.length := by omega
          go_wp2
          go_roundw
          case rel => exact ⟨i + 1, by omega, by go_num, by rw [hmt.out]; simp, HB2⟩
          case measure => simp [intOf]; omega
    · obtain rfl : i = t.length := by omega
      rw [List.take_length]
      have hb1 : fairB t (W : Int) = decide (mostT t t 0 < W) := fair_most t W (by omega)
      have hb2 : fairB t (W : Int) = true → fairB t ((W : Int) + 1) = true := fair_more t W
      have hb3 := fair_len t
      have F1 := Aside0.mk (fair_prog t W HSZ.out)
      have F2 := Aside0.mk (fair_prog t ((W : Int) + 1) HSZ.out)
      have F3 := Aside0.mk (fair_prog t ((t.length : Int) + 1) HSZ.out)
      generalize hq : mostT t t 0 = most at hb1
      have HB1 := Aside0.mk hb1
      have HB2' := Aside0.mk hb2
      rw [hb3] at F3
      clear hb1 hb2 hb3 hq
      go_upto_region 14 with (fail)
      go_cut [79] (fun v79 wx => v79 = .bool false ∧ Aside0 (Below w6.heap.size w6 wx))
      case first =>
        by_cases hb : fairB t (W : Int) = true
        · have e1 := HB1.out
          have e2 := F1.out
          have e3 := F2.out
          rw [hb] at e1 e2
          rw [HB2'.out hb] at e3
          have G1 := Aside0.mk e2
          have G2 := Aside0.mk e3
          have e4 : decide (most < (W : Int)) = true := e1.symm
          clear e1 e2 e3 hb HB1 HB2' F1 F2 hi
          go_wp2_with (first
            | (go_at_call 37; (with_reducible refine (sched_Fair.calls _ _ t W true _ (Kd.C_below HT.out HB.out) HC.out G1.out).mono ?_); rintro e w20 ⟨rfl, hbb⟩; have n0 := Aside0.mk (below_step HB.out hbb); clear HB; have HB := n0; clear n0 hbb)
            | (go_at_call 37; (with_reducible refine (sched_Fair.calls _ _ t ((W : Int) + 1) true _ (Kd.C_below HT.out HB.out) HC.out G2.out).mono ?_); rintro e w20 ⟨rfl, hbb⟩; have n0 := Aside0.mk (below_step HB.out hbb); clear HB; have HB := n0; clear n0 hbb)
            | (go_at_call 37; (with_reducible refine (sched_Fair.calls _ _ t ((t.length : Int) + 1) true _ (Kd.C_below HT.out HB.out) HC.out F3.out).mono ?_); rintro e w20 ⟨rfl, hbb⟩; have n0 := Aside0.mk (below_step HB.out hbb); clear HB; have HB := n0; clear n0 hbb))
          go_meet
          case rel => exact ⟨rfl, HB⟩
        · have hbf : fairB t (W : Int) = false := Bool.eq_false_iff.mpr hb
          have e1 := HB1.out
          have e2 := F1.out
          rw [hbf] at e1 e2
          have G1 := Aside0.mk e2
          have e4 : decide (most < (W : Int)) = false := e1.symm
          clear e1 e2 hb hbf HB1 HB2' F1 F2 hi
          go_wp2_with (first
            | (go_at_call 37; (with_reducible refine (sched_Fair.calls _ _ t W false _ (Kd.C_below HT.out HB.out) HC.out G1.out).mono ?_); rintro e w20 ⟨rfl, hbb⟩; have n0 := Aside0.mk (below_step HB.out hbb); clear HB; have HB := n0; clear n0 hbb)
            | (go_at_call 37; (with_reducible refine (sched_Fair.calls _ _ t ((t.length : Int) + 1) true _ (Kd.C_below HT.out HB.out) HC.out F3.out).mono ?_); rintro e w20 ⟨rfl, hbb⟩; have n0 := Aside0.mk (below_step HB.out hbb); clear HB; have HB := n0; clear n0 hbb))
          go_meet
          case rel => exact ⟨rfl, HB⟩
      case rest =>
        clear HB F2 F3 HB2' hi
        obtain ⟨rfl, HB⟩ := hcut
        go_wp2
        go_loopw [12, 13] (fun v12 v13 wr => ∃ i : Nat, (i = 0 ∨ i + W ≤ t.length + 1) ∧ v13 = .int .i64 i ∧ v12 = .bool (leftT t W i) ∧ Aside0 (Below w6.heap.size w6 wr)) (fun v12 v13 _ => t.length + 1 - (intOf v13).toNat)
        case atStart => exact ⟨0, .inl rfl, rfl, rfl, HB⟩
        case round =>
          clear HB
          obtain ⟨i, hi, rfl, rfl, HB⟩ := hrel
          by_cases hlt : i + W ≤ t.length
          · have hile : i < t.length := by omega
            have hnx := Aside0.mk (leftT_succ t W i)
            obtain ⟨ad, A1, c1, e0, hx0, hx1, hl1, hi1⟩ := at_T51 HT.out (i : Int) (by omega) (by omega)
            have hcm := cut_mid (P := Try.prog) 38 51 .i64 .i64 Try.underlying38 i51.out 2 z51s.out At t.length ct (i : Int) ((i : Int) + (W : Int)) (by omega) (by omega) (by omega) HC.out
            have hsl : ((i : Int) + (W : Int)).toNat - (i : Int).toNat = (seg t W i).length := by rw [seg, List.length_drop, List.length_take]; omega
            rw [hsl] at hcm
            have HSg0 : Kd.C k51 w6 (if ct = i then At else At.map (·.add (i * k51.sz))) (seg t W i).length (seg t W i) := Kd.C_mid HT.out (by omega) (by omega) HC.out
            rw [show k51.sz = 2 from rfl] at HSg0
            simp only [Int.toNat_natCast] at hcm
            generalize hA2 : (if ct = i then At else At.map (·.add (i * 2))) = A2 at hcm HSg0
            clear hA2 hsl
            subst e0
            replace hx1 := (HB.out.cell (World.block_lt_of_cell? w6 _ hx1)).trans hx1
            simp only [rdT_nat] at hx1 hl1 hi1
            simp only [Int.toNat_natCast] at hx1
            clear hx0
            generalize (t.getD i z51).f1 = c at hx1 hl1 hi1 hnx
            generalize seg t W i = s at hcm HSg0 hnx
            generalize leftT t W i = lf at hnx
            have HR1 := Aside0.mk hi1
            have HS := Aside0.mk HSg0
            have hcl : c.length ≤ 9223372036854775807 := hi1.2.1
            have hsl : s.length ≤ 9223372036854775807 := HSg0.2.1
            clear hi1 hl1 HSg0
            go_wp2
            go_loopw [12, 94] (fun v12 v94 wq => ∃ j : Nat, j ≤ c.length ∧ v94 = .int .i64 j ∧ v12 = .bool (lf || leftS s (c.take j)) ∧ Aside0 (Below w6.heap.size w6 wq)) (fun v12 v94 _ => c.length - (intOf v94).toNat)
            case atStart => exact ⟨0, Nat.zero_le _, rfl, by simp [leftS], HB⟩
            case round =>
              clear HB hx1
              obtain ⟨j, hj, rfl, rfl, HB⟩ := hrel
              by_cases hlj : j < c.length
              · have hnj := Aside0.mk (leftS_take s c j hlj)
                obtain ⟨ad2, e2, hy⟩ := Kd.at_int HR1.out (j : Int) (by omega) (by omega)
                subst e2
                replace hy := (HB.out.cell (World.block_lt_of_cell? w6 _ hy)).trans hy
                simp only [rd_nat, Int.toNat_natCast] at hy
                generalize c.getD j 0 = y at hy hnj
                generalize leftS s (c.take j) = lj at hnj
                go_wp2
                go_loopw [16, 17, 105] (fun v16 v17 v105 wp => ∃ p : Nat, p ≤ s.length ∧ v105 = .int .i64 p ∧ v16 = .bool (allP y (s.take p)) ∧ v17 = .bool (anyP y (s.take p)) ∧ Aside0 (Below w6.heap.size w6 wp)) (fun v16 v17 v105 _ => s.length - (intOf v105).toNat)
                case atStart => exact ⟨0, Nat.zero_le _, rfl, rfl, rfl, HB⟩
                case round =>
                  clear HB hy
                  obtain ⟨p, hp, rfl, rfl, rfl, HB⟩ := hrel
                  by_cases hlp : p < s.length
                  · have hna := Aside0.mk (allP_take y s p hlp)
                    have hnt := Aside0.mk (anyP_take y s p hlp)
                    obtain ⟨ad3, A3, c3, e3, hz0, hz1, hl3, hi3⟩ := at_T51 HS.out (p : Int) (by omega) (by omega)
                    subst e3
                    replace hz0 := (HB.out.cell (World.block_lt_of_cell? w6 _ hz0)).trans hz0
                    replace hz1 := (HB.out.cell (World.block_lt_of_cell? w6 _ hz1)).trans hz1
                    simp only [rdT_nat] at hz0 hz1 hl3 hi3
                    simp only [Int.toNat_natCast] at hz0 hz1
                    generalize s.getD p z51 = x at hz0 hz1 hl3 hi3 hna hnt
                    generalize allP y (s.take p) = ba at hna
                    generalize anyP y (s.take p) = bt at hnt
                    have HR3 := Aside0.mk hi3
                    have hxl : x.f1.length ≤ 9223372036854775807 := hi3.2.1
                    clear hi3 hl3
                    go_wp2
                    go_loop [20, 112] (fun v20 v112 => ∃ q : Nat, q ≤ x.f1.length ∧ v112 = .int .i64 q ∧ v20 = .bool (inP y (x.f1.take q))) (fun v20 v112 => x.f1.length - (intOf v112).toNat)
                    case atStart => exact ⟨0, Nat.zero_le _, rfl, rfl⟩
                    case round =>
                      obtain ⟨q, hq, rfl, rfl⟩ := hrel
                      by_cases hlq : q < x.f1.length
                      · have hni := Aside0.mk (inP_take y x.f1 q hlq)
                        obtain ⟨ad4, e4, hv⟩ := Kd.at_int HR3.out (q : Int) (by omega) (by omega)
                        subst e4
                        replace hv := (HB.out.cell (World.block_lt_of_cell? w6 _ hv)).trans hv
                        simp only [rd_nat, Int.toNat_natCast] at hv
                        generalize x.f1.getD q 0 = v at hv hni
                        generalize inP y (x.f1.take q) = bi at hni
                        have hv2 := cell_more hv (Obj.cells #[Value.int IntKind.i64 x.f0, Value.slice (some ad4) x.f1.length c3] 51)
                        cases bi
                        · go_wp2
                          go_round
                          case rel => exact ⟨q + 1, by omega, by go_num, by rw [hni.out]; first | rfl | (simp; done) | (simp; rfl)⟩
                          case measure => simp [intOf]; omega
                        · go_wp2
                          go_round
                          case rel => exact ⟨q + 1, by omega, by go_num, by rw [hni.out]; first | rfl | (simp; done) | (simp; rfl)⟩
                          case measure => simp [intOf]; omega
                      · obtain rfl : q = x.f1.length := by omega
                        rw [List.take_length]
                        have hbi : inP y x.f1 = decide (y ∈ x.f1) := rfl
                        rw [← hbi] at hna
                        generalize inP y x.f1 = bi at hna
                        have key : ∀ fb : Bool, decide (x.f0 = y) = fb → Aside0 (anyP y (s.take (p + 1)) = (bt || fb)) := fun fb h => ⟨by rw [hnt.out, h]⟩
                        go_upto_region 33 with (fail)
                        cases ba <;> cases bt
                        all_goals
                          go_quiet (fail)
                          go_wp2
                          go_roundw
                          case rel => exact ⟨p + 1, by omega, by go_num, by rw [hna.out]; first | rfl | (cases bi <;> rfl), by rw [hnt.out]; first | rfl | (simp; done) | (simp; rfl), ⟨pw_below_drewN (below_alloc HB.out _) _⟩⟩
                          case measure => simp [intOf]; omega
                  · obtain rfl : p = s.length := by omega
                    rw [List.take_length]
                    have hhp := hit_parts y s
                    rw [hhp] at hnj
                    clear hhp
                    generalize allP y s = ba at hnj
                    generalize anyP y s = bt at hnj
                    have hq2 : Aside0 (∀ z : Bool, (lf || (lj || z)) = ((lf || lj) || z)) := ⟨fun z => (Bool.or_assoc _ _ _).symm⟩
                    generalize (lf || lj) = ll at hq2 ⊢
                    cases ll
                    · cases ba
                      all_goals
                        go_wp2
                        go_roundw
                        case rel => exact ⟨j + 1, by omega, by go_num, by rw [hnj.out, hq2.out]; first | rfl | (cases bt <;> rfl), HB⟩
                        case measure => simp [intOf]; omega
                    · go_wp2
                      go_roundw
                      case rel => exact ⟨j + 1, by omega, by go_num, by rw [hnj.out, hq2.out]; rfl, HB⟩
                      case measure => simp [intOf]; omega
              · obtain rfl : j = c.length := by omega
                rw [List.take_length]
                go_wp2
                go_roundw
                case rel => exact ⟨i + 1, .inr (by omega), by go_num, by rw [hnx.out], HB⟩
                case measure => simp [intOf]; omega
          · have HE := Aside0.mk (left_all t W i hW1 hi (by omega))
            have G1 := Aside0.mk (fair_prog t W HSZ.out)
            have hib : i ≤ 41 := by omega
            rw [HE.out]
            clear HE hi F1 HB1
            generalize fairB t (W : Int) = b at G1
            cases b
            all_goals
              go_wp2_with (first
                | (go_at_call 37; (with_reducible refine (sched_Fair.calls _ _ t W _ _ (Kd.C_below HT.out HB.out) HC.out G1.out).mono ?_); rintro e w20 ⟨rfl, hbb⟩; have n0 := Aside0.mk (below_step HB.out hbb); clear HB; have HB := n0; clear n0 hbb)
                | (go_at_call 28; (with_reducible refine (ratlinelaw16_awake.calls true _ rfl).mono ?_); rintro e w20 ⟨rfl, hbb⟩; have n0 := Aside0.mk (below_step HB.out hbb); clear HB; have HB := n0; clear n0 hbb))
              go_ret
              exact ⟨rfl, below_step HB2.out HB.out⟩
#print axioms fair_walk
end Go.Proofs.Ythlahhkjoocigaa.XSched
