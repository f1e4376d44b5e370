/- The plain law of layer 16 (how often one waits, whether turns are fair): what the program reckons and what the reference reckons. No program's code in sight. -/
import Derived.Test.YthlahhkjoocigaaXSched
namespace Go.Proofs.Ythlahhkjoocigaa.XSched
open Go Go.RowKit Go.Proofs.YthlahhkjoocigaaW.PrintWords Go.Proofs.YthlahhkjoocigaaW.PrintLast
set_option linter.unusedVariables false
set_option linter.unusedSimpArgs false

theorem w64 {n : Int} (h0 : -9223372036854775808 ≤ n) (h1 : n ≤ 9223372036854775807) : wrap64 n = n := by unfold wrap64; omega
theorem rd_nat (l : List Int) (i : Nat) : rd l (i : Int) = l.getD i 0 := by simp [rd]
theorem rdT_nat (l : List S51) (i : Nat) : rd_T51 l (i : Int) = l.getD i z51 := by simp [rd_T51]
theorem drop_S (l : List S51) (i : Nat) (h : i < l.length) : l.drop i = l.getD i z51 :: l.drop (i + 1) := drop_cons z51 l i h
theorem drop_I (l : List Int) (i : Nat) (h : i < l.length) : l.drop i = l.getD i 0 :: l.drop (i + 1) := drop_cons 0 l i h

/-- Big enough for all that is asked here. -/
def lim : Nat := 9223372036854775807

/-! ### Few -/
def fewB (l : List S51) (m : Int) : Bool := l.all (fun t => decide (t.f1.length ≤ 20)) && decide ((l.length : Int) ≤ m)
theorem few_ev (l : List S51) (m : Int) (hl : l.length ≤ lim) : Ev (fun k => ratlinelaw16_Few.f k l m) (fewB l m) := by
  unfold lim at hl
  have key : ∀ (n i : Nat), l.length - i = n → i ≤ l.length → Ev (fun k => ratlinelaw16_Few.l0 k l m l (l.length : Int) (i : Int)) ((l.drop i).all (fun t => decide (t.f1.length ≤ 20)) && decide ((l.length : Int) ≤ m)) := by
    intro n
    induction n with
    | zero =>
      intro i hn hi
      obtain rfl : i = l.length := by omega
      refine Ev.step (fun k => ?_) (Ev.now _)
      rw [ratlinelaw16_Few.l0, if_neg (by omega)]
      simp
    | succ n ih =>
      intro i hn hi
      have hlt : i < l.length := by omega
      rw [drop_S l i hlt]
      by_cases hb : (l.getD i z51).f1.length ≤ 20
      · have hA := ih (i + 1) (by omega) (by omega)
        refine Ev.step (fun k => ?_) (r := _) (f := fun k => ratlinelaw16_Few.l0 k l m l (l.length : Int) ((i + 1 : Nat) : Int)) ?_
        · rw [ratlinelaw16_Few.l0, if_pos (by omega), if_pos (by omega), if_pos (by omega), rdT_nat, if_neg (by omega), w64 (by omega) (by omega)]
          rfl
        · rw [List.all_cons, decide_eq_true hb, Bool.true_and]
          exact hA
      · refine Ev.step (fun k => ?_) (Ev.now _)
        rw [ratlinelaw16_Few.l0, if_pos (by omega), if_pos (by omega), if_pos (by omega), rdT_nat, if_pos (by omega), List.all_cons, decide_eq_false hb]
        rfl
  exact key l.length 0 rfl (Nat.zero_le _)

/-! ### Turns -/
def turnUp (t : S51) : S51 := ⟨t.f0, riseL t.f1⟩
theorem turns_ev (l : List S51) (hl : l.length ≤ 1000) (hb : ∀ t ∈ l, t.f1.length ≤ 20) : Ev (fun k => ratlinelaw16_Turns.f k l) (l.map turnUp) := by
  have key : ∀ (n i : Nat), l.length - i = n → i ≤ l.length → Ev (fun k => ratlinelaw16_Turns.l0 k ((l.take i).map turnUp) l (l.length : Int) (i : Int)) (l.map turnUp) := by
    intro n
    induction n with
    | zero =>
      intro i hn hi
      obtain rfl : i = l.length := by omega
      refine Ev.step (fun k => ?_) (Ev.now _)
      rw [ratlinelaw16_Turns.l0, if_neg (by omega)]
      simp
    | succ n ih =>
      intro i hn hi
      have hlt : i < l.length := by omega
      have hA := ih (i + 1) (by omega) (by omega)
      have hm : (l.getD i z51).f1.length ≤ 20 := by
        rw [List.getD_eq_getElem?_getD, List.getElem?_eq_getElem hlt]
        exact hb _ (List.getElem_mem _)
      have ht : (l.take (i + 1)).map turnUp = (l.take i).map turnUp ++ [turnUp (l.getD i z51)] := by
        rw [List.take_succ_eq_append_getElem hlt, List.map_append, List.getD_eq_getElem?_getD, List.getElem?_eq_getElem hlt]
        rfl
      have hlen : ((l.take i).map turnUp).length < 4398046511104 := by rw [List.length_map, List.length_take]; omega
      refine Ev.step (fun k => ?_) (r := _) (f := fun k => ratlinelaw16_Turns.l0 k ((l.take (i + 1)).map turnUp) l (l.length : Int) ((i + 1 : Nat) : Int)) hA
      rw [ratlinelaw16_Turns.l0, if_pos (by omega), if_pos (by omega), if_pos (by omega), rdT_nat]
      have hr : ratlinelaw16_Rise.f (l.getD i z51).f1 = some (riseL (l.getD i z51).f1) := by unfold ratlinelaw16_Rise.f; rw [if_pos (by omega)]
      rw [hr, Option.bind_some, if_pos hlen, w64 (by omega) (by omega), ht]
      rfl
  have h0 := key l.length 0 rfl (Nat.zero_le _)
  simpa [ratlinelaw16_Turns.f] using h0

theorem ins_mem {x y : Int} : ∀ {l : List Int}, y ∈ insUp x l → y = x ∨ y ∈ l
  | [], h => by simp [insUp] at h; exact .inl h
  | z :: r, h => by
    simp only [insUp] at h
    split at h
    · rcases List.mem_cons.1 h with h | h
      · exact .inr (by simp [h])
      · rcases ins_mem h with h | h
        · exact .inl h
        · exact .inr (by simp [h])
    · split at h
      · exact .inr h
      · rcases List.mem_cons.1 h with h | h
        · exact .inl h
        · exact .inr h
theorem rise_mem {y : Int} (l : List Int) (h : y ∈ riseL l) : y ∈ l := by
  have key : ∀ (r o : List Int), y ∈ r.foldl (fun o x => insUp x o) o → y ∈ o ∨ y ∈ r := by
    intro r
    induction r with
    | nil => intro o h; exact .inl h
    | cons x r ih =>
      intro o h
      rcases ih _ h with h | h
      · rcases ins_mem h with h | h
        · exact .inr (by simp [h])
        · exact .inl h
      · exact .inr (by simp [h])
  rcases key l [] h with h | h
  · cases h
  · exact h

/-! ### Next -/
theorem next_eq (c : List Int) (a : Int) (hc : c.length ≤ 1000) (h0 : 0 ≤ a) (h1 : a ≤ 4294967295) : sched_Next.f c a = ratlineref16_Next.f c a ∧ (sched_Next.f c a).isSome = true := by
  unfold sched_Next.f ratlineref16_Next.f
  by_cases hz : (c.length : Int) = 0
  · rw [if_pos hz, if_pos hz]; exact ⟨rfl, rfl⟩
  · have hm : (c.length : Int) % 4294967296 = c.length := by omega
    have ht : Int.tmod a (c.length : Int) = a % (c.length : Int) := Int.tmod_eq_emod_of_nonneg h0
    have h2 := Int.emod_nonneg a (b := (c.length : Int)) hz
    have h3 := Int.emod_lt_of_pos a (b := (c.length : Int)) (by omega)
    rw [if_neg hz, if_neg hz, hm, if_neg hz, w64 (by omega) (by omega), ht, if_pos h2, if_pos h3]
    exact ⟨rfl, rfl⟩

/-! ### Robin -/
theorem gt_from (last : Int) : ∀ (l : List Int) (i : Int), 0 ≤ i → gtIdx last l i = -1 ∨ (i ≤ gtIdx last l i ∧ gtIdx last l i < i + l.length)
  | [], i, _ => .inl rfl
  | x :: xs, i, h => by
    simp only [gtIdx]
    split
    · exact .inr ⟨Int.le_refl _, by simp; omega⟩
    · rcases gt_from last xs (i + 1) (by omega) with h | h
      · exact .inl h
      · exact .inr ⟨by omega, by simp; omega⟩
theorem robin_ev (c : List Int) (last : Int) (hc : c.length ≤ lim) : Ev (fun k => ratlineref16_Robin.f k c last) ((mx (gtIdx last c 0) 0) % 4294967296, decide ((c.length : Int) > 0)) := by
  unfold lim at hc
  have key : ∀ (n i : Nat), c.length - i = n → i ≤ c.length → Ev (fun k => ratlineref16_Robin.l0 k c last (i : Int)) ((mx (gtIdx last (c.drop i) i) 0) % 4294967296, decide ((c.length : Int) > 0)) := by
    intro n
    induction n with
    | zero =>
      intro i hn hi
      obtain rfl : i = c.length := by omega
      refine Ev.step (fun k => ?_) (Ev.now _)
      rw [ratlineref16_Robin.l0, if_neg (by omega)]
      simp [gtIdx, mx]
    | succ n ih =>
      intro i hn hi
      have hlt : i < c.length := by omega
      have hA := ih (i + 1) (by omega) (by omega)
      rw [drop_I c i hlt]
      simp only [gtIdx]
      by_cases hg : last < c.getD i 0
      · rw [if_pos hg]
        refine Ev.step (fun k => ?_) (Ev.now _)
        rw [ratlineref16_Robin.l0, if_pos (by omega), if_pos (by omega), rd_nat, if_pos hg]
        have e1 : mx (i : Int) 0 = i := by unfold mx; split <;> omega
        have e2 : decide ((c.length : Int) > 0) = true := decide_eq_true (by omega)
        rw [e1, e2]
      · rw [if_neg hg]
        refine Ev.step (fun k => ?_) (r := _) (f := fun k => ratlineref16_Robin.l0 k c last ((i + 1 : Nat) : Int)) ?_
        · rw [ratlineref16_Robin.l0, if_pos (by omega), if_pos (by omega), rd_nat, if_neg hg, w64 (by omega) (by omega)]
          rfl
        · exact hA
  exact key c.length 0 rfl (Nat.zero_le _)

/-! ### Waits -/
def waitsB (task : Int) (t : S51) : Bool := decide (task ∈ t.f1) && t.f0 != task
theorem waits_ev (f0 : Int) (f1 : List Int) (task : Int) (hl : f1.length ≤ lim) : Ev (fun k => ratlineref16_waits.f k f0 f1 task) (waitsB task ⟨f0, f1⟩) := by
  unfold lim at hl
  have key : ∀ (n i : Nat), f1.length - i = n → i ≤ f1.length → Ev (fun k => ratlineref16_waits.l0 k task (i : Int) f0 f1) (decide (task ∈ f1.drop i) && f0 != task) := by
    intro n
    induction n with
    | zero =>
      intro i hn hi
      obtain rfl : i = f1.length := by omega
      refine Ev.step (fun k => ?_) (Ev.now _)
      rw [ratlineref16_waits.l0, if_neg (by omega)]
      simp
    | succ n ih =>
      intro i hn hi
      have hlt : i < f1.length := by omega
      have hA := ih (i + 1) (by omega) (by omega)
      rw [drop_I f1 i hlt]
      by_cases hg : f1.getD i 0 = task
      · refine Ev.step (fun k => ?_) (Ev.now _)
        rw [ratlineref16_waits.l0, if_pos (by omega), if_pos (by omega), rd_nat, if_pos hg, hg, decide_eq_true List.mem_cons_self, Bool.true_and]
      · refine Ev.step (fun k => ?_) (r := _) (f := fun k => ratlineref16_waits.l0 k task ((i + 1 : Nat) : Int) f0 f1) ?_
        · rw [ratlineref16_waits.l0, if_pos (by omega), if_pos (by omega), rd_nat, if_neg hg, w64 (by omega) (by omega)]
          rfl
        · have e : decide (task ∈ f1.getD i 0 :: f1.drop (i + 1)) = decide (task ∈ f1.drop (i + 1)) := by
            have : task ≠ f1.getD i 0 := fun h => hg h.symm
            exact decide_eq_decide.mpr ⟨fun h => (List.mem_cons.1 h).resolve_left this, fun h => List.mem_cons_of_mem _ h⟩
          rw [e]
          exact hA
  exact key f1.length 0 rfl (Nat.zero_le _)

def runN (task : Int) : List S51 → Nat
  | [] => 0
  | t :: ts => if waitsB task t then runN task ts + 1 else 0
def bestN (task : Int) : List S51 → Nat
  | [] => 0
  | t :: ts => max (runN task (t :: ts)) (bestN task ts)
theorem run_le_best (task : Int) : ∀ l : List S51, runN task l ≤ bestN task l
  | [] => Nat.le_refl _
  | _ :: _ => by rw [bestN]; exact Nat.le_max_left _ _
theorem run_le (task : Int) : ∀ l : List S51, runN task l ≤ l.length
  | [] => Nat.le_refl _
  | t :: ts => by
    have := run_le task ts
    simp only [runN, List.length_cons]
    split <;> omega
theorem best_le (task : Int) : ∀ l : List S51, bestN task l ≤ l.length
  | [] => Nat.le_refl _
  | t :: ts => by
    have := best_le task ts
    have := run_le task (t :: ts)
    simp only [bestN, List.length_cons] at *
    omega
theorem wstep_eq (task : Int) (t : S51) (n : Int) : wstep task t n = if waitsB task t then n + 1 else 0 := by
  unfold wstep waitsB
  by_cases h1 : t.f0 = task
  · simp [h1]
  · by_cases h2 : task ∈ t.f1
    · simp [h1, h2]
    · simp [h1, h2]
theorem mx_max (a b : Int) : mx a b = max a b := by unfold mx; split <;> omega
theorem maxL_wait (task : Int) : ∀ (l : List S51) (n m : Int), 0 ≤ n → n ≤ m → maxL (waitL task l n) m = max m (max (n + runN task l) (bestN task l))
  | [], n, m, h0, h1 => by simp [waitL, maxL, runN, bestN]; omega
  | t :: ts, n, m, h0, h1 => by
    have hb := run_le_best task ts
    simp only [waitL, maxL, runN, bestN, wstep_eq, mx_max]
    by_cases hw : waitsB task t = true
    · simp only [hw, if_true]
      rw [maxL_wait task ts (n + 1) (max m (n + 1)) (by omega) (by omega)]
      omega
    · simp only [hw, Bool.false_eq_true, if_false]
      rw [maxL_wait task ts 0 (max m 0) (by omega) (by omega)]
      omega
theorem waits_best (l : List S51) (task : Int) : sched_Waits.f l task = some (bestN task l : Int) := by
  unfold sched_Waits.f
  rw [maxL_wait task l 0 0 (by omega) (by omega)]
  have := run_le_best task l
  congr 1
  omega

theorem Waits_ev (l : List S51) (task : Int) (hl : l.length ≤ lim) (hb : ∀ t ∈ l, t.f1.length ≤ lim) : Ev (fun k => ratlineref16_Waits.f k l task) (bestN task l : Int) := by
  unfold lim at hl
  have key : ∀ (n i : Nat), l.length - i = n → i ≤ l.length → ∀ most : Int, 0 ≤ most → Ev (fun k => ratlineref16_Waits.l0 k l task most (i : Int)) (max most (bestN task (l.drop i) : Int)) := by
    intro n
    induction n with
    | zero =>
      intro i hn hi most hm
      obtain rfl : i = l.length := by omega
      refine Ev.step (fun k => ?_) (Ev.now _)
      rw [ratlineref16_Waits.l0, if_neg (by omega)]
      simp [bestN]
      omega
    | succ n ih =>
      intro i hn hi most hm
      have hlt : i < l.length := by omega
      have hbest : bestN task (l.drop i) = max (runN task (l.drop i)) (bestN task (l.drop (i + 1))) := by rw [drop_S l i hlt]; rfl
      -- what follows the inner loop, the run being of length r
      have hout : ∀ r : Nat, r = runN task (l.drop i) → Ev (fun k => if (r : Int) > most then ratlineref16_Waits.l0 k l task r (wrap64 ((i : Int) + 1)) else ratlineref16_Waits.l0 k l task most (wrap64 ((i : Int) + 1))) (max most (bestN task (l.drop i) : Int)) := by
        intro r hr
        rw [w64 (by omega) (by omega), hbest, ← hr]
        by_cases hg : (r : Int) > most
        · have hA := ih (i + 1) (by omega) (by omega) (r : Int) (by omega)
          simp only [if_pos hg]
          have e : max most ((max r (bestN task (l.drop (i + 1))) : Nat) : Int) = max (r : Int) (bestN task (l.drop (i + 1)) : Int) := by omega
          rw [e]
          exact hA
        · have hA := ih (i + 1) (by omega) (by omega) most hm
          simp only [if_neg hg]
          have e : max most ((max r (bestN task (l.drop (i + 1))) : Nat) : Int) = max most (bestN task (l.drop (i + 1)) : Int) := by omega
          rw [e]
          exact hA
      have inner : ∀ (q r : Nat), l.length - (i + r) = q → i + r ≤ l.length → r + runN task (l.drop (i + r)) = runN task (l.drop i) → Ev (fun k => ratlineref16_Waits.l1 k l task most (i : Int) (r : Int)) (max most (bestN task (l.drop i) : Int)) := by
        intro q
        induction q with
        | zero =>
          intro r hq hr he
          have hr0 : runN task (l.drop (i + r)) = 0 := by rw [show i + r = l.length by omega]; simp [runN]
          refine Ev.step (fun k => ?_) (hout r (by omega))
          show ratlineref16_Waits.l1 (k + 1) l task most (i : Int) (r : Int) = _
          rw [ratlineref16_Waits.l1, w64 (n := (i : Int) + r) (by omega) (by omega), if_neg (by omega)]
        | succ q ihq =>
          intro r hq hr he
          have hlt2 : i + r < l.length := by omega
          have hd := drop_S l (i + r) hlt2
          have hlen : (l.getD (i + r) z51).f1.length ≤ lim := by
            rw [List.getD_eq_getElem?_getD, List.getElem?_eq_getElem hlt2]
            exact hb _ (List.getElem_mem _)
          have hW := waits_ev (l.getD (i + r) z51).f0 (l.getD (i + r) z51).f1 task hlen
          have hidx : ((i : Int) + (r : Int)) = ((i + r : Nat) : Int) := by omega
          by_cases hw : waitsB task (l.getD (i + r) z51) = true
          · have he2 : (r + 1) + runN task (l.drop (i + (r + 1))) = runN task (l.drop i) := by
              rw [hd] at he
              simp only [runN, hw, if_true] at he
              rw [← Nat.add_assoc i r 1]
              omega
            have hA := ihq (r + 1) (by omega) (by omega) he2
            refine Ev.step (f := fun k => (ratlineref16_waits.f k (l.getD (i + r) z51).f0 (l.getD (i + r) z51).f1 task).bind fun t119 => if t119 = true then ratlineref16_Waits.l1 k l task most (i : Int) (wrap64 ((r : Int) + 1)) else if (r : Int) > most then ratlineref16_Waits.l0 k l task r (wrap64 ((i : Int) + 1)) else ratlineref16_Waits.l0 k l task most (wrap64 ((i : Int) + 1))) (fun k => ?_) (Ev.bind hW ?_)
            · rw [ratlineref16_Waits.l1, w64 (n := (i : Int) + r) (by omega) (by omega), if_pos (by omega), if_pos (by omega), hidx, rdT_nat]
            · have e : waitsB task ⟨(l.getD (i + r) z51).f0, (l.getD (i + r) z51).f1⟩ = true := hw
              have e3 : wrap64 ((r : Int) + 1) = ((r + 1 : Nat) : Int) := w64 (by omega) (by omega)
              simp only [e, if_true, e3]
              exact hA
          · have hr0 : runN task (l.drop (i + r)) = 0 := by rw [hd, runN, if_neg hw]
            refine Ev.step (f := fun k => (ratlineref16_waits.f k (l.getD (i + r) z51).f0 (l.getD (i + r) z51).f1 task).bind fun t119 => if t119 = true then ratlineref16_Waits.l1 k l task most (i : Int) (wrap64 ((r : Int) + 1)) else if (r : Int) > most then ratlineref16_Waits.l0 k l task r (wrap64 ((i : Int) + 1)) else ratlineref16_Waits.l0 k l task most (wrap64 ((i : Int) + 1))) (fun k => ?_) (Ev.bind hW ?_)
            · rw [ratlineref16_Waits.l1, w64 (n := (i : Int) + r) (by omega) (by omega), if_pos (by omega), if_pos (by omega), hidx, rdT_nat]
            · have e : waitsB task ⟨(l.getD (i + r) z51).f0, (l.getD (i + r) z51).f1⟩ = false := Bool.eq_false_iff.mpr hw
              simp only [e, Bool.false_eq_true, if_false]
              exact hout r (by omega)
      have hI := inner (l.length - i) 0 (by omega) (by omega) (by simp)
      refine Ev.step (f := fun k => ratlineref16_Waits.l1 k l task most (i : Int) 0) (fun k => ?_) hI
      rw [ratlineref16_Waits.l0, if_pos (by omega)]
  have h0 := key l.length 0 rfl (Nat.zero_le _) 0 (by omega)
  have e : max (0 : Int) (bestN task (l.drop 0) : Int) = (bestN task l : Int) := by simp
  rw [e] at h0
  exact h0

/-! ### Fair -/
def fairB (l : List S51) (w : Int) : Bool := l.all (fun t => t.f1.all fun n => decide ((bestN n l : Int) < w)) && decide (w > 0)
theorem fair_prog (l : List S51) (w : Int) (h : sizedL l = true) : sched_Fair.f l w = some (fairB l w) := by
  unfold sched_Fair.f fairB
  rw [if_pos h]
  have e : ∀ n, waitsN l n = (bestN n l : Int) := fun n => Option.some.inj ((waits_eq l n).symm.trans (waits_best l n))
  simp only [e]
  by_cases hw : w < 1
  · rw [if_pos hw, decide_eq_false (show ¬ w > 0 by omega), Bool.and_false]
  · rw [if_neg hw, decide_eq_true (show w > 0 by omega), Bool.and_true]
theorem fair_ev (l : List S51) (w : Int) (hl : l.length ≤ lim) (hb : ∀ t ∈ l, t.f1.length ≤ lim) : Ev (fun k => ratlineref16_Fair.f k l w) (fairB l w) := by
  have key : ∀ (n i : Nat), l.length - i = n → i ≤ l.length → Ev (fun k => ratlineref16_Fair.l0 k l w (i : Int)) ((l.drop i).all (fun t => t.f1.all fun n => decide ((bestN n l : Int) < w)) && decide (w > 0)) := by
    intro n
    induction n with
    | zero =>
      intro i hn hi
      obtain rfl : i = l.length := by omega
      refine Ev.step (fun k => ?_) (Ev.now _)
      rw [ratlineref16_Fair.l0, if_neg (by omega)]
      simp
    | succ n ih =>
      intro i hn hi
      unfold lim at hl
      have hlt : i < l.length := by omega
      have hnext := ih (i + 1) (by omega) (by omega)
      rw [drop_S l i hlt, List.all_cons]
      have hlen : (l.getD i z51).f1.length ≤ lim := by
        rw [List.getD_eq_getElem?_getD, List.getElem?_eq_getElem hlt]
        exact hb _ (List.getElem_mem _)
      unfold lim at hlen
      generalize hc : (l.getD i z51).f1 = c at hlen
      have inner : ∀ (q r : Nat), c.length - r = q → r ≤ c.length → Ev (fun k => ratlineref16_Fair.l1 k l w (i : Int) (r : Int)) (((c.drop r).all (fun n => decide ((bestN n l : Int) < w)) && (l.drop (i + 1)).all (fun t => t.f1.all fun n => decide ((bestN n l : Int) < w))) && decide (w > 0)) := by
        intro q
        induction q with
        | zero =>
          intro r hq hr
          obtain rfl : r = c.length := by omega
          refine Ev.step (f := fun k => ratlineref16_Fair.l0 k l w ((i + 1 : Nat) : Int)) (fun k => ?_) ?_
          · rw [ratlineref16_Fair.l1, if_pos (by omega), if_pos (by omega), rdT_nat, hc, if_neg (by omega), w64 (by omega) (by omega)]
            rfl
          · rw [List.drop_of_length_le (Nat.le_refl _), List.all_nil, Bool.true_and]
            exact hnext
        | succ q ihq =>
          intro r hq hr
          have hlt2 : r < c.length := by omega
          have hA := ihq (r + 1) (by omega) (by omega)
          rw [drop_I c r hlt2, List.all_cons]
          have hW := Waits_ev l (c.getD r 0) hl hb
          refine Ev.step (f := fun k => (ratlineref16_Waits.f k l (c.getD r 0)).bind fun t123 => if t123 ≥ w then some false else ratlineref16_Fair.l1 k l w (i : Int) (wrap64 ((r : Int) + 1))) (fun k => ?_) (Ev.bind hW ?_)
          · rw [ratlineref16_Fair.l1, if_pos (by omega), if_pos (by omega), rdT_nat, hc, if_pos (by omega), if_pos (by omega), rd_nat]
          · by_cases hg : (bestN (c.getD r 0) l : Int) ≥ w
            · simp only [if_pos hg]
              rw [decide_eq_false (show ¬ (bestN (c.getD r 0) l : Int) < w by omega)]
              exact Ev.now _
            · have e3 : wrap64 ((r : Int) + 1) = ((r + 1 : Nat) : Int) := w64 (by omega) (by omega)
              simp only [if_neg hg, e3]
              rw [decide_eq_true (show (bestN (c.getD r 0) l : Int) < w by omega), Bool.true_and]
              exact hA
      have hI := inner c.length 0 rfl (Nat.zero_le _)
      refine Ev.step (f := fun k => ratlineref16_Fair.l1 k l w (i : Int) 0) (fun k => ?_) ?_
      · rw [ratlineref16_Fair.l0, if_pos (by omega)]
      · simpa using hI
  exact key l.length 0 rfl (Nat.zero_le _)

/-! ### What the laws let in -/
theorem few_parts {l : List S51} {m : Int} (h : fewB l m = true) : (∀ t ∈ l, t.f1.length ≤ 20) ∧ (l.length : Int) ≤ m := by
  unfold fewB at h
  rw [Bool.and_eq_true, List.all_eq_true] at h
  exact ⟨fun t ht => of_decide_eq_true (h.1 t ht), of_decide_eq_true h.2⟩
theorem cans_bound : ∀ (l : List S51), (∀ t ∈ l, t.f1.length ≤ 20) → cans l ≤ 20 * l.length
  | [], _ => by simp [cans]
  | t :: ts, h => by
    have h1 := h t List.mem_cons_self
    have h2 := cans_bound ts (fun t ht => h t (List.mem_cons_of_mem _ ht))
    simp only [cans, List.map_cons, List.sum_cons, List.length_cons] at h2 ⊢
    omega
theorem up_len (t : S51) : (turnUp t).f1.length ≤ t.f1.length := rise_len t.f1
theorem up_small {l : List S51} (hb : ∀ t ∈ l, t.f1.length ≤ 20) : ∀ t ∈ l.map turnUp, t.f1.length ≤ 20 := by
  intro t ht
  obtain ⟨s, hs, rfl⟩ := List.mem_map.1 ht
  have := up_len s
  have := hb s hs
  omega
theorem up_sized {l : List S51} (hb : ∀ t ∈ l, t.f1.length ≤ 20) (hl : l.length ≤ 1000) (hwf : ∀ t ∈ l, ∀ x ∈ t.f1, (Lit.int .i64 x).wf = true) : sizedL (l.map turnUp) = true := by
  unfold sizedL
  rw [Bool.and_eq_true]
  refine ⟨decide_eq_true ?_, ?_⟩
  · have := cans_bound _ (up_small hb)
    rw [List.length_map] at this
    omega
  · rw [List.all_eq_true]
    intro t ht
    obtain ⟨s, hs, rfl⟩ := List.mem_map.1 ht
    rw [List.all_eq_true]
    exact fun x hx => hwf s hs x (rise_mem _ hx)

/-! ### SchedTells -/
theorem tells_ev (c : List Int) (pick last : Int) (l : List S51) (task w : Int) (hcl : c.length ≤ lim) (hll : l.length ≤ lim) (hp0 : 0 ≤ pick) (hp1 : pick ≤ 4294967295) (hwf : ∀ t ∈ l, ∀ x ∈ t.f1, (Lit.int .i64 x).wf = true) :
    ∃ k, ratlinelaw16_SchedTells.f k c pick last l task w = some true := by
  have aw : ratlinelaw16_awake.f = some true := rfl
  have hend : ∀ b : Bool, (b = false → c.length ≤ 20 ∧ fewB l 40 = true) → Ev (fun k => ratlinelaw16_SchedTells.j0 k c pick last l task w b) true := by
    intro b hb
    cases b with
    | true => exact Ev.step (fun k => by rw [ratlinelaw16_SchedTells.j0, if_pos rfl, aw, Option.bind_some]) (Ev.now _)
    | false =>
      obtain ⟨h20, hfew⟩ := hb rfl
      obtain ⟨hsm, hlen⟩ := few_parts hfew
      have hrise : ratlinelaw16_Rise.f c = some (riseL c) := by unfold ratlinelaw16_Rise.f; rw [if_pos (by omega)]
      have hrl := rise_len c
      obtain ⟨hne, hns⟩ := next_eq (riseL c) pick (by omega) hp0 hp1
      obtain ⟨nv, hnv⟩ := Option.isSome_iff_exists.1 hns
      have hrob := robin_ev (riseL c) last (by unfold lim; omega)
      have hturn := turns_ev l (by omega) hsm
      have hrp : sched_Robin.f (riseL c) last = some ((mx (gtIdx last (riseL c) 0) 0) % 4294967296, decide (((riseL c).length : Int) > 0)) := rfl
      have hus := up_small hsm
      have hW := Waits_ev (l.map turnUp) task (by rw [List.length_map]; exact hll) (fun t ht => by have := hus t ht; unfold lim; omega)
      have hF := fair_ev (l.map turnUp) w (by rw [List.length_map]; exact hll) (fun t ht => by have := hus t ht; unfold lim; omega)
      have hFp := fair_prog (l.map turnUp) w (up_sized hsm (by omega) hwf)
      refine Ev.step (f := fun k => _) (fun k => by rw [ratlinelaw16_SchedTells.j0, if_neg (by simp), hrise, Option.bind_some]) ?_
      refine Ev.bind hturn ?_
      refine Ev.congr (fun k => by rw [← hne, hnv, Option.bind_some, Option.bind_some, hrp, Option.bind_some]) ?_
      refine Ev.bind hrob ?_
      refine Ev.congr (fun k => by rw [if_pos rfl, if_pos (by simp), if_pos rfl, if_pos (by simp), waits_best, Option.bind_some]) ?_
      refine Ev.bind hW ?_
      refine Ev.congr (fun k => by rw [if_pos rfl, hFp, Option.bind_some]) ?_
      refine Ev.bind hF ?_
      exact Ev.congr (fun k => by rw [if_pos (by simp), aw, Option.bind_some]) (Ev.now _)
  refine Ev.rounds ?_
  by_cases h20 : (c.length : Int) > 20
  · exact Ev.congr (fun k => by unfold ratlinelaw16_SchedTells.f; rw [if_pos h20]) (hend true (by simp))
  · refine Ev.congr (fun k => by unfold ratlinelaw16_SchedTells.f; rw [if_neg h20]) ?_
    refine Ev.bind (few_ev l 40 hll) ?_
    exact hend _ (fun h => ⟨by omega, by simpa using h⟩)
end Go.Proofs.Ythlahhkjoocigaa.XSched
