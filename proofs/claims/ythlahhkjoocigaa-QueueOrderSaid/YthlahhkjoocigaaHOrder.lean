/- The plain law of layer 21's QueueOrder: sequences, who joined and who is done. No program's code in sight. -/
import Derived.Test.YthlahhkjoocigaaHDoes
namespace Go.Proofs.Ythlahhkjoocigaa.XQueue
open Go Go.RowKit Go.Proofs.YthlahhkjoocigaaW.PrintWords Go.Proofs.YthlahhkjoocigaaW.PrintLast
set_option linter.unusedVariables false
set_option linter.unusedSimpArgs false
/-- All ops, all units, of some members. -/
def sO (l : List S65) : Int := (l.map S65.f1).sum
def sN (l : List S65) : Int := (l.map S65.f2).sum
theorem sO_snoc (L : List S65) (i : Nat) (h : i < L.length) : sO (L.take (i + 1)) = sO (L.take i) + (L.getD i z65).f1 := by
  rw [sO, take_map_succ S65.f1 z65 L i h, List.sum_append]
  simp [sO]
theorem sN_snoc (L : List S65) (i : Nat) (h : i < L.length) : sN (L.take (i + 1)) = sN (L.take i) + (L.getD i z65).f2 := by
  rw [sN, take_map_succ S65.f2 z65 L i h, List.sum_append]
  simp [sN]
theorem sO_b {l : List S65} (h : Fine l) : 0 ≤ sO l ∧ sO l ≤ 8 * l.length := by
  induction l with
  | nil => simp [sO]
  | cons x xs ih =>
    have h1 := ih (fun y hy => h y (List.mem_cons_of_mem _ hy))
    have h2 := h x List.mem_cons_self
    have e : sO (x :: xs) = x.f1 + sO xs := by simp [sO]
    simp only [List.length_cons]
    omega
theorem sN_b {l : List S65} (h : Fine l) : 0 ≤ sN l ∧ sN l ≤ 50 * l.length := by
  induction l with
  | nil => simp [sN]
  | cons x xs ih =>
    have h1 := ih (fun y hy => h y (List.mem_cons_of_mem _ hy))
    have h2 := h x List.mem_cons_self
    have e : sN (x :: xs) = x.f2 + sN xs := by simp [sN]
    simp only [List.length_cons]
    omega
theorem fine_take {l : List S65} (h : Fine l) (n : Nat) : Fine (l.take n) := fun x hx => h x (List.mem_of_mem_take hx)
theorem giveL_vals : ∀ (n : Nat) (last : Int) (l : List S65), Fine l → 0 ≤ last → last + 8 * l.length ≤ 1000000000 → n ≤ l.length →
    (giveL n last l).2 = last + sO (l.take n) ∧ (∀ i, i < n → ((giveL n last l).1.getD i z65).f3 = last + sO (l.take i) + 1) ∧ (∀ i, n ≤ i → (giveL n last l).1.getD i z65 = l.getD i z65)
  | 0, last, l, _, _, _, _ => ⟨by simp [giveL, sO], fun i hi => by omega, fun i _ => rfl⟩
  | n + 1, last, [], _, _, _, hn => by simp at hn
  | n + 1, last, m :: ms, hf, h0, h1, hn => by
    have hm := hf m List.mem_cons_self
    simp only [List.length_cons] at h1 hn
    have e1 : (last + m.f1 % 18446744073709551616) % 18446744073709551616 = last + m.f1 := by omega
    obtain ⟨g1, g2, g3⟩ := giveL_vals n (last + m.f1) ms (fun x hx => hf x (List.mem_cons_of_mem _ hx)) (by omega) (by omega) (by omega)
    have es : ∀ k, sO ((m :: ms).take (k + 1)) = m.f1 + sO (ms.take k) := fun k => by simp [sO]
    refine ⟨?_, ?_, ?_⟩
    · simp only [giveL, e1]
      rw [g1, es]
      omega
    · intro i hi
      simp only [giveL, e1]
      cases i with
      | zero => show (last + 1) % 18446744073709551616 = last + sO [] + 1; rw [show sO [] = 0 from rfl]; omega
      | succ i =>
        rw [List.getD_cons_succ, g2 i (by omega), es]
        omega
    · intro i hi
      simp only [giveL, e1]
      cases i with
      | zero => omega
      | succ i => rw [List.getD_cons_succ, List.getD_cons_succ, g3 i (by omega)]
theorem giveL_same : ∀ (n : Nat) (last : Int) (l : List S65), (giveL n last l).1.map S65.f1 = l.map S65.f1 ∧ (giveL n last l).1.map S65.f2 = l.map S65.f2
  | 0, _, _ => ⟨rfl, rfl⟩
  | _ + 1, _, [] => ⟨rfl, rfl⟩
  | n + 1, last, m :: ms => by
    obtain ⟨h1, h2⟩ := giveL_same n ((last + m.f1 % 18446744073709551616) % 18446744073709551616) ms
    simp only [giveL, List.map_cons, h1, h2]
    exact ⟨trivial, trivial⟩
theorem sO_give (n : Nat) (last : Int) (l : List S65) (k : Nat) : sO ((giveL n last l).1.take k) = sO (l.take k) ∧ sN ((giveL n last l).1.take k) = sN (l.take k) := by
  obtain ⟨h1, h2⟩ := giveL_same n last l
  unfold sO sN
  rw [List.map_take, List.map_take, List.map_take, List.map_take, h1, h2]
  exact ⟨rfl, rfl⟩
theorem fits_room {most room : Int} : ∀ (o n : Int) (l : List S65), o ≤ most → n ≤ room → o + sO (l.take (fits most room o n l)) ≤ most ∧ n + sN (l.take (fits most room o n l)) ≤ room
  | o, n, [], h1, h2 => by simp [fits, sO, sN]; exact ⟨h1, h2⟩
  | o, n, m :: ms, h1, h2 => by
    simp only [fits]
    by_cases c1 : o + m.f1 > most
    · rw [if_pos c1]; simp [sO, sN]; exact ⟨h1, h2⟩
    · by_cases c2 : n + m.f2 > room
      · rw [if_neg c1, if_pos c2]; simp [sO, sN]; exact ⟨h1, h2⟩
      · rw [if_neg c1, if_neg c2]
        have := fits_room (most := most) (room := room) (o + m.f1) (n + m.f2) ms (by omega) (by omega)
        have es : sO ((m :: ms).take (fits most room (o + m.f1) (n + m.f2) ms + 1)) = m.f1 + sO (ms.take (fits most room (o + m.f1) (n + m.f2) ms)) := by simp [sO]
        have en : sN ((m :: ms).take (fits most room (o + m.f1) (n + m.f2) ms + 1)) = m.f2 + sN (ms.take (fits most room (o + m.f1) (n + m.f2) ms)) := by simp [sN]
        omega
/-- What the statement keeps beside the line: who joined, who is done. -/
structure Ord (n : Nat) (L : List S65) (g last : Int) (jn dn : List Int) : Prop where
  late : ∀ i : Nat, g ≤ i → i < L.length → (L.getD i z65).f3 = 0
  last0 : 0 ≤ last
  last1 : last ≤ 32 * n
  all : jn = dn ++ L.map S65.f0
  few : jn.length ≤ n
theorem ord0 : Ord 0 [] 0 0 [] [] := ⟨fun i _ h => (by simp at h), by omega, by omega, rfl, Nat.le_refl _⟩
theorem order_step {n : Nat} {L D : List S65} {g last : Int} {jn dn : List Int} (h : Inv n L D g) (ho : Ord n L g last jn dn) (hn : n ≤ 80) (W a1 a2 a4 a5 m r : Int) (hm0 : 0 ≤ m) (hm1 : m ≤ 32) (hr0 : 0 ≤ r) (L' D' : List S65) (g' last' : Int) (ts : List Int)
    (hd : doesP L D g W a1 a2 a4 a5 last m r = (L', D', g', last', ts)) :
    ∃ (X : List S65) (y : List Int),
      (L.length < L'.length → L' = L ++ [L'.getD (L'.length - 1) z65] ∧ y = [(L'.getD (L'.length - 1) z65).f0]) ∧ (¬ L.length < L'.length → y = []) ∧
      (D.length < D'.length → D' = D ++ X) ∧ (¬ D.length < D'.length → X = []) ∧ (∀ x ∈ X, x.f4 = 3 ∧ x.f5 = a5) ∧
      Ord (n + 1) L' g' last' (jn ++ y) (dn ++ X.map S65.f0) ∧
      (g = 0 → (∀ i : Nat, (i : Int) < g' → (L'.getD i z65).f3 = last + sO (L'.take i) + 1) ∧ last' = last + sO (L'.take g'.toNat) ∧ sO (L'.take g'.toNat) ≤ m ∧ sN (L'.take g'.toNat) ≤ r) ∧
      (0 < g → last' = last) := by
  unfold doesP at hd
  have hg0 := h.g0
  have hg1 := h.g1
  have hlen := h.len
  have hl0 := ho.last0
  have hl1 := ho.last1
  have hfew := ho.few
  have hs0 : ∀ l : List S65, sO (l.take (0 : Int).toNat) = 0 ∧ sN (l.take (0 : Int).toNat) = 0 := fun l => by simp [sO, sN]
  by_cases c1 : W < 3
  · rw [if_pos c1] at hd
    obtain ⟨rfl, rfl, rfl, rfl, -⟩ : joinP L D (tsk a1) (opn a2) (ned a4) = L' ∧ D = D' ∧ g = g' ∧ last = last' ∧ [] = ts := by simpa using hd
    unfold joinP
    by_cases hi : (ofP L D (tsk a1)).2 = true
    · rw [if_pos hi]
      refine ⟨[], [], fun e => absurd e (Nat.lt_irrefl _), fun _ => rfl, fun e => absurd e (Nat.lt_irrefl _), fun _ => rfl, fun x hx => (by cases hx), ⟨ho.late, hl0, by omega, ?_, by rw [List.append_nil]; omega⟩, fun e => ?_, fun _ => rfl⟩
      · rw [List.append_nil, List.map_nil, List.append_nil]; exact ho.all
      · subst e
        rw [(hs0 L).1, (hs0 L).2]
        exact ⟨fun i hi => by omega, by omega, hm0, hr0⟩
    · rw [if_neg hi]
      have hlen2 : (L ++ [(⟨tsk a1, opn a2, ned a4, 0, if L.length = 0 then 1 else 0, 0⟩ : S65)]).length = L.length + 1 := by simp
      have hgl : (L ++ [(⟨tsk a1, opn a2, ned a4, 0, if L.length = 0 then 1 else 0, 0⟩ : S65)]).getD (L.length + 1 - 1) z65 = ⟨tsk a1, opn a2, ned a4, 0, if L.length = 0 then 1 else 0, 0⟩ := by
        rw [Nat.add_sub_cancel, List.getD_eq_getElem?_getD, List.getElem?_append_right (Nat.le_refl _)]
        simp
      refine ⟨[], [tsk a1], fun _ => by rw [hlen2, hgl]; exact ⟨rfl, rfl⟩, fun e => absurd (by rw [hlen2]; omega) e, fun e => absurd e (Nat.lt_irrefl _), fun _ => rfl, fun x hx => (by cases hx), ⟨?_, hl0, by omega, ?_, by rw [List.length_append]; simp; omega⟩, fun e => ?_, fun _ => rfl⟩
      · intro i hgi hi2
        by_cases hil : i < L.length
        · rw [List.getD_eq_getElem?_getD, List.getElem?_append_left hil, ← List.getD_eq_getElem?_getD]; exact ho.late i hgi hil
        · obtain rfl : i = L.length + 1 - 1 := by rw [hlen2] at hi2; omega
          rw [hgl]
      · rw [List.map_nil, List.append_nil, ho.all, List.map_append, List.append_assoc]
        rfl
      · subst e
        rw [(hs0 _).1, (hs0 _).2]
        exact ⟨fun i hi => by omega, by omega, hm0, hr0⟩
  · rw [if_neg c1] at hd
    by_cases c2 : W < 5
    · rw [if_pos c2] at hd
      by_cases hz : grpN L g m r = 0
      · rw [if_pos hz] at hd
        obtain ⟨rfl, rfl, rfl, rfl, -⟩ : L = L' ∧ D = D' ∧ g = g' ∧ last = last' ∧ [] = ts := by simpa using hd
        refine ⟨[], [], fun e => absurd e (Nat.lt_irrefl _), fun _ => rfl, fun e => absurd e (Nat.lt_irrefl _), fun _ => rfl, fun x hx => (by cases hx), ⟨ho.late, hl0, by omega, ?_, by rw [List.append_nil]; omega⟩, fun e => ?_, fun _ => rfl⟩
        · rw [List.append_nil, List.map_nil, List.append_nil]; exact ho.all
        · subst e
          rw [(hs0 L).1, (hs0 L).2]
          exact ⟨fun i hi => by omega, by omega, hm0, hr0⟩
      · rw [if_neg hz] at hd
        obtain ⟨rfl, rfl, rfl, rfl, -⟩ : (giveL (grpN L g m r) last L).1 = L' ∧ D = D' ∧ (grpN L g m r : Int) = g' ∧ (giveL (grpN L g m r) last L).2 = last' ∧ [] = ts := by simpa using hd
        have hg : g = 0 := by
          unfold grpN at hz
          by_cases hg : g > 0
          · rw [if_pos hg] at hz; exact absurd rfl hz
          · omega
        subst hg
        have hfr := fits_room (most := m) (room := r) 0 0 L hm0 hr0
        have hN : grpN L 0 m r = fits m r 0 0 L := by unfold grpN; rw [if_neg (by omega)]
        rw [← hN] at hfr
        have hgn : grpN L 0 m r ≤ L.length := by rw [hN]; exact fits_le _ _ _ _ _
        obtain ⟨v1, v2, v3⟩ := giveL_vals (grpN L 0 m r) last L h.fine hl0 (by omega) hgn
        generalize grpN L 0 m r = N at hz hfr hgn v1 v2 v3 hN
        refine ⟨[], [], fun e => absurd e (by rw [giveL_len]; omega), fun _ => rfl, fun e => absurd e (Nat.lt_irrefl _), fun _ => rfl, fun x hx => (by cases hx), ⟨?_, ?_, ?_, ?_, by rw [List.append_nil]; omega⟩, fun _ => ?_, fun e => by omega⟩
        · intro i hgi hi
          rw [giveL_len] at hi
          rw [v3 i (by omega)]
          exact ho.late i (by omega) hi
        · have := (sO_b (fine_take h.fine N)).1
          omega
        · omega
        · rw [List.append_nil, List.map_nil, List.append_nil, giveL_f0]; exact ho.all
        · rw [Int.toNat_natCast, (sO_give _ _ _ _).1, (sO_give _ _ _ _).2]
          refine ⟨fun i hi => ?_, v1, by omega, by omega⟩
          rw [(sO_give _ _ _ _).1]
          exact v2 i (by omega)
    · rw [if_neg c2] at hd
      by_cases c3 : W = 5
      · rw [if_pos c3] at hd
        obtain ⟨rfl, rfl, rfl, rfl, -⟩ : updN sayApply g.toNat L = L' ∧ D = D' ∧ g = g' ∧ last = last' ∧ (L.take g.toNat).map S65.f0 = ts := by simpa using hd
        refine ⟨[], [], fun e => absurd e (by rw [updN_len]; omega), fun _ => rfl, fun e => absurd e (Nat.lt_irrefl _), fun _ => rfl, fun x hx => (by cases hx), ⟨?_, hl0, by omega, ?_, by rw [List.append_nil]; omega⟩, fun e => ?_, fun _ => rfl⟩
        · intro i hgi hi
          rw [updN_len] at hi
          rw [updN_get _ _ _ _ hi, if_neg (by omega)]
          exact ho.late i hgi hi
        · rw [List.append_nil, List.map_nil, List.append_nil, updN_f0]; exact ho.all
        · subst e
          rw [(hs0 _).1, (hs0 _).2]
          exact ⟨fun i hi => by omega, by omega, hm0, hr0⟩
      · rw [if_neg c3] at hd
        by_cases c4 : W = 6
        · rw [if_pos c4] at hd
          by_cases hz : g = 0
          · rw [if_pos hz] at hd
            obtain ⟨rfl, rfl, rfl, rfl, -⟩ : L = L' ∧ D = D' ∧ 0 = g' ∧ last = last' ∧ [] = ts := by simpa using hd
            subst hz
            refine ⟨[], [], fun e => absurd e (Nat.lt_irrefl _), fun _ => rfl, fun e => absurd e (Nat.lt_irrefl _), fun _ => rfl, fun x hx => (by cases hx), ⟨ho.late, hl0, by omega, ?_, by rw [List.append_nil]; omega⟩, fun e => ?_, fun _ => rfl⟩
            · rw [List.append_nil, List.map_nil, List.append_nil]; exact ho.all
            · rw [(hs0 L).1, (hs0 L).2]
              exact ⟨fun i hi => by omega, by omega, hm0, hr0⟩
          · rw [if_neg hz] at hd
            obtain ⟨rfl, rfl, rfl, rfl, -⟩ : leadL (L.drop g.toNat) = L' ∧ D ++ (L.take g.toNat).map (sayDone a5) = D' ∧ 0 = g' ∧ last = last' ∧ (L.take g.toNat).map S65.f0 ++ ((L.drop g.toNat).take 1).map S65.f0 = ts := by simpa using hd
            refine ⟨(L.take g.toNat).map (sayDone a5), [], fun e => absurd e (by rw [leadL_len, List.length_drop]; omega), fun _ => rfl, fun _ => rfl, fun e => absurd (by rw [List.length_append, List.length_map, List.length_take]; omega) e, ?_, ⟨?_, hl0, by omega, ?_, by rw [List.append_nil]; omega⟩, fun e => absurd e hz, fun _ => rfl⟩
            · intro x hx
              obtain ⟨y, -, rfl⟩ := List.mem_map.1 hx
              exact ⟨rfl, rfl⟩
            · intro i hgi hi
              rw [leadL_len, List.length_drop] at hi
              have hl := ho.late (g.toNat + i) (by omega) (by omega)
              rw [← getD_drop65] at hl
              cases hL : L.drop g.toNat with
              | nil => rfl
              | cons y ys =>
                rw [hL] at hl
                cases i with
                | zero => exact hl
                | succ i => exact hl
            · rw [List.append_nil, done_f0, leadL_f0, List.append_assoc, ← List.map_append, List.take_append_drop]; exact ho.all
        · rw [if_neg c4] at hd
          obtain ⟨rfl, hD, rfl, rfl, -⟩ : L = L' ∧ (if atIdx (tsk a1) D 0 < 0 then D else D.eraseIdx (atIdx (tsk a1) D 0).toNat) = D' ∧ g = g' ∧ last = last' ∧ [] = ts := by simpa using hd
          have hsub : D'.length ≤ D.length := by
            rw [← hD]
            split
            · exact Nat.le_refl _
            · exact (List.eraseIdx_sublist _ _).length_le
          refine ⟨[], [], fun e => absurd e (Nat.lt_irrefl _), fun _ => rfl, fun e => absurd e (by omega), fun _ => rfl, fun x hx => (by cases hx), ⟨ho.late, hl0, by omega, ?_, by rw [List.append_nil]; omega⟩, fun e => ?_, fun _ => rfl⟩
          · rw [List.append_nil, List.map_nil, List.append_nil]; exact ho.all
          · subst e
            rw [(hs0 L).1, (hs0 L).2]
            exact ⟨fun i hi => by omega, by omega, hm0, hr0⟩
/-- What the statement adds up: the ops, and the units, of a group that was given just now. -/
def sumT (g g2 : Int) (L : List S65) (q : Nat) : Int := if g = 0 then sO (L.take (min q g2.toNat)) else 0
def sumU (g g2 : Int) (L : List S65) (q : Nat) : Int := if g = 0 then sN (L.take (min q g2.toNat)) else 0
theorem sumT_zero (g g2 : Int) (L : List S65) : sumT g g2 L 0 = 0 := by unfold sumT; split <;> simp [sO]
theorem sumU_zero (g g2 : Int) (L : List S65) : sumU g g2 L 0 = 0 := by unfold sumU; split <;> simp [sN]
theorem sumT_b {L : List S65} (h : Fine L) (g g2 : Int) (q : Nat) : 0 ≤ sumT g g2 L q ∧ sumT g g2 L q ≤ 8 * L.length := by
  unfold sumT
  split
  · have := sO_b (fine_take h (min q g2.toNat))
    have hl : (L.take (min q g2.toNat)).length ≤ L.length := by rw [List.length_take]; omega
    omega
  · omega
theorem sumU_b {L : List S65} (h : Fine L) (g g2 : Int) (q : Nat) : 0 ≤ sumU g g2 L q ∧ sumU g g2 L q ≤ 50 * L.length := by
  unfold sumU
  split
  · have := sN_b (fine_take h (min q g2.toNat))
    have hl : (L.take (min q g2.toNat)).length ≤ L.length := by rw [List.length_take]; omega
    omega
  · omega
theorem sumT_at {g g2 : Int} {L : List S65} {q : Nat} (hg : g = 0) (hq : q ≤ g2.toNat) : sumT g g2 L q = sO (L.take q) := by
  unfold sumT
  rw [if_pos hg, Nat.min_eq_left hq]
theorem sums_step (g g2 : Int) (L : List S65) (q : Nat) (hq : q < L.length) (h0 : 0 ≤ g2) :
    ((g = 0 ∧ (q : Int) < g2) → sumT g g2 L (q + 1) = sumT g g2 L q + (L.getD q z65).f1 ∧ sumU g g2 L (q + 1) = sumU g g2 L q + (L.getD q z65).f2) ∧
    (¬ (g = 0 ∧ (q : Int) < g2) → sumT g g2 L (q + 1) = sumT g g2 L q ∧ sumU g g2 L (q + 1) = sumU g g2 L q) := by
  unfold sumT sumU
  refine ⟨fun ⟨hg, hl⟩ => ?_, fun h => ?_⟩
  · rw [if_pos hg, if_pos hg, if_pos hg, if_pos hg, Nat.min_eq_left (by omega), Nat.min_eq_left (by omega)]
    exact ⟨sO_snoc L q hq, sN_snoc L q hq⟩
  · by_cases hg : g = 0
    · rw [if_pos hg, if_pos hg, if_pos hg, if_pos hg, Nat.min_eq_right (by omega), Nat.min_eq_right (by omega)]
      exact ⟨rfl, rfl⟩
    · rw [if_neg hg, if_neg hg, if_neg hg, if_neg hg]
      exact ⟨rfl, rfl⟩
theorem sums_end {g g2 : Int} {L : List S65} (hg : g = 0) (h1 : g2 ≤ L.length) : sumT g g2 L L.length = sO (L.take g2.toNat) ∧ sumU g g2 L L.length = sN (L.take g2.toNat) := by
  unfold sumT sumU
  rw [if_pos hg, if_pos hg, Nat.min_eq_right (by omega)]
  exact ⟨rfl, rfl⟩
theorem nod_fresh {M : List S65} (h : (M.map S65.f0).Nodup) (q : Nat) (hq : q < M.length) : (M.getD q z65).f0 ∉ (M.take q).map S65.f0 := by
  intro hm
  obtain ⟨x, hx, e⟩ := List.mem_map.1 hm
  obtain ⟨k, hk, hkx⟩ := List.mem_iff_getElem.1 hx
  have hkq : k < q := by rw [List.length_take] at hk; omega
  have hpw := List.pairwise_iff_getElem.1 h
  refine hpw k q (by rw [List.length_map]; omega) (by rw [List.length_map]; omega) hkq ?_
  have e1 : M[k]'(by omega) = x := by rw [← hkx, List.getElem_take]
  rw [List.getElem_map, List.getElem_map, e1, e, List.getD_eq_getElem?_getD, List.getElem?_eq_getElem hq]
  rfl
/-- Whom the map has met. -/
def Metf (f : Int → Option Int) (s : List Int) : Prop := ∀ x, f x = if x ∈ s then some 1 else none
theorem met_put {f : Int → Option Int} {s : List Int} (h : Metf f s) (x : Int) : Metf (fun y => if y = x then some 1 else f y) (s ++ [x]) := by
  intro y
  by_cases e : y = x
  · subst e; simp
  · simp [e, h y]
end Go.Proofs.Ythlahhkjoocigaa.XQueue
