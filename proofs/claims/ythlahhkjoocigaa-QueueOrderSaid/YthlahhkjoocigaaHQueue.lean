/- The plain law of layer 21 (the line of those that write): what the program's functions reckon. No program's code in sight. -/
import Derived.Test.YthlahhkjoocigaaXQueue6
namespace Go.Proofs.Ythlahhkjoocigaa.XQueue
open Go Go.RowKit Go.Proofs.YthlahhkjoocigaaW.PrintWords Go.Proofs.YthlahhkjoocigaaW.PrintLast
set_option linter.unusedVariables false
set_option linter.unusedSimpArgs false

theorem w64 {n : Int} (h0 : -9223372036854775808 ≤ n) (h1 : n ≤ 9223372036854775807) : wrap64 n = n := by unfold wrap64; omega
/-- Members as the statements make them. -/
def Fine (l : List S65) : Prop := ∀ m ∈ l, (1 ≤ m.f1 ∧ m.f1 ≤ 8) ∧ (1 ≤ m.f2 ∧ m.f2 ≤ 50)
/-- How many fit, o ops and n units being taken. -/
def fits (most room : Int) : Int → Int → List S65 → Nat
  | _, _, [] => 0
  | o, n, m :: ms => if o + m.f1 > most then 0 else if n + m.f2 > room then 0 else fits most room (o + m.f1) (n + m.f2) ms + 1
theorem fits_le (most room : Int) : ∀ (o n : Int) (l : List S65), fits most room o n l ≤ l.length
  | _, _, [] => Nat.le_refl _
  | o, n, m :: ms => by
    have := fits_le most room (o + m.f1) (n + m.f2) ms
    simp only [fits, List.length_cons]
    split
    · omega
    · split <;> omega
theorem drop65 (l : List S65) (i : Nat) (h : i < l.length) : l.drop i = l.getD i z65 :: l.drop (i + 1) := drop_cons z65 l i h
theorem fine_at {l : List S65} (h : Fine l) (i : Nat) (hi : i < l.length) : (1 ≤ (l.getD i z65).f1 ∧ (l.getD i z65).f1 ≤ 8) ∧ (1 ≤ (l.getD i z65).f2 ∧ (l.getD i z65).f2 ≤ 50) := by
  rw [List.getD_eq_getElem?_getD, List.getElem?_eq_getElem hi]
  exact h _ (List.getElem_mem _)
/-- More room, more ops: no fewer. -/
theorem fits_mono {most most' room room' : Int} (h1 : most ≤ most') (h2 : room ≤ room') : ∀ (o n : Int) (l : List S65), fits most room o n l ≤ fits most' room' o n l
  | _, _, [] => Nat.le_refl _
  | o, n, m :: ms => by
    have := fits_mono h1 h2 (o + m.f1) (n + m.f2) ms
    simp only [fits]
    split
    · omega
    · split
      · omega
      · rw [if_neg (by omega), if_neg (by omega)]
        omega
/-- Where there is room for all, all fit. -/
theorem fits_all {most room : Int} : ∀ (o n : Int) (l : List S65), Fine l → o + 8 * l.length ≤ most → n + 50 * l.length ≤ room → fits most room o n l = l.length
  | _, _, [], _, _, _ => rfl
  | o, n, m :: ms, hf, h1, h2 => by
    have hm := hf m List.mem_cons_self
    simp only [List.length_cons] at h1 h2
    have := fits_all (most := most) (room := room) (o + m.f1) (n + m.f2) ms (fun x hx => hf x (List.mem_cons_of_mem _ hx)) (by omega) (by omega)
    simp only [fits, List.length_cons]
    rw [if_neg (by omega), if_neg (by omega), this]
theorem group_ev (l0 l1 : List S65) (g most room : Int) (hf : Fine l0) (hl : l0.length ≤ 1000000) : Ev (fun k => queue_Group.f k l0 l1 g most room) (if g > 0 then 0 else (fits most room 0 0 l0 : Int)) := by
  unfold queue_Group.f
  by_cases hg : g > 0
  · simp only [hg, if_true]
    exact Ev.now _
  · simp only [hg, if_false]
    have key : ∀ (q i : Nat) (o n : Int), l0.length - i = q → i ≤ l0.length → 0 ≤ o → o ≤ 8 * i → 0 ≤ n → n ≤ 50 * i → Ev (fun k => queue_Group.l0 k most room o n l0 (l0.length : Int) (i : Int) l0 l1 g) ((i + fits most room o n (l0.drop i) : Nat) : Int) := by
      intro q
      induction q with
      | zero =>
        intro i o n hq hi _ _ _ _
        obtain rfl : i = l0.length := by omega
        refine Ev.step (fun k => ?_) (Ev.now _)
        rw [queue_Group.l0, if_neg (by omega)]
        simp [fits]
      | succ q ih =>
        intro i o n hq hi ho0 ho1 hn0 hn1
        have hlt : i < l0.length := by omega
        have hm := fine_at hf i hlt
        have hu : IntKind.u64.wrap (n + (l0.getD i z65).f2) = n + (l0.getD i z65).f2 := by rw [u64w]; omega
        have hw : wrap64 (o + (l0.getD i z65).f1) = o + (l0.getD i z65).f1 := w64 (by omega) (by omega)
        rw [drop65 l0 i hlt]
        simp only [fits]
        by_cases c1 : o + (l0.getD i z65).f1 > most
        · refine Ev.step (fun k => ?_) (Ev.now _)
          rw [queue_Group.l0, if_pos (by omega), if_pos (by omega), if_pos (by omega), rd65_nat, hw, if_pos c1, if_pos c1]
          simp
        · by_cases c2 : n + (l0.getD i z65).f2 > room
          · refine Ev.step (fun k => ?_) (Ev.now _)
            rw [queue_Group.l0, if_pos (by omega), if_pos (by omega), if_pos (by omega), rd65_nat, hw, hu, if_neg c1, if_pos c2, if_neg c1, if_pos c2]
            simp
          · have hA := ih (i + 1) (o + (l0.getD i z65).f1) (n + (l0.getD i z65).f2) (by omega) (by omega) (by omega) (by omega) (by omega) (by omega)
            refine Ev.step (fun k => ?_) (r := _) (f := fun k => queue_Group.l0 k most room (o + (l0.getD i z65).f1) (n + (l0.getD i z65).f2) l0 (l0.length : Int) ((i + 1 : Nat) : Int) l0 l1 g) ?_
            · rw [queue_Group.l0, if_pos (by omega), if_pos (by omega), if_pos (by omega), rd65_nat, hw, hu, if_neg c1, if_neg c2, w64 (by omega) (by omega)]
              rfl
            · rw [if_neg c1, if_neg c2, show i + (fits most room (o + (l0.getD i z65).f1) (n + (l0.getD i z65).f2) (l0.drop (i + 1)) + 1) = i + 1 + fits most room (o + (l0.getD i z65).f1) (n + (l0.getD i z65).f2) (l0.drop (i + 1)) by omega]
              exact hA
    have h0 := key l0.length 0 0 0 rfl (Nat.zero_le _) (by omega) (by omega) (by omega) (by omega)
    simpa using h0

/-! ### Join -/
theorem at_none {task : Int} : ∀ {l : List S65} {i : Int}, 0 ≤ i → (atIdx task l i < 0 ↔ ∀ m ∈ l, m.f0 ≠ task)
  | [], i, h => by simp [atIdx]
  | x :: xs, i, h => by
    simp only [atIdx, List.forall_mem_cons]
    by_cases hx : x.f0 = task
    · rw [if_pos hx]
      exact ⟨fun e => by omega, fun e => absurd hx e.1⟩
    · rw [if_neg hx, at_none (l := xs) (i := i + 1) (by omega)]
      exact ⟨fun e => ⟨hx, e⟩, fun e => e.2⟩
theorem of_in (l0 l1 : List S65) (task : Int) : (ofP l0 l1 task).2 = true ↔ ∃ m ∈ l0 ++ l1, m.f0 = task := by
  have h0 := at_none (task := task) (l := l0) (i := 0) (by omega)
  have h1 := at_none (task := task) (l := l1) (i := 0) (by omega)
  unfold ofP
  by_cases c0 : atIdx task l0 0 ≥ 0
  · rw [if_pos c0]
    have : ¬ ∀ m ∈ l0, m.f0 ≠ task := fun h => by have := h0.2 h; omega
    refine ⟨fun _ => ?_, fun _ => rfl⟩
    refine Classical.byContradiction fun hno => this (fun m hm e => hno ⟨m, List.mem_append_left _ hm, e⟩)
  · rw [if_neg c0]
    have g0 := h0.1 (by omega)
    by_cases c1 : atIdx task l1 0 ≥ 0
    · rw [if_pos c1]
      have : ¬ ∀ m ∈ l1, m.f0 ≠ task := fun h => by have := h1.2 h; omega
      refine ⟨fun _ => ?_, fun _ => rfl⟩
      refine Classical.byContradiction fun hno => this (fun m hm e => hno ⟨m, List.mem_append_right _ hm, e⟩)
    · rw [if_neg c1]
      have g1 := h1.1 (by omega)
      refine ⟨fun h => by simp at h, fun ⟨m, hm, e⟩ => ?_⟩
      rcases List.mem_append.1 hm with hm | hm
      · exact absurd e (g0 m hm)
      · exact absurd e (g1 m hm)
/-- What the statements ask of Join is always such as may be. -/
theorem does_task (t : Int) (h0 : -9223372036854775808 ≤ t) (h1 : t ≤ 9223372036854775807) : 0 ≤ Int.tmod (wrap64 (Int.tmod t 20 + 20)) 20 ∧ Int.tmod (wrap64 (Int.tmod t 20 + 20)) 20 < 20 := by
  have a := Int.tmod_lt_of_pos t (b := 20) (by omega)
  have b : -20 < Int.tmod t 20 := by
    by_cases h : t < 0
    · have := Int.tmod_lt_of_pos (-t) (b := 20) (by omega)
      rw [Int.neg_tmod] at this
      omega
    · have := Int.tmod_nonneg (a := t) 20 (by omega)
      omega
  rw [w64 (by omega) (by omega)]
  exact ⟨Int.tmod_nonneg 20 (by omega), Int.tmod_lt_of_pos _ (by omega)⟩
/-- What Join does for the statements. -/
def joinP (l0 l1 : List S65) (task ops need : Int) : List S65 :=
  if (ofP l0 l1 task).2 = true then l0 else l0 ++ [⟨task, ops, need, 0, if l0.length = 0 then 1 else 0, 0⟩]
theorem join_ev (l0 l1 : List S65) (g task ops need : Int) (h0 : l0.length ≤ 1000000) (h1 : l1.length ≤ 1000000) (ht : 0 ≤ task ∧ task < 20) (ho : 1 ≤ ops ∧ ops ≤ 8) (hn : 1 ≤ need ∧ need ≤ 50) :
    ∃ b e, queue_Join.f l0 l1 g task ops need = some (joinP l0 l1 task ops need, l1, g, b, e) := by
  have hb : badJ task ops need = false := by
    unfold badJ
    rw [decide_eq_false (by omega), decide_eq_false (by omega), decide_eq_false (by omega), decide_eq_false (by omega), decide_eq_false (by omega), decide_eq_false (by omega)]
    rfl
  unfold queue_Join.f joinP
  rw [if_pos ⟨h0, h1⟩, if_neg (by rw [hb]; decide)]
  by_cases hi : (ofP l0 l1 task).2 = true
  · rw [if_pos hi, if_pos hi]
    exact ⟨_, _, rfl⟩
  · rw [if_neg hi, if_neg hi]
    exact ⟨_, _, rfl⟩

def tsk (a : Int) : Int := Int.tmod (wrap64 (Int.tmod a 20 + 20)) 20
def opn (a : Int) : Int := wrap64 (1 + Int.tmod (wrap64 (Int.tmod a 8 + 8)) 8)
def ned (a : Int) : Int := IntKind.u64.wrap (1 + Int.tmod a 50)
theorem opn_in (t : Int) : 1 ≤ opn t ∧ opn t ≤ 8 := by
  have a := Int.tmod_lt_of_pos t (b := 8) (by omega)
  have b : -8 < Int.tmod t 8 := by
    by_cases h : t < 0
    · have := Int.tmod_lt_of_pos (-t) (b := 8) (by omega)
      rw [Int.neg_tmod] at this
      omega
    · have := Int.tmod_nonneg (a := t) 8 (by omega)
      omega
  unfold opn
  rw [w64 (n := Int.tmod t 8 + 8) (by omega) (by omega)]
  have c := Int.tmod_nonneg (a := Int.tmod t 8 + 8) 8 (by omega)
  have d := Int.tmod_lt_of_pos (Int.tmod t 8 + 8) (b := 8) (by omega)
  rw [w64 (by omega) (by omega)]
  omega
theorem ned_in (t : Int) (h : 0 ≤ t) : 1 ≤ ned t ∧ ned t ≤ 50 := by
  have c := Int.tmod_nonneg (a := t) 50 h
  have d := Int.tmod_lt_of_pos t (b := 50) (by omega)
  unfold ned
  rw [u64w]
  omega
theorem does_join (l0 l1 : List S65) (g a1 a2 a3 a4 a5 last m r : Int) (h0 : l0.length ≤ 1000000) (h1 : l1.length ≤ 1000000) (ht0 : -9223372036854775808 ≤ a1) (ht1 : a1 ≤ 9223372036854775807) (h4 : 0 ≤ a4) :
    Ev (fun k => ratlinelaw21_does.f k l0 l1 g 0 a1 a2 a3 a4 a5 last m r) (joinP l0 l1 (tsk a1) (opn a2) (ned a4), l1, g, last, ([] : List Int)) := by
  obtain ⟨b, e, hj⟩ := join_ev l0 l1 g (tsk a1) (opn a2) (ned a4) h0 h1 (does_task a1 ht0 ht1) (opn_in a2) (ned_in a4 h4)
  unfold ratlinelaw21_does.f
  refine Ev.step (fun k => ?_) (Ev.now _)
  rw [if_pos (by decide), ratlinelaw21_does.j0, if_pos (by decide)]
  show (queue_Join.f l0 l1 g (tsk a1) (opn a2) (ned a4)).bind _ = _
  rw [hj]
  rfl
#print axioms does_join
end Go.Proofs.Ythlahhkjoocigaa.XQueue
