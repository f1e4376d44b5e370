/- The plain law of SchedWaits, and the walks of SchedTells and SchedWaits as the rows call them. -/
import Derived.Test.YthlahhkjoocigaaHSched
import Derived.Test.YthlahhkjoocigaaHOpen
namespace Go.Proofs.Ythlahhkjoocigaa.XSched
open Go Go.RowKit Go.Proofs.YthlahhkjoocigaaW.PrintWords Go.Proofs.YthlahhkjoocigaaW.PrintLast
set_option linter.unusedVariables false
set_option linter.unusedSimpArgs false

theorem run_take (task : Int) : ∀ (l : List S51) (k : Nat), runN task (l.take k) ≤ runN task l
  | [], k => by simp
  | t :: ts, 0 => by simp [runN]
  | t :: ts, k + 1 => by
    have := run_take task ts k
    simp only [List.take_succ_cons, runN]
    split <;> omega
theorem best_take (task : Int) : ∀ (l : List S51) (k : Nat), bestN task (l.take k) ≤ bestN task l
  | [], k => by simp
  | t :: ts, 0 => by simp [bestN]
  | t :: ts, k + 1 => by
    have h1 := best_take task ts k
    have h2 := run_take task (t :: ts) (k + 1)
    rw [List.take_succ_cons] at h2 ⊢
    rw [bestN, bestN]
    omega
theorem best_drop (task : Int) : ∀ (l : List S51) (k : Nat), bestN task (l.drop k) ≤ bestN task l
  | [], k => by simp
  | t :: ts, 0 => by simp
  | t :: ts, k + 1 => by
    have h1 := best_drop task ts k
    rw [List.drop_succ_cons]
    rw [bestN]
    omega
theorem run_cut (task : Int) : ∀ (l : List S51) (k : Nat), runN task l ≤ runN task (l.take k) + runN task (l.drop k)
  | [], k => by simp [runN]
  | t :: ts, 0 => by simp
  | t :: ts, k + 1 => by
    have := run_cut task ts k
    rw [List.take_succ_cons, List.drop_succ_cons]
    simp only [runN]
    split <;> omega
theorem best_cut (task : Int) : ∀ (l : List S51) (k : Nat), bestN task l ≤ bestN task (l.take k) + bestN task (l.drop k)
  | [], k => by simp [bestN]
  | t :: ts, 0 => by simp
  | t :: ts, k + 1 => by
    have h1 := best_cut task ts k
    have h2 := run_cut task (t :: ts) (k + 1)
    have h3 := run_le_best task ((t :: ts).drop (k + 1))
    rw [List.take_succ_cons, List.drop_succ_cons] at *
    rw [bestN, bestN]
    omega
theorem run_own (task : Int) : ∀ l : List S51, (∀ t ∈ l, t.f0 = task) → runN task l = 0
  | [], _ => rfl
  | t :: ts, h => by
    rw [runN]
    have : waitsB task t = false := by simp [waitsB, h t List.mem_cons_self]
    simp [this]
theorem best_own (task : Int) : ∀ l : List S51, (∀ t ∈ l, t.f0 = task) → bestN task l = 0
  | [], _ => rfl
  | t :: ts, h => by
    rw [bestN, run_own task _ h, best_own task ts (fun t ht => h t (List.mem_cons_of_mem _ ht))]
    rfl

theorem waits_law_ev (l : List S51) (task at_ : Int) (hll : l.length ≤ lim) (h0 : 0 ≤ at_) (h1 : at_ ≤ 255) :
    ∃ k, ratlinelaw16_SchedWaits.f k l task at_ = some true := by
  have aw : ratlinelaw16_awake.f = some true := rfl
  refine Ev.rounds ?_
  refine Ev.bind (few_ev l 40 hll) ?_
  by_cases hf : fewB l 40 = true
  case neg => exact Ev.congr (fun k => by rw [if_neg hf, aw, Option.bind_some]) (Ev.now _)
  obtain ⟨hsm, hlen⟩ := few_parts hf
  refine Ev.congr (f := fun k => _) (fun k => by rw [if_pos hf]) ?_
  refine Ev.bind (turns_ev l (by omega) hsm) ?_
  have htl : (l.map turnUp).length = l.length := List.length_map _
  generalize l.map turnUp = t at htl
  have hm1 : wrap64 ((t.length : Int) + 1) = t.length + 1 := w64 (by omega) (by omega)
  have hm2 : Int.tmod (wrap64 at_) (t.length + 1) = at_ % (t.length + 1) := by rw [w64 (by omega) (by omega)]; exact Int.tmod_eq_emod_of_nonneg h0
  have h2 := Int.emod_nonneg at_ (b := (t.length : Int) + 1) (by omega)
  have h3 := Int.emod_lt_of_pos at_ (b := (t.length : Int) + 1) (by omega)
  have hend : Ev (fun k => ratlinelaw16_SchedWaits.j0 k task t false) true := by
    have key : ∀ (n i : Nat), t.length - i = n → i ≤ t.length → ∀ own : List S51, own.length = i → (∀ s ∈ own, s.f0 = task) → Ev (fun k => ratlinelaw16_SchedWaits.l0 k task own t (t.length : Int) (i : Int)) true := by
      intro n
      induction n with
      | zero =>
        intro i hn hi own hol ho
        obtain rfl : i = t.length := by omega
        refine Ev.step (fun k => ?_) (Ev.now _)
        rw [ratlinelaw16_SchedWaits.l0, if_neg (by omega), waits_best, best_own task own ho, Option.bind_some, if_pos (by omega), aw, Option.bind_some]
      | succ n ih =>
        intro i hn hi own hol ho
        have hA := ih (i + 1) (by omega) (by omega) (own ++ [⟨task, (t.getD i z51).f1⟩]) (by simp [hol]) (by
          intro s hs
          rcases List.mem_append.1 hs with hs | hs
          · exact ho s hs
          · rw [List.mem_singleton.1 hs])
        refine Ev.step (f := fun k => ratlinelaw16_SchedWaits.l0 k task (own ++ [⟨task, (t.getD i z51).f1⟩]) t (t.length : Int) ((i + 1 : Nat) : Int)) (fun k => ?_) hA
        rw [ratlinelaw16_SchedWaits.l0, if_pos (by omega), if_pos (by omega), if_pos (by omega), if_pos (by omega), rdT_nat, w64 (by omega) (by omega)]
        rfl
    refine Ev.step (f := fun k => ratlinelaw16_SchedWaits.l0 k task ([] : List S51) t (t.length : Int) 0) (fun k => ?_) (key t.length 0 rfl (Nat.zero_le _) [] rfl (by simp))
    rw [ratlinelaw16_SchedWaits.j0, if_neg (by simp)]
  refine Ev.congr (fun k => ?_) hend
  rw [hm1, if_neg (by omega), waits_best, Option.bind_some, hm2, if_pos h2, if_pos (by omega), waits_best, Option.bind_some, waits_best, Option.bind_some, if_neg (by omega)]
  have b1 := best_le task t
  have b2 := best_take task t (at_ % (t.length + 1) : Int).toNat
  have b3 := best_drop task t (at_ % (t.length + 1) : Int).toNat
  have b4 := best_cut task t (at_ % (t.length + 1) : Int).toNat
  rw [if_neg (by omega), if_neg (by rw [mx_max]; omega), w64 (by omega) (by omega), decide_eq_false (by omega)]

theorem tells_walk (A0 : Option Addr) (c0 : Nat) (l0 : List Int) (a1 a2 : Int) (A3 : Option Addr) (c3 : Nat) (l3 : List S51) (a4 a5 : Int) (w : World) (hr0 : Kd.C (Kd.int .i64) w A0 l0.length l0) (hc0 : l0.length ≤ c0) (hr3 : Kd.C k51 w A3 l3.length l3) (hc3 : l3.length ≤ c3)
    (h0 : l0.length ≤ 9223372036854775807) (h3 : l3.length ≤ 9223372036854775807) (hp0 : 0 ≤ a1) (hp1 : a1 ≤ 4294967295) (hwf : ∀ t ∈ l3, ∀ x ∈ t.f1, (Lit.int .i64 x).wf = true) :
    Calls Try.prog 5 #[.slice A0 l0.length c0, .int .u32 a1, .int .i64 a2, .slice A3 l3.length c3, .int .i64 a4, .int .i64 a5] w fun e w' => e = .returned (.bool true) ∧ Below w.heap.size w w' := by
  obtain ⟨k, hk⟩ := tells_ev l0 a1 a2 l3 a4 a5 h0 h3 hp0 hp1 hwf
  exact ratlinelaw16_SchedTells.calls k A0 c0 l0 a1 a2 A3 c3 l3 a4 a5 true w hr0 hc0 hr3 hc3 hk
theorem waits_walk (A0 : Option Addr) (c0 : Nat) (l0 : List S51) (a1 a2 : Int) (w : World) (hr0 : Kd.C k51 w A0 l0.length l0) (hc0 : l0.length ≤ c0) (h0 : l0.length ≤ 9223372036854775807) (hp0 : 0 ≤ a2) (hp1 : a2 ≤ 255) :
    Calls Try.prog 8 #[.slice A0 l0.length c0, .int .i64 a1, .int .u8 a2] w fun e w' => e = .returned (.bool true) ∧ Below w.heap.size w w' := by
  obtain ⟨k, hk⟩ := waits_law_ev l0 a1 a2 h0 hp0 hp1
  exact ratlinelaw16_SchedWaits.calls k A0 c0 l0 a1 a2 true w hr0 hc0 hk
#print axioms tells_walk
#print axioms waits_walk
end Go.Proofs.Ythlahhkjoocigaa.XSched
