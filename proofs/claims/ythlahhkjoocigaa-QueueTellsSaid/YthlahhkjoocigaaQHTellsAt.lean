/- Contracts of the program's own functions for layer 21, with the answers that HRefHand gives of the document's; and what the line keeps. Conditions: lines of at most 1000 members. -/
import Derived.Test.YthlahhkjoocigaaQHRefHand
namespace Go.Proofs.Ythlahhkjoocigaa.XQueue
open Go Go.RowKit Go.Proofs.YthlahhkjoocigaaW.PrintWords Go.Proofs.YthlahhkjoocigaaW.PrintLast Go.Proofs.YthlahhkjoocigaaW.PrintMore
attribute [local go_sem] max2_int min2_int max_two min_two max_three min_three max_four min_four
set_option linter.unusedVariables false
set_option linter.unusedSimpArgs false
/-- The program's own functions, with the same answers. -/
theorem pJoin_at (A0 : Option Addr) (c0 : Nat) (L : List S65) (A1 : Option Addr) (c1 : Nat) (D : List S65) (g t o n : Int) (w : World) (hr0 : Kd.C k65 w A0 L.length L) (hc0 : L.length ≤ c0) (hr1 : Kd.C k65 w A1 D.length D) (hc1 : D.length ≤ c1) (hl0 : L.length ≤ 1000) (hl1 : D.length ≤ 1000) :
    Calls Try.prog 45 #[.agg #[.slice A0 L.length c0, .slice A1 D.length c1, .int .i64 g], .int .i64 t, .int .i64 o, .int .u64 n] w fun e w' => ∃ (AL : Option Addr) (cL : Nat) (AD : Option Addr) (cD : Nat), e = .returned (.tuple #[.agg #[.slice AL (joinR L D t o n).1.length cL, .slice AD D.length cD, .int .i64 g], .bool (joinR L D t o n).2.1, .int .i64 (joinR L D t o n).2.2]) ∧ Kd.R k65 65 w' w.heap.size (fun _ => True) (.slice AL (joinR L D t o n).1.length cL) (joinR L D t o n).1 ∧ Kd.R k65 65 w' w.heap.size (fun _ => True) (.slice AD D.length cD) D ∧ Below w.heap.size w w' := by
  have hf : queue_Join.f L D g t o n = some ((joinR L D t o n).1, D, g, (joinR L D t o n).2.1, (joinR L D t o n).2.2) := by
    unfold queue_Join.f joinR
    rw [if_pos (by omega)]
    split
    · rfl
    · split <;> rfl
  refine (queue_Join.calls A0 c0 L A1 c1 D g t o n _ _ _ _ _ w hr0 hc0 hr1 hc1 hf).mono ?_
  rintro e w' ⟨v0, v1, rfl, h0, h1, hb⟩
  obtain ⟨AL, cL, rfl⟩ := Kd.R_slice h0
  obtain ⟨AD, cD, rfl⟩ := Kd.R_slice h1
  exact ⟨AL, cL, AD, cD, rfl, Kd.R_mono h0 (fun _ _ => trivial), Kd.R_mono h1 (fun _ _ => trivial), hb⟩
theorem pGive_at (A0 : Option Addr) (c0 : Nat) (L : List S65) (A1 : Option Addr) (c1 : Nat) (D : List S65) (g n last : Int) (w : World) (hr0 : Kd.C k65 w A0 L.length L) (hc0 : L.length ≤ c0) (hr1 : Kd.C k65 w A1 D.length D) (hc1 : D.length ≤ c1) (hl0 : L.length ≤ 1000) (hl1 : D.length ≤ 1000) (hg : 0 ≤ g) :
    Calls Try.prog 44 #[.agg #[.slice A0 L.length c0, .slice A1 D.length c1, .int .i64 g], .int .i64 n, .int .u64 last] w fun e w' => ∃ (AL : Option Addr) (cL : Nat) (AD : Option Addr) (cD : Nat), e = .returned (.tuple #[.agg #[.slice AL L.length cL, .slice AD D.length cD, .int .i64 (giveR L g n last).2.1], .int .u64 (giveR L g n last).2.2]) ∧ Kd.R k65 65 w' w.heap.size (fun _ => True) (.slice AL L.length cL) (giveR L g n last).1 ∧ Kd.R k65 65 w' w.heap.size (fun _ => True) (.slice AD D.length cD) D ∧ Below w.heap.size w w' := by
  have hf : queue_Give.f L D g n last = some ((giveR L g n last).1, D, (giveR L g n last).2.1, (giveR L g n last).2.2) := by
    unfold queue_Give.f giveR
    rw [if_pos (by omega)]
    by_cases h : g > 0 ∨ n < 1 ∨ n > L.length
    · rw [if_pos h, if_pos (by omega)]
    · rw [if_neg h, if_neg (by omega)]
  refine (queue_Give.calls A0 c0 L A1 c1 D g n last _ _ _ _ w hr0 hc0 hr1 hc1 hf).mono ?_
  rintro e w' ⟨v0, v1, rfl, h0, h1, hb⟩
  obtain ⟨AL, cL, rfl⟩ := Kd.R_slice h0
  obtain ⟨AD, cD, rfl⟩ := Kd.R_slice h1
  rw [giveR_len] at h0 ⊢
  exact ⟨AL, cL, AD, cD, rfl, Kd.R_mono h0 (fun _ _ => trivial), Kd.R_mono h1 (fun _ _ => trivial), hb⟩
theorem pApply_at (A0 : Option Addr) (c0 : Nat) (L : List S65) (A1 : Option Addr) (c1 : Nat) (D : List S65) (g : Int) (w : World) (hr0 : Kd.C k65 w A0 L.length L) (hc0 : L.length ≤ c0) (hr1 : Kd.C k65 w A1 D.length D) (hc1 : D.length ≤ c1) (hl0 : L.length ≤ 1000) (hl1 : D.length ≤ 1000) (hg0 : 0 ≤ g) (hg1 : g ≤ L.length) :
    Calls Try.prog 48 #[.agg #[.slice A0 L.length c0, .slice A1 D.length c1, .int .i64 g]] w fun e w' => ∃ (AL : Option Addr) (cL : Nat) (AD : Option Addr) (cD : Nat) (AT : Option Addr) (cT : Nat), e = .returned (.tuple #[.agg #[.slice AL L.length cL, .slice AD D.length cD, .int .i64 g], .slice AT ((L.take g.toNat).map S65.f0).length cT]) ∧ Kd.R k65 65 w' w.heap.size (fun _ => True) (.slice AL L.length cL) (updN sayApply g.toNat L) ∧ Kd.R k65 65 w' w.heap.size (fun _ => True) (.slice AD D.length cD) D ∧ Kd.R (Kd.int .i64) 3 w' w.heap.size (fun _ => True) (.slice AT ((L.take g.toNat).map S65.f0).length cT) ((L.take g.toNat).map S65.f0) ∧ Below w.heap.size w w' := by
  have hf : queue_Apply.f L D g = some (updN sayApply g.toNat L, D, g, (L.take g.toNat).map S65.f0) := by
    unfold queue_Apply.f
    rw [if_pos (by omega)]
  refine (queue_Apply.calls A0 c0 L A1 c1 D g _ _ _ _ w hr0 hc0 hr1 hc1 hf).mono ?_
  rintro e w' ⟨v0, v1, v3, rfl, h0, h1, h3, hb⟩
  obtain ⟨AL, cL, rfl⟩ := Kd.R_slice h0
  obtain ⟨AD, cD, rfl⟩ := Kd.R_slice h1
  obtain ⟨AT, cT, rfl⟩ := Kd.R_slice h3
  rw [updN_len] at h0 ⊢
  exact ⟨AL, cL, AD, cD, AT, cT, rfl, Kd.R_mono h0 (fun _ _ => trivial), Kd.R_mono h1 (fun _ _ => trivial), h3, hb⟩
theorem pEnd_at (A0 : Option Addr) (c0 : Nat) (L : List S65) (A1 : Option Addr) (c1 : Nat) (D : List S65) (g er : Int) (w : World) (hr0 : Kd.C k65 w A0 L.length L) (hc0 : L.length ≤ c0) (hr1 : Kd.C k65 w A1 D.length D) (hc1 : D.length ≤ c1) (hl0 : L.length ≤ 1000) (hl1 : D.length ≤ 1000) (hg0 : 0 ≤ g) (hg1 : g ≤ L.length) :
    Calls Try.prog 50 #[.agg #[.slice A0 L.length c0, .slice A1 D.length c1, .int .i64 g], .int .i64 er] w fun e w' => ∃ (AL : Option Addr) (cL : Nat) (AD : Option Addr) (cD : Nat) (AT : Option Addr) (cT : Nat), e = .returned (.tuple #[.agg #[.slice AL (endR L D g er).1.length cL, .slice AD (endR L D g er).2.1.length cD, .int .i64 0], .slice AT (endR L D g er).2.2.length cT]) ∧ Kd.R k65 65 w' w.heap.size (fun _ => True) (.slice AL (endR L D g er).1.length cL) (endR L D g er).1 ∧ Kd.R k65 65 w' w.heap.size (fun _ => True) (.slice AD (endR L D g er).2.1.length cD) (endR L D g er).2.1 ∧ Kd.R (Kd.int .i64) 3 w' w.heap.size (fun _ => True) (.slice AT (endR L D g er).2.2.length cT) (endR L D g er).2.2 ∧ Below w.heap.size w w' := by
  have hf : queue_End.f L D g er = some ((endR L D g er).1, (endR L D g er).2.1, 0, (endR L D g er).2.2) := by
    rw [end_ev L D g er hl0 hl1 hg0 hg1]
    unfold endR
    split <;> rfl
  refine (queue_End.calls A0 c0 L A1 c1 D g er _ _ _ _ w hr0 hc0 hr1 hc1 hf).mono ?_
  rintro e w' ⟨v0, v1, v3, rfl, h0, h1, h3, hb⟩
  obtain ⟨AL, cL, rfl⟩ := Kd.R_slice h0
  obtain ⟨AD, cD, rfl⟩ := Kd.R_slice h1
  obtain ⟨AT, cT, rfl⟩ := Kd.R_slice h3
  exact ⟨AL, cL, AD, cD, AT, cT, rfl, Kd.R_mono h0 (fun _ _ => trivial), Kd.R_mono h1 (fun _ _ => trivial), h3, hb⟩
theorem pTake_at (A0 : Option Addr) (c0 : Nat) (L : List S65) (A1 : Option Addr) (c1 : Nat) (D : List S65) (g t : Int) (w : World) (hr0 : Kd.C k65 w A0 L.length L) (hc0 : L.length ≤ c0) (hr1 : Kd.C k65 w A1 D.length D) (hc1 : D.length ≤ c1) (hl0 : L.length ≤ 1000) (hl1 : D.length ≤ 1000) :
    Calls Try.prog 54 #[.agg #[.slice A0 L.length c0, .slice A1 D.length c1, .int .i64 g], .int .i64 t] w fun e w' => ∃ (AL : Option Addr) (cL : Nat) (AD : Option Addr) (cD : Nat), e = .returned (.tuple #[.agg #[.slice AL L.length cL, .slice AD (takeR D t).1.length cD, .int .i64 g], .agg #[.int .i64 (takeR D t).2.1.f0, .int .i64 (takeR D t).2.1.f1, .int .u64 (takeR D t).2.1.f2, .int .u64 (takeR D t).2.1.f3, .int .u8 (takeR D t).2.1.f4, .int .i64 (takeR D t).2.1.f5], .bool (takeR D t).2.2]) ∧ Kd.R k65 65 w' w.heap.size (fun _ => True) (.slice AL L.length cL) L ∧ Kd.R k65 65 w' w.heap.size (fun _ => True) (.slice AD (takeR D t).1.length cD) (takeR D t).1 ∧ Below w.heap.size w w' := by
  have hf : queue_Take.f L D g t = some (L, (takeR D t).1, g, (takeR D t).2.1.f0, (takeR D t).2.1.f1, (takeR D t).2.1.f2, (takeR D t).2.1.f3, (takeR D t).2.1.f4, (takeR D t).2.1.f5, (takeR D t).2.2) := by
    unfold queue_Take.f takeR
    rw [if_pos (by omega)]
    split <;> rfl
  refine (queue_Take.calls A0 c0 L A1 c1 D g t _ _ _ _ _ _ _ _ _ _ w hr0 hc0 hr1 hc1 hf).mono ?_
  rintro e w' ⟨v0, v1, rfl, h0, h1, hb⟩
  obtain ⟨AL, cL, rfl⟩ := Kd.R_slice h0
  obtain ⟨AD, cD, rfl⟩ := Kd.R_slice h1
  exact ⟨AL, cL, AD, cD, rfl, Kd.R_mono h0 (fun _ _ => trivial), Kd.R_mono h1 (fun _ _ => trivial), hb⟩
theorem pOf_at (A0 : Option Addr) (c0 : Nat) (L : List S65) (A1 : Option Addr) (c1 : Nat) (D : List S65) (g t : Int) (w : World) (hr0 : Kd.C k65 w A0 L.length L) (hc0 : L.length ≤ c0) (hr1 : Kd.C k65 w A1 D.length D) (hc1 : D.length ≤ c1) :
    Calls Try.prog 42 #[.agg #[.slice A0 L.length c0, .slice A1 D.length c1, .int .i64 g], .int .i64 t] w fun e w' => e = .returned (.tuple #[.agg #[.int .i64 (ofP L D t).1.f0, .int .i64 (ofP L D t).1.f1, .int .u64 (ofP L D t).1.f2, .int .u64 (ofP L D t).1.f3, .int .u8 (ofP L D t).1.f4, .int .i64 (ofP L D t).1.f5], .bool (ofP L D t).2]) ∧ Below w.heap.size w w' :=
  queue_Of.calls 3 _ _ _ L _ _ _ D g t _ _ _ _ _ _ _ w (V_of hr0 hc0) (V_of hr1 hc1) (of_ev L D g t)
theorem pFail_at (A0 : Option Addr) (c0 : Nat) (L : List S65) (A1 : Option Addr) (c1 : Nat) (D : List S65) (g er : Int) (w : World) (hr0 : Kd.C k65 w A0 L.length L) (hc0 : L.length ≤ c0) (hr1 : Kd.C k65 w A1 D.length D) (hc1 : D.length ≤ c1) (hl0 : L.length ≤ 1000) (hl1 : D.length ≤ 1000) :
    Calls Try.prog 52 #[.agg #[.slice A0 L.length c0, .slice A1 D.length c1, .int .i64 g], .int .i64 er] w fun e w' => ∃ (AL : Option Addr) (cL : Nat) (AD : Option Addr) (cD : Nat) (AT : Option Addr) (cT : Nat), e = .returned (.tuple #[.agg #[.slice AL (L.drop L.length).length cL, .slice AD (D ++ (L.take L.length).map (sayDone er)).length cD, .int .i64 0], .slice AT ((L.take L.length).map S65.f0).length cT]) ∧ Kd.R k65 65 w' w.heap.size (fun _ => True) (.slice AL (L.drop L.length).length cL) (L.drop L.length) ∧ Kd.R k65 65 w' w.heap.size (fun _ => True) (.slice AD (D ++ (L.take L.length).map (sayDone er)).length cD) (D ++ (L.take L.length).map (sayDone er)) ∧ Kd.R (Kd.int .i64) 3 w' w.heap.size (fun _ => True) (.slice AT ((L.take L.length).map S65.f0).length cT) ((L.take L.length).map S65.f0) ∧ Below w.heap.size w w' := by
  have hf : queue_Fail.f L D g er = some (L.drop L.length, D ++ (L.take L.length).map (sayDone er), 0, (L.take L.length).map S65.f0) := by
    unfold queue_Fail.f queue_done.f
    rw [if_pos (by omega), Option.bind_some, Int.toNat_natCast]
  refine (queue_Fail.calls A0 c0 L A1 c1 D g er _ _ _ _ w hr0 hc0 hr1 hc1 hf).mono ?_
  rintro e w' ⟨v0, v1, v3, rfl, h0, h1, h3, hb⟩
  obtain ⟨AL, cL, rfl⟩ := Kd.R_slice h0
  obtain ⟨AD, cD, rfl⟩ := Kd.R_slice h1
  obtain ⟨AT, cT, rfl⟩ := Kd.R_slice h3
  exact ⟨AL, cL, AD, cD, AT, cT, rfl, Kd.R_mono h0 (fun _ _ => trivial), Kd.R_mono h1 (fun _ _ => trivial), h3, hb⟩
/-- Members as Join lets them be. -/
def Wide (l : List S65) : Prop := ∀ m ∈ l, (1 ≤ m.f1 ∧ m.f1 ≤ 32) ∧ (1 ≤ m.f2 ∧ m.f2 ≤ 1073741824)
theorem wide_at {l : List S65} (h : Wide l) (i : Nat) (hi : i < l.length) : (1 ≤ (l.getD i z65).f1 ∧ (l.getD i z65).f1 ≤ 32) ∧ (1 ≤ (l.getD i z65).f2 ∧ (l.getD i z65).f2 ≤ 1073741824) := h _ (getD_mem65 hi)
def grpI (g most room : Int) (L : List S65) : Int := if g > 0 then 0 else (fits most room 0 0 L : Int)
theorem groupW_ev (l0 l1 : List S65) (g most room : Int) (hf : Wide l0) (hl : l0.length ≤ 1000) : Ev (fun k => queue_Group.f k l0 l1 g most room) (grpI g most room l0) := by
  unfold queue_Group.f grpI
  by_cases hg : g > 0
  · simp only [hg, if_true]
    exact Ev.now _
  · simp only [hg, if_false]
    have key : ∀ (q i : Nat) (o n : Int), l0.length - i = q → i ≤ l0.length → 0 ≤ o → o ≤ 32 * i → 0 ≤ n → n ≤ 1073741824 * i → Ev (fun k => queue_Group.l0 k most room o n l0 (l0.length : Int) (i : Int) l0 l1 g) ((i + fits most room o n (l0.drop i) : Nat) : Int) := by
      intro q
      induction q with
      | zero =>
        intro i o n hq hi _ _ _ _
        obtain rfl : i = l0.length := by omega
        refine Ev.step (fun k => ?_) (Ev.now _)
        rw [queue_Group.l0, if_neg (by omega)]
        simp [fits]
      | succ q ih =>
        intro i o n hq hi ho0 ho1 hn0 hn1
        have hlt : i < l0.length := by omega
        have hm := wide_at hf i hlt
        have hu : IntKind.u64.wrap (n + (l0.getD i z65).f2) = n + (l0.getD i z65).f2 := by rw [u64w]; omega
        have hw : wrap64 (o + (l0.getD i z65).f1) = o + (l0.getD i z65).f1 := w64 (by omega) (by omega)
        rw [drop65 l0 i hlt]
        simp only [fits]
        by_cases c1 : o + (l0.getD i z65).f1 > most
        · refine Ev.step (fun k => ?_) (Ev.now _)
          rw [queue_Group.l0, if_pos (by omega), if_pos (by omega), if_pos (by omega), rd65_nat, hw, if_pos c1, if_pos c1]
          simp
        · by_cases c2 : n + (l0.getD i z65).f2 > room
          · refine Ev.step (fun k => ?_) (Ev.now _)
            rw [queue_Group.l0, if_pos (by omega), if_pos (by omega), if_pos (by omega), rd65_nat, hw, hu, if_neg c1, if_pos c2, if_neg c1, if_pos c2]
            simp
          · have hA := ih (i + 1) (o + (l0.getD i z65).f1) (n + (l0.getD i z65).f2) (by omega) (by omega) (by omega) (by omega) (by omega) (by omega)
            refine Ev.step (fun k => ?_) (r := _) (f := fun k => queue_Group.l0 k most room (o + (l0.getD i z65).f1) (n + (l0.getD i z65).f2) l0 (l0.length : Int) ((i + 1 : Nat) : Int) l0 l1 g) ?_
            · rw [queue_Group.l0, if_pos (by omega), if_pos (by omega), if_pos (by omega), rd65_nat, hw, hu, if_neg c1, if_neg c2, w64 (by omega) (by omega)]
              rfl
            · rw [if_neg c1, if_neg c2, show i + (fits most room (o + (l0.getD i z65).f1) (n + (l0.getD i z65).f2) (l0.drop (i + 1)) + 1) = i + 1 + fits most room (o + (l0.getD i z65).f1) (n + (l0.getD i z65).f2) (l0.drop (i + 1)) by omega]
              exact hA
    have h0 := key l0.length 0 0 0 rfl (Nat.zero_le _) (by omega) (by omega) (by omega) (by omega)
    simpa using h0
theorem refGroup_ev (l0 l1 : List S65) (g most room : Int) (hg0 : 0 ≤ g) (hf : Wide l0) (hl : l0.length ≤ 1000) : Ev (fun k => ratlineref21_Group.f k l0 l1 g most room) (grpI g most room l0) := by
  unfold ratlineref21_Group.f grpI
  by_cases hg : g > 0
  · rw [if_pos hg]
    refine Ev.step (f := fun k => ratlineref21_Group.j1 k most room 0 0 0 false l0 l1 g) (fun k => ?_) (Ev.step (fun k => ?_) (Ev.now _))
    · rw [ratlineref21_Group.l0, if_neg (by omega)]
    · rw [ratlineref21_Group.j1, if_neg (by decide)]
  · rw [if_neg hg]
    obtain rfl : g = 0 := by omega
    have key : ∀ (q i : Nat) (o n : Int), l0.length - i = q → i ≤ l0.length → 0 ≤ o → o ≤ 32 * i → 0 ≤ n → n ≤ 1073741824 * i → Ev (fun k => ratlineref21_Group.l0 k most room (i : Int) o n l0 l1 0) ((i + fits most room o n (l0.drop i) : Nat) : Int) := by
      intro q
      induction q with
      | zero =>
        intro i o n hq hi _ _ _ _
        obtain rfl : i = l0.length := by omega
        refine Ev.step (f := fun k => ratlineref21_Group.j1 k most room (l0.length : Int) o n false l0 l1 0) (fun k => ?_) (Ev.step (fun k => ?_) (Ev.now _))
        · rw [ratlineref21_Group.l0, if_pos rfl, decide_eq_false (by omega)]
        · rw [ratlineref21_Group.j1, if_neg (by decide)]
          simp [fits]
      | succ q ih =>
        intro i o n hq hi ho0 ho1 hn0 hn1
        have hlt : i < l0.length := by omega
        have hm := wide_at hf i hlt
        have hu : IntKind.u64.wrap (n + (l0.getD i z65).f2) = n + (l0.getD i z65).f2 := by rw [u64w]; omega
        have hw : wrap64 (o + (l0.getD i z65).f1) = o + (l0.getD i z65).f1 := w64 (by omega) (by omega)
        refine Ev.step (f := fun k => ratlineref21_Group.j1 k most room (i : Int) o n true l0 l1 0) (fun k => ?_) ?_
        · rw [ratlineref21_Group.l0, if_pos rfl, decide_eq_true (by omega)]
        rw [drop65 l0 i hlt]
        simp only [fits]
        by_cases c1 : o + (l0.getD i z65).f1 > most
        · refine Ev.step (fun k => ?_) (Ev.now _)
          rw [ratlineref21_Group.j1, if_pos rfl, if_pos (by omega), if_pos (by omega), rd65_nat, hw, if_pos c1, if_pos c1]
          simp
        · by_cases c2 : n + (l0.getD i z65).f2 > room
          · refine Ev.step (fun k => ?_) (Ev.now _)
            rw [ratlineref21_Group.j1, if_pos rfl, if_pos (by omega), if_pos (by omega), rd65_nat, hw, hu, if_neg c1, if_pos c2, if_neg c1, if_pos c2]
            simp
          · have hA := ih (i + 1) (o + (l0.getD i z65).f1) (n + (l0.getD i z65).f2) (by omega) (by omega) (by omega) (by omega) (by omega) (by omega)
            refine Ev.step (fun k => ?_) (r := _) (f := fun k => ratlineref21_Group.l0 k most room ((i + 1 : Nat) : Int) (o + (l0.getD i z65).f1) (n + (l0.getD i z65).f2) l0 l1 0) ?_
            · rw [ratlineref21_Group.j1, if_pos rfl, if_pos (by omega), if_pos (by omega), rd65_nat, hw, hu, if_neg c1, if_neg c2, w64 (by omega) (by omega)]
              rfl
            · rw [if_neg c1, if_neg c2, show i + (fits most room (o + (l0.getD i z65).f1) (n + (l0.getD i z65).f2) (l0.drop (i + 1)) + 1) = i + 1 + fits most room (o + (l0.getD i z65).f1) (n + (l0.getD i z65).f2) (l0.drop (i + 1)) by omega]
              exact hA
    have h0 := key l0.length 0 0 0 rfl (Nat.zero_le _) (by omega) (by omega) (by omega) (by omega)
    simpa using h0
theorem pGroup_at (A0 : Option Addr) (c0 : Nat) (L : List S65) (A1 : Option Addr) (c1 : Nat) (D : List S65) (g m r : Int) (w : World) (hr0 : Kd.C k65 w A0 L.length L) (hc0 : L.length ≤ c0) (hr1 : Kd.C k65 w A1 D.length D) (hc1 : D.length ≤ c1) (hf : Wide L) (hl : L.length ≤ 1000) :
    Calls Try.prog 43 #[.agg #[.slice A0 L.length c0, .slice A1 D.length c1, .int .i64 g], .int .i64 m, .int .u64 r] w fun e w' => e = .returned (.int .i64 (grpI g m r L)) ∧ Below w.heap.size w w' := by
  obtain ⟨k, hk⟩ := groupW_ev L D g m r hf hl
  exact queue_Group.calls k A0 c0 L A1 c1 D g m r _ w hr0 hc0 hr1 hc1 (hk k (Nat.le_refl _))
theorem refGroup_at (A0 : Option Addr) (c0 : Nat) (L : List S65) (A1 : Option Addr) (c1 : Nat) (D : List S65) (g m r : Int) (w : World) (hr0 : Kd.C k65 w A0 L.length L) (hc0 : L.length ≤ c0) (hr1 : Kd.C k65 w A1 D.length D) (hc1 : D.length ≤ c1) (hf : Wide L) (hl : L.length ≤ 1000) (hg : 0 ≤ g) :
    Calls Try.prog 58 #[.agg #[.slice A0 L.length c0, .slice A1 D.length c1, .int .i64 g], .int .i64 m, .int .u64 r] w fun e w' => e = .returned (.int .i64 (grpI g m r L)) ∧ Below w.heap.size w w' := by
  obtain ⟨k, hk⟩ := refGroup_ev L D g m r hg hf hl
  exact ratlineref21_Group.calls k A0 c0 L A1 c1 D g m r _ w hr0 hc0 hr1 hc1 (hk k (Nat.le_refl _))
/-- Two rows that are one are the same. -/
theorem members_ev (D : List S65) (hl : D.length ≤ 1000) : Ev (fun k => ratlinelow_Members.f k D D) true := by
  unfold ratlinelow_Members.f
  simp only [if_true]
  have key : ∀ (q i : Nat), D.length - i = q → i ≤ D.length → Ev (fun k => ratlinelow_Members.l0 k D D (D.length : Int) (i : Int)) true := by
    intro q
    induction q with
    | zero =>
      intro i hq hi
      refine Ev.step (fun k => ?_) (Ev.now _)
      rw [ratlinelow_Members.l0, if_neg (by omega)]
    | succ q ih =>
      intro i hq hi
      refine Ev.step (f := fun k => ratlinelow_Members.l0 k D D (D.length : Int) ((i + 1 : Nat) : Int)) (fun k => ?_) (ih (i + 1) (by omega) (by omega))
      rw [ratlinelow_Members.l0, if_pos (by omega), if_pos (by omega), if_pos (by omega), if_pos (by omega), if_neg (by simp), w64 (by omega) (by omega)]
      rfl
  exact key D.length 0 rfl (Nat.zero_le _)
theorem ints_q (A0 : Option Addr) (c0 : Nat) (A1 : Option Addr) (c1 : Nat) (D : List Int) (w : World) (hr0 : Kd.C (Kd.int .i64) w A0 D.length D) (hc0 : D.length ≤ c0) (hr1 : Kd.C (Kd.int .i64) w A1 D.length D) (hc1 : D.length ≤ c1) (hl : D.length ≤ 1000) :
    Calls Try.prog 40 #[.slice A0 D.length c0, .slice A1 D.length c1] w fun e w' => e = .returned (.bool true) ∧ Below w.heap.size w w' := by
  have hev : Ev (fun k => ratlinelow_Ints.f k D D) true := by
    unfold ratlinelow_Ints.f
    simp only [if_true]
    have key : ∀ (q i : Nat), D.length - i = q → i ≤ D.length → Ev (fun k => ratlinelow_Ints.l0 k D D (D.length : Int) (i : Int)) true := by
      intro q
      induction q with
      | zero =>
        intro i hq hi
        refine Ev.step (fun k => ?_) (Ev.now _)
        rw [ratlinelow_Ints.l0, if_neg (by omega)]
      | succ q ih =>
        intro i hq hi
        refine Ev.step (f := fun k => ratlinelow_Ints.l0 k D D (D.length : Int) ((i + 1 : Nat) : Int)) (fun k => ?_) (ih (i + 1) (by omega) (by omega))
        rw [ratlinelow_Ints.l0, if_pos (by omega), if_pos (by omega), if_pos (by omega), if_pos (by omega), if_pos rfl, w64 (by omega) (by omega)]
        rfl
    exact key D.length 0 rfl (Nat.zero_le _)
  obtain ⟨k, hk⟩ := hev
  exact (ratlinelow_Ints.calls k A0 c0 D A1 c1 D true w hr0 hc0 hr1 hc1 (hk k (Nat.le_refl _))).mono (fun e w' h => ⟨h.1, by first | exact h.2 | exact h.2.below⟩)
theorem line_at (A0 : Option Addr) (c0 : Nat) (L : List S65) (A1 : Option Addr) (c1 : Nat) (D : List S65) (g : Int) (A2 : Option Addr) (c2 : Nat) (A3 : Option Addr) (c3 : Nat) (w : World) (hr0 : Kd.C k65 w A0 L.length L) (hc0 : L.length ≤ c0) (hr1 : Kd.C k65 w A1 D.length D) (hc1 : D.length ≤ c1) (hr2 : Kd.C k65 w A2 L.length L) (hc2 : L.length ≤ c2) (hr3 : Kd.C k65 w A3 D.length D) (hc3 : D.length ≤ c3) (hl : L.length ≤ 1000) (hd : D.length ≤ 1000) :
    Calls Try.prog 57 #[.agg #[.slice A0 L.length c0, .slice A1 D.length c1, .int .i64 g], .agg #[.slice A2 L.length c2, .slice A3 D.length c3, .int .i64 g]] w fun e w' => e = .returned (.bool true) ∧ Below w.heap.size w w' := by
  obtain ⟨k1, h1⟩ := members_ev L hl
  obtain ⟨k2, h2⟩ := members_ev D hd
  have hk : ratlinelow_Line.f (max k1 k2) L D g L D g = some true := by
    unfold ratlinelow_Line.f
    rw [if_pos rfl]
    have e1 := h1 (max k1 k2) (Nat.le_max_left _ _)
    have e2 := h2 (max k1 k2) (Nat.le_max_right _ _)
    simp only at e1 e2
    rw [e1, Option.bind_some, if_pos rfl, e2]
    rfl
  exact ratlinelow_Line.calls (max k1 k2) A0 c0 L A1 c1 D g A2 c2 L A3 c3 D g true w hr0 hc0 hr1 hc1 hr2 hc2 hr3 hc3 hk
/-- What the line keeps. -/
structure InvT (n : Nat) (L D : List S65) (g : Int) : Prop where
  wide : Wide L
  len : L.length + D.length ≤ n
  g0 : 0 ≤ g
  g1 : g ≤ L.length
theorem invT0 : InvT 0 [] [] 0 := ⟨fun m h => (by cases h), Nat.le_refl _, by omega, by simp⟩
theorem InvT.more {n : Nat} {L D : List S65} {g : Int} (h : InvT n L D g) : InvT (n + 1) L D g := ⟨h.wide, by have := h.len; omega, h.g0, h.g1⟩
theorem wide_map {L : List S65} (h : Wide L) (u : S65 → S65) (h1 : ∀ x, (u x).f1 = x.f1) (h2 : ∀ x, (u x).f2 = x.f2) : Wide (L.map u) := by
  intro m hm
  obtain ⟨x, hx, rfl⟩ := List.mem_map.1 hm
  rw [h1, h2]
  exact h x hx
theorem wide_app {L M : List S65} (h : Wide L) (h' : Wide M) : Wide (L ++ M) := fun m hm => (List.mem_append.1 hm).elim (h m) (h' m)
theorem wide_take {L : List S65} (h : Wide L) (n : Nat) : Wide (L.take n) := fun m hm => h m (List.mem_of_mem_take hm)
theorem wide_drop {L : List S65} (h : Wide L) (n : Nat) : Wide (L.drop n) := fun m hm => h m (List.mem_of_mem_drop hm)
theorem giveL_wide : ∀ (n : Nat) (last : Int) (l : List S65), Wide l → Wide (giveL n last l).1
  | 0, _, _, h => h
  | _ + 1, _, [], h => h
  | n + 1, last, m :: ms, h => by
    have ih := giveL_wide n (IntKind.u64.wrap (last + m.f1)) ms (fun x hx => h x (List.mem_cons_of_mem _ hx))
    intro x hx
    simp only [giveL] at hx
    rcases List.mem_cons.1 hx with rfl | hx
    · exact h m List.mem_cons_self
    · first | exact ih x hx | exact giveL_wide n _ ms (fun x hx => h x (List.mem_cons_of_mem _ hx)) x hx
theorem invT_join {n : Nat} {L D : List S65} {g : Int} (h : InvT n L D g) (t o k : Int) : InvT (n + 1) (joinR L D t o k).1 D g := by
  unfold joinR
  split
  · exact h.more
  · split
    · exact h.more
    · rename_i hb _
      refine ⟨wide_app h.wide (fun m hm => ?_), by simp only [List.length_append, List.length_singleton]; have := h.len; omega, h.g0, by simp only [List.length_append, List.length_singleton]; have := h.g1; omega⟩
      obtain rfl := List.mem_singleton.1 hm
      simp only [badJ, Bool.or_eq_true, decide_eq_true_eq] at hb
      simp only
      omega
theorem invT_give {n : Nat} {L D : List S65} {g : Int} (h : InvT n L D g) (k last : Int) : InvT (n + 1) (giveR L g k last).1 D (giveR L g k last).2.1 := by
  unfold giveR
  split
  · exact h.more
  · refine ⟨giveL_wide _ _ _ h.wide, by simp only [giveL_len]; have := h.len; omega, by simp only; omega, by simp only [giveL_len]; omega⟩
theorem invT_apply {n : Nat} {L D : List S65} {g : Int} (h : InvT n L D g) : InvT (n + 1) (updN sayApply g.toNat L) D g :=
  ⟨wide_app (wide_map (wide_take h.wide _) _ (fun _ => rfl) (fun _ => rfl)) (wide_drop h.wide _), by rw [updN_len]; have := h.len; omega, h.g0, by rw [updN_len]; exact h.g1⟩
theorem leadL_wide {L : List S65} (h : Wide L) : Wide (leadL L) := by
  cases L with
  | nil => exact h
  | cons x xs =>
    intro m hm
    rcases List.mem_cons.1 hm with rfl | hm
    · exact h x List.mem_cons_self
    · exact h m (List.mem_cons_of_mem _ hm)
theorem invT_end {n : Nat} {L D : List S65} {g : Int} (h : InvT n L D g) (er : Int) : InvT (n + 1) (endR L D g er).1 (endR L D g er).2.1 0 ∧ (endR L D g er).2.2.length ≤ n + 1 := by
  unfold endR
  have hl := h.len
  have hg := h.g1
  split
  · refine ⟨⟨h.wide, by simp only; omega, Int.le_refl _, by simp only; omega⟩, by simp⟩
  · refine ⟨⟨leadL_wide (wide_drop h.wide _), by simp only [leadL_len, List.length_drop, List.length_append, List.length_map, List.length_take]; omega, Int.le_refl _, by simp only; omega⟩, by simp only [List.length_append, List.length_map, List.length_take, List.length_drop]; omega⟩
theorem invT_fail {n : Nat} {L D : List S65} {g : Int} (h : InvT n L D g) (er : Int) : InvT (n + 1) (L.drop L.length) (D ++ (L.take L.length).map (sayDone er)) 0 :=
  ⟨wide_drop h.wide _, by simp only [List.length_drop, List.length_append, List.length_map, List.length_take]; have := h.len; omega, Int.le_refl _, by omega⟩
theorem takeR_len (D : List S65) (t : Int) : (takeR D t).1.length ≤ D.length := by
  unfold takeR
  split
  · exact Nat.le_refl _
  · exact List.length_eraseIdx_le _ _
theorem invT_take {n : Nat} {L D : List S65} {g : Int} (h : InvT n L D g) (t : Int) : InvT (n + 1) L (takeR D t).1 g :=
  ⟨h.wide, by have := h.len; have := takeR_len D t; omega, h.g0, h.g1⟩
/-- The states of the copies' making. -/
theorem ap_new2 {α : Type} {d : Kd α} {e base : Nat} {ok : Nat → Prop} {W : World} {v u : Value} {xs : List α} (hv : d.R e W base ok v xs) (hat : ∃ b, u.ownBlock = some b ∧ W.heap.size ≤ b) : (v.ownBlock = none ∨ v.ownBlock ≠ u.ownBlock) ∧ (u.ownBlock = none ∨ u.ownBlock ≠ v.ownBlock) := by
  obtain ⟨b, hb, hle⟩ := hat
  have key : v.ownBlock ≠ u.ownBlock := fun e => by
    have := Kd.R_lt hv b (e.trans hb)
    omega
  exact ⟨.inr key, .inr (Ne.symm key)⟩
theorem own_ne' {v u : Value} (h : v.ownBlock = none ∨ v.ownBlock ≠ u.ownBlock) : ∀ k, u.ownBlock = some k → some k ≠ v.ownBlock := fun k hk e => by
  rcases h with q | q
  · rw [q] at e; cases e
  · exact q (e.symm.trans hk.symm)
end Go.Proofs.Ythlahhkjoocigaa.XQueue
