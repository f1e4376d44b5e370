/- Contracts of layer 21's functions, as the walks by hand ask for them: what does, Of, Group and Give answer. Conditions: a line within its bounds. -/
import Derived.Test.YthlahhkjoocigaaHDoes
import Derived.Test.YthlahhkjoocigaaXQueue7
import Derived.Test.YthlahhkjoocigaaHOpen
import Derived.BigQuiet
namespace Go.Proofs.Ythlahhkjoocigaa.XQueue
open Go Go.RowKit Go.Proofs.YthlahhkjoocigaaW.PrintWords Go.Proofs.YthlahhkjoocigaaW.PrintLast Go.Proofs.YthlahhkjoocigaaW.PrintMore
attribute [local go_sem] max2_int min2_int max_two min_two max_three min_three max_four min_four
set_option linter.unusedVariables false
set_option linter.unusedSimpArgs false
/-- What an op of the statements may be. -/
def OpOk (x : S61) : Prop := (0 ≤ x.f0 ∧ x.f0 ≤ 255) ∧ (-9223372036854775808 ≤ x.f1 ∧ x.f1 ≤ 9223372036854775807) ∧ 0 ≤ x.f4
theorem rdi_nat (l : List Int) (i : Nat) : rd l (i : Int) = l.getD i 0 := by simp [rd]
theorem inf61 : (Try.prog.info? 61).map (fun i => i.size) = some 6 := by kernel_rfl
theorem does_at (A0 : Option Addr) (c0 : Nat) (L : List S65) (A1 : Option Addr) (c1 : Nat) (D : List S65) (g : Int) (o : S61) (last m r : Int) (n : Nat) (w : World) (hr0 : Kd.C k65 w A0 L.length L) (hc0 : L.length ≤ c0) (hr1 : Kd.C k65 w A1 D.length D) (hc1 : D.length ≤ c1) (hI : Inv n L D g) (hn : n ≤ 1000) (hO : OpOk o) :
    Calls Try.prog 39 #[.agg #[.slice A0 L.length c0, .slice A1 D.length c1, .int .i64 g], .agg #[.int .u8 o.f0, .int .i64 o.f1, .int .i64 o.f2, .int .i64 o.f3, .int .u64 o.f4, .int .i64 o.f5], .int .u64 last, .int .i64 m, .int .u64 r] w fun e w' =>
      ∃ (L' D' : List S65) (g' last' : Int) (ts : List Int) (AL : Option Addr) (cL : Nat) (AD : Option Addr) (cD : Nat) (AT : Option Addr) (cT : Nat), e = .returned (.tuple #[.agg #[.slice AL L'.length cL, .slice AD D'.length cD, .int .i64 g'], .int .u64 last', .slice AT ts.length cT]) ∧ doesP L D g (o.f0 % 8) o.f1 o.f2 o.f4 o.f5 last m r = (L', D', g', last', ts) ∧ Inv (n + 1) L' D' g' ∧
        Kd.R k65 65 w' w.heap.size (fun _ => True) (.slice AL L'.length cL) L' ∧ Kd.R k65 65 w' w.heap.size (fun _ => True) (.slice AD D'.length cD) D' ∧ Kd.R (Kd.int .i64) 3 w' w.heap.size (fun _ => True) (.slice AT ts.length cT) ts ∧ Below w.heap.size w w' := by
  obtain ⟨k, hk⟩ := does_ev L D g o.f0 o.f1 o.f2 o.f3 o.f4 o.f5 last m r hI.fine (by have := hI.len; omega) (by have := hI.len; omega) hI.g0 hI.g1 hO.1.1 hO.2.1.1 hO.2.1.2 hO.2.2
  obtain ⟨L', D', g', last', ts, hd⟩ : ∃ L' D' g' last' ts, doesP L D g (o.f0 % 8) o.f1 o.f2 o.f4 o.f5 last m r = (L', D', g', last', ts) := ⟨_, _, _, _, _, rfl⟩
  rw [hd] at hk
  have hk := hk k (Nat.le_refl _)
  refine (ratlinelaw21_does.calls k A0 c0 L A1 c1 D g o.f0 o.f1 o.f2 o.f3 o.f4 o.f5 last m r L' D' g' last' ts w hr0 hc0 hr1 hc1 hk).mono ?_
  rintro e w' ⟨v0, v1, v4, rfl, h0, h1, h4, hb⟩
  obtain ⟨AL, cL, rfl⟩ := Kd.R_slice h0
  obtain ⟨AD, cD, rfl⟩ := Kd.R_slice h1
  obtain ⟨AT, cT, rfl⟩ := Kd.R_slice h4
  exact ⟨L', D', g', last', ts, AL, cL, AD, cD, AT, cT, rfl, hd, inv_step hI _ _ _ _ _ _ _ _ hO.2.1.1 hO.2.1.2 hO.2.2 _ _ _ _ _ hd, Kd.R_mono h0 (fun _ _ => trivial), Kd.R_mono h1 (fun _ _ => trivial), h4, hb⟩
theorem of_at (A0 : Option Addr) (c0 : Nat) (L : List S65) (A1 : Option Addr) (c1 : Nat) (D : List S65) (g t : Int) (w : World) (hr0 : Kd.C k65 w A0 L.length L) (hc0 : L.length ≤ c0) (hr1 : Kd.C k65 w A1 D.length D) (hc1 : D.length ≤ c1) (h : (ofP L D t).2 = true) :
    Calls Try.prog 42 #[.agg #[.slice A0 L.length c0, .slice A1 D.length c1, .int .i64 g], .int .i64 t] w fun e w' => ∃ q : S65, e = .returned (.tuple #[.agg #[.int .i64 q.f0, .int .i64 q.f1, .int .u64 q.f2, .int .u64 q.f3, .int .u8 q.f4, .int .i64 q.f5], .bool true]) ∧ Below w.heap.size w w' := by
  have hof := of_ev L D g t
  rw [h] at hof
  refine (queue_Of.calls 3 _ _ _ L _ _ _ D g t _ _ _ _ _ _ true w (V_of hr0 hc0) (V_of hr1 hc1) hof).mono ?_
  rintro e w' ⟨rfl, hb⟩
  exact ⟨_, rfl, hb⟩

theorem group_at (A0 : Option Addr) (c0 : Nat) (L : List S65) (A1 : Option Addr) (c1 : Nat) (D : List S65) (g m r : Int) (w : World) (hr0 : Kd.C k65 w A0 L.length L) (hc0 : L.length ≤ c0) (hr1 : Kd.C k65 w A1 D.length D) (hc1 : D.length ≤ c1) (hf : Fine L) (hl : L.length ≤ 1000) (N : Int) (hN : (if g > 0 then 0 else (fits m r 0 0 L : Int)) = N) :
    Calls Try.prog 43 #[.agg #[.slice A0 L.length c0, .slice A1 D.length c1, .int .i64 g], .int .i64 m, .int .u64 r] w fun e w' => e = .returned (.int .i64 N) ∧ Below w.heap.size w w' := by
  obtain ⟨k, hk⟩ := group_ev L D g m r hf (by omega)
  have hk := hk k (Nat.le_refl _)
  rw [hN] at hk
  exact queue_Group.calls k A0 c0 L A1 c1 D g m r N w hr0 hc0 hr1 hc1 hk
theorem give_at (A0 : Option Addr) (c0 : Nat) (L : List S65) (A1 : Option Addr) (c1 : Nat) (w : World) (hr0 : Kd.C k65 w A0 L.length L) (hc0 : L.length ≤ c0) (hr1 : Kd.C k65 w A1 0 ([] : List S65)) (hf : Fine L) (hl : L.length ≤ 1000) :
    Calls Try.prog 44 #[.agg #[.slice A0 L.length c0, .slice A1 0 c1, .int .i64 0], .int .i64 (L.length : Int), .int .u64 0] w fun e w' => ∃ (L' : List S65) (g' la : Int) (AL : Option Addr) (cL : Nat) (AD : Option Addr) (cD : Nat), e = .returned (.tuple #[.agg #[.slice AL L'.length cL, .slice AD 0 cD, .int .i64 g'], .int .u64 la]) ∧ Fine L' ∧ L'.length = L.length ∧ (0 < L.length → g' > 0) ∧
      Kd.R k65 65 w' w.heap.size (fun _ => True) (.slice AL L'.length cL) L' ∧ Kd.R k65 65 w' w.heap.size (fun _ => True) (.slice AD 0 cD) [] ∧ Below w.heap.size w w' := by
  by_cases hz : L.length = 0
  · have hg : queue_Give.f L [] 0 (L.length : Int) 0 = some (L, [], 0, 0) := by
      unfold queue_Give.f
      rw [if_pos ⟨by omega, by simp⟩, if_pos (by omega)]
    refine (queue_Give.calls A0 c0 L A1 c1 [] 0 _ 0 _ _ _ _ w hr0 hc0 hr1 (Nat.zero_le _) hg).mono ?_
    rintro e w' ⟨v0, v1, rfl, h0, h1, hb⟩
    obtain ⟨AL, cL, rfl⟩ := Kd.R_slice h0
    obtain ⟨AD, cD, rfl⟩ := Kd.R_slice h1
    exact ⟨L, 0, 0, AL, cL, AD, cD, rfl, hf, rfl, fun h => by omega, Kd.R_mono h0 (fun _ _ => trivial), Kd.R_mono h1 (fun _ _ => trivial), hb⟩
  · have hg : queue_Give.f L [] 0 (L.length : Int) 0 = some ((giveL L.length 0 L).1, [], (L.length : Int), (giveL L.length 0 L).2) := by
      unfold queue_Give.f
      rw [if_pos ⟨by omega, by simp⟩, if_neg (by omega), Int.toNat_natCast]
    refine (queue_Give.calls A0 c0 L A1 c1 [] 0 _ 0 _ _ _ _ w hr0 hc0 hr1 (Nat.zero_le _) hg).mono ?_
    rintro e w' ⟨v0, v1, rfl, h0, h1, hb⟩
    obtain ⟨AL, cL, rfl⟩ := Kd.R_slice h0
    obtain ⟨AD, cD, rfl⟩ := Kd.R_slice h1
    exact ⟨_, _, _, AL, cL, AD, cD, rfl, giveL_fine _ _ _ hf, giveL_len _ _ _, fun h => by omega, Kd.R_mono h0 (fun _ _ => trivial), Kd.R_mono h1 (fun _ _ => trivial), hb⟩
theorem group_at0 (A0 : Option Addr) (c0 : Nat) (L : List S65) (A1 : Option Addr) (c1 : Nat) (g m r : Int) (w : World) (hr0 : Kd.C k65 w A0 L.length L) (hc0 : L.length ≤ c0) (hr1 : Kd.C k65 w A1 0 ([] : List S65)) (hf : Fine L) (hl : L.length ≤ 1000) (N : Int) (hN : (if g > 0 then 0 else (fits m r 0 0 L : Int)) = N) :
    Calls Try.prog 43 #[.agg #[.slice A0 L.length c0, .slice A1 0 c1, .int .i64 g], .int .i64 m, .int .u64 r] w fun e w' => e = .returned (.int .i64 N) ∧ Below w.heap.size w w' :=
  group_at A0 c0 L A1 c1 [] g m r w hr0 hc0 hr1 (Nat.zero_le _) hf hl N hN
theorem join_at0 (A0 : Option Addr) (c0 : Nat) (L : List S65) (A1 : Option Addr) (c1 : Nat) (f1 f2 f3 f4 f5 : Int) (m r : Int) (n : Nat) (w : World) (hr0 : Kd.C k65 w A0 L.length L) (hc0 : L.length ≤ c0) (hr1 : Kd.C k65 w A1 0 ([] : List S65)) (hI : Inv n L [] 0) (hn : n ≤ 1000) (hO : OpOk ⟨0, f1, f2, f3, f4, f5⟩) :
    Calls Try.prog 39 #[.agg #[.slice A0 L.length c0, .slice A1 0 c1, .int .i64 0], .agg #[.int .u8 0, .int .i64 f1, .int .i64 f2, .int .i64 f3, .int .u64 f4, .int .i64 f5], .int .u64 0, .int .i64 m, .int .u64 r] w fun e w' =>
      ∃ (L' : List S65) (AL : Option Addr) (cL : Nat) (AD : Option Addr) (cD : Nat) (AT : Option Addr) (cT : Nat), e = .returned (.tuple #[.agg #[.slice AL L'.length cL, .slice AD 0 cD, .int .i64 0], .int .u64 0, .slice AT 0 cT]) ∧ Inv (n + 1) L' [] 0 ∧
        Kd.R k65 65 w' w.heap.size (fun _ => True) (.slice AL L'.length cL) L' ∧ Kd.R k65 65 w' w.heap.size (fun _ => True) (.slice AD 0 cD) ([] : List S65) ∧ Below w.heap.size w w' := by
  refine (does_at A0 c0 L A1 c1 [] 0 ⟨0, f1, f2, f3, f4, f5⟩ 0 m r n w hr0 hc0 hr1 (Nat.zero_le _) hI hn hO).mono ?_
  rintro e w5 ⟨L2, D2, g2, last2, ts, AL2, cL2, AD2, cD2, AT, cT, rfl, hd, hi2, ho0, ho1, hot, hb⟩
  obtain ⟨-, rfl, rfl, rfl, rfl⟩ : joinP L [] (tsk f1) (opn f2) (ned f4) = L2 ∧ [] = D2 ∧ 0 = g2 ∧ 0 = last2 ∧ [] = ts := by simpa [doesP] using hd
  exact ⟨L2, AL2, cL2, AD2, cD2, AT, cT, rfl, hi2, ho0, ho1, hb⟩
theorem fits_step {most room : Int} : ∀ (o n : Int) (m : S65) (ms : List S65), fits most room o n (m :: ms) = if o + m.f1 > most then 0 else if n + m.f2 > room then 0 else fits most room (o + m.f1) (n + m.f2) ms + 1 := fun _ _ _ _ => rfl
theorem inf65 : (Try.prog.info? 65).map (fun i => i.size) = some 6 := by kernel_rfl

end Go.Proofs.Ythlahhkjoocigaa.XQueue
