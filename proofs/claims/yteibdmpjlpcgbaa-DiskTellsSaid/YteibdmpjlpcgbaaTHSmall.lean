/- The disk's small functions, walked: is, refused, there's and Create's questions. -/
import Derived.Test.YteibdmpjlpcgbaaTHDisk
namespace Go.Proofs.Yteibdmpjlpcgbaa.XDisk
open Go Go.RowKit Go.Proofs.YteibdmpjlpcgbaaW.PrintWords Go.Proofs.YteibdmpjlpcgbaaW.PrintLast Go.Proofs.YteibdmpjlpcgbaaW.PrintMore
open Go.Proofs.Yteibdmpjlpcgbaa
attribute [local go_sem] max2_int min2_int max_two min_two max_three min_three max_four min_four
set_option linter.unusedVariables false
set_option linter.unusedSimpArgs false
set_option maxHeartbeats 4000000 in
theorem is_made (gd : Nat) (b : Bool) (w : World) (h : w.cell? ⟨gd, 0, none⟩ = some (.bool b)) : Calls Try.prog 34 #[.pointer (some ⟨gd, 0, none⟩)] w fun e w' => e = .returned (.bool b) ∧ w = w' := by
  go_enter Try.func34, Try.ntmps34
  go_wp2
  go_ret
  exact ⟨rfl, rfl⟩
/-- The first place of a number; -1: none. -/
def idx (c : Int) : List Int → Int → Int
  | [], _ => -1
  | x :: xs, i => if x = c then i else idx c xs (i + 1)
theorem idx_from (c : Int) : ∀ (l : List Int) (i : Nat), idx c l (i : Int) = -1 ∨ ∃ j : Nat, idx c l (i : Int) = ((i + j : Nat) : Int) ∧ j < l.length
  | [], i => .inl rfl
  | x :: xs, i => by
    unfold idx
    by_cases h : x = c
    · rw [if_pos h]
      exact .inr ⟨0, by omega, by simp⟩
    · rw [if_neg h]
      rcases idx_from c xs (i + 1) with h1 | ⟨j, h1, h2⟩
      · exact .inl h1
      · refine .inr ⟨j + 1, ?_, by simp; omega⟩
        have : ((i : Int) + 1) = ((i + 1 : Nat) : Int) := by omega
        rw [this, h1]
        omega
theorem w64' {n : Int} (h0 : -9223372036854775808 ≤ n) (h1 : n ≤ 9223372036854775807) : wrap64 n = n := by unfold wrap64; omega
theorem dropI (l : List Int) (i : Nat) (h : i < l.length) : l.drop i = l.getD i 0 :: l.drop (i + 1) := by
  rw [List.drop_eq_getElem_cons h, List.getD_eq_getElem?_getD, List.getElem?_eq_getElem h]; rfl
theorem rdI (l : List Int) (i : Nat) : rd l (i : Int) = l.getD i 0 := by simp [rd]
theorem index_at (A0 : Option Addr) (c0 : Nat) (l : List Int) (c : Int) (w : World) (hr0 : Kd.C (Kd.int .i64) w A0 l.length l) (hc0 : l.length ≤ c0) (hl : l.length ≤ 1000000) :
    Calls Try.prog 70 #[.slice A0 l.length c0, .int .i64 c] w fun e w' => e = .returned (.int .i64 (idx c l 0)) ∧ ∃ m, w' = w.drewN m := by
  have hev : Ev (fun k => slices_Index_int_int.f k l c) (idx c l 0) := by
    unfold slices_Index_int_int.f
    have key : ∀ (q i : Nat), l.length - i = q → i ≤ l.length → Ev (fun k => slices_Index_int_int.l0 k l c (l.length : Int) (i : Int)) (idx c (l.drop i) (i : Int)) := by
      intro q
      induction q with
      | zero =>
        intro i hq hi
        obtain rfl : i = l.length := by omega
        refine Ev.step (fun k => ?_) (Ev.now _)
        rw [slices_Index_int_int.l0, if_neg (by omega)]
        simp [idx]
      | succ q ih =>
        intro i hq hi
        have hlt : i < l.length := by omega
        rw [dropI l i hlt]
        by_cases he : l.getD i 0 = c
        · refine Ev.step (fun k => ?_) (Ev.now _)
          rw [slices_Index_int_int.l0, if_pos (by omega), if_pos (by omega), if_pos (by omega), rdI, if_pos he.symm]
          simp only [idx, if_pos he]
        · refine Ev.step (f := fun k => slices_Index_int_int.l0 k l c (l.length : Int) ((i + 1 : Nat) : Int)) (fun k => ?_) ?_
          · rw [slices_Index_int_int.l0, if_pos (by omega), if_pos (by omega), if_pos (by omega), rdI, if_neg (fun e => he e.symm), w64' (by omega) (by omega)]
            rfl
          · have := ih (i + 1) (by omega) (by omega)
            simp only [idx, if_neg he]
            exact this
    have := key l.length 0 rfl (Nat.zero_le _)
    simpa using this
  obtain ⟨k, hk⟩ := hev
  exact (slices_Index_int_int.calls k A0 c0 l c _ w hr0 hc0 (hk k (Nat.le_refl _))).mono (fun e w' h => ⟨h.1, by first | exact h.2.out | exact h.2⟩)
/-- The part of a call that is refused. -/
def refusedP (fails parts : List Int) (c : Int) : Option Int := if idx c fails 0 < 0 then none else if (parts.length : Int) ≤ idx c fails 0 then some 0 else some (max (parts.getD (idx c fails 0).toNat 0) 0)
def partOf (o : Option Int) : Int := o.getD 0
theorem ret2 {a b : Int} {c d : Bool} (h : a = b) (h' : c = d) : Ending.returned (.tuple #[.int .i64 a, .bool c]) = .returned (.tuple #[.int .i64 b, .bool d]) := by rw [h, h']
set_option maxHeartbeats 8000000 in
set_option maxRecDepth 100000 in
theorem refused_at (gd : Nat) (Af : Option Addr) (cf : Nat) (Ap : Option Addr) (cp : Nat) (fails parts : List Int) (c : Int) (w : World)
    (h2 : w.cell? ⟨gd, 2, none⟩ = some (.slice Af fails.length cf)) (h3 : w.cell? ⟨gd, 3, none⟩ = some (.slice Ap parts.length cp)) (h5 : w.cell? ⟨gd, 5, none⟩ = some (.int .i64 c))
    (hf : Kd.C (Kd.int .i64) w Af fails.length fails) (hcf : fails.length ≤ cf) (hp : Kd.C (Kd.int .i64) w Ap parts.length parts) (hcp : parts.length ≤ cp) (hlf : fails.length ≤ 1000000) (hlp : parts.length ≤ 1000000) :
    Calls Try.prog 64 #[.pointer (some ⟨gd, 0, none⟩)] w fun e w' => e = .returned (.tuple #[.int .i64 (partOf (refusedP fails parts c)), .bool (refusedP fails parts c).isSome]) ∧ ∃ m, w' = w.drewN m := by
  have HF := Aside0.mk hf
  have HP := Aside0.mk hp
  have HCF := Aside0.mk hcf
  have HCP := Aside0.mk hcp
  have F0 := Aside0.mk (idx_from c fails 0)
  clear hf hp hcf hcp
  go_enter Try.func64, Try.ntmps64
  go_wp2
  go_quiet ((go_at_call 70; refine Calls.quiet_of (index_at _ _ fails c _ (Kd.C_drewN HF.out _) HCF.out hlf)))
  rcases F0.out with h0 | ⟨j, h0, hj⟩
  · have e0 : idx c fails 0 = -1 := h0
    have HR : Aside0 (refusedP fails parts c = none) := ⟨by unfold refusedP; rw [e0]; rfl⟩
    rw [e0]
    clear h0 e0
    go_wp2
    go_ret2
    rw [HR.out]
    exact ⟨rfl, _, rfl⟩
  · have e0 : idx c fails 0 = (j : Int) := by rw [show (j : Int) = ((0 + j : Nat) : Int) by omega]; exact h0
    rw [e0]
    have d0 : decide ((j : Int) < 0) = false := decide_eq_false (by omega)
    clear h0
    by_cases hc : parts.length ≤ j
    · have d1 : decide ((parts.length : Int) ≤ (j : Int)) = true := decide_eq_true (by omega)
      have d2 : decide (parts.length ≤ j) = true := decide_eq_true hc
      have HR : Aside0 (refusedP fails parts c = some 0) := ⟨by unfold refusedP; rw [e0, if_neg (by omega), if_pos (by omega)]⟩
      clear hc e0
      go_wp2
      go_ret2
      rw [HR.out]
      exact ⟨rfl, _, rfl⟩
    · have d1 : decide ((parts.length : Int) ≤ (j : Int)) = false := decide_eq_false (by omega)
      have d2 : decide (parts.length ≤ j) = false := decide_eq_false hc
      have HR : Aside0 (refusedP fails parts c = some (max (parts.getD j 0) 0)) := ⟨by unfold refusedP; rw [e0, if_neg (by omega), if_neg (by omega), Int.toNat_natCast]⟩
      obtain ⟨ad, ea, hx⟩ := Kd.at_int HP.out (j : Int) (by omega) (by omega)
      subst ea
      rw [rdI, Int.toNat_natCast] at hx
      generalize parts.getD j 0 = x at hx HR
      have hlt : j < parts.length := by omega
      clear hc e0
      go_wp2
      all_goals
        go_ret2
        rw [HR.out]
        refine ⟨ret2 ?_ rfl, _, rfl⟩
        unfold partOf
        simp only [Option.getD_some]
        rw [Int.max_def]
        split <;> omega
/-- What a look-up of a name finds, in whatever order was drawn. -/
def Finds (W : World) (gm : Nat) (s : ByteArray) (v : Value) : Prop := ∀ n, (Instr.lookup 69 (.map (some gm)) (.string s) false).run Try.prog (W.drewN n) = .ok v (W.drewN n)
set_option maxHeartbeats 8000000 in
set_option maxRecDepth 100000 in
theorem there1_at (bd bn gd gm : Nat) (s : ByteArray) (v : Option Addr) (w : World) (h0 : w.cell? ⟨bd, 0, none⟩ = some (.pointer (some ⟨gd, 0, none⟩))) (h1 : w.cell? ⟨bn, 0, none⟩ = some (.string s)) (h4 : w.cell? ⟨gd, 4, none⟩ = some (.map (some gm))) (hf : Finds w gm s (.pointer v)) :
    Calls Try.prog 65 #[.pointer (some ⟨bd, 0, none⟩), .pointer (some ⟨bn, 0, none⟩)] w fun e w' => e = .returned (.int .i64 (if v.isNone then 10 else 0)) ∧ ∃ m, w' = w.drewN m := by
  have HF : ∀ n, (Instr.lookup 69 (.map (some gm)) (.string s) false).run Try.prog (w.drewN n) = .ok (.pointer v) (w.drewN n) := hf
  clear hf
  cases v with
  | none =>
    go_enter Try.func65, Try.ntmps65
    go_wp2
    go_quiet (fail)
    go_wp2
    go_ret
    exact ⟨rfl, _, rfl⟩
  | some a =>
    go_enter Try.func65, Try.ntmps65
    go_wp2
    go_quiet (fail)
    go_wp2
    go_ret
    exact ⟨rfl, _, rfl⟩
set_option maxHeartbeats 8000000 in
set_option maxRecDepth 100000 in
theorem free1_at (bd bn gd gm : Nat) (s : ByteArray) (v : Option Addr) (w : World) (h0 : w.cell? ⟨bd, 0, none⟩ = some (.pointer (some ⟨gd, 0, none⟩))) (h1 : w.cell? ⟨bn, 0, none⟩ = some (.string s)) (h4 : w.cell? ⟨gd, 4, none⟩ = some (.map (some gm))) (hf : Finds w gm s (.pointer v)) :
    Calls Try.prog 54 #[.pointer (some ⟨bd, 0, none⟩), .pointer (some ⟨bn, 0, none⟩)] w fun e w' => e = .returned (.int .i64 (if v.isSome then 11 else 0)) ∧ ∃ m, w' = w.drewN m := by
  have HF : ∀ n, (Instr.lookup 69 (.map (some gm)) (.string s) false).run Try.prog (w.drewN n) = .ok (.pointer v) (w.drewN n) := hf
  clear hf
  cases v with
  | none =>
    go_enter Try.func54, Try.ntmps54
    go_wp2
    go_quiet (fail)
    go_wp2
    go_ret
    exact ⟨rfl, _, rfl⟩
  | some a =>
    go_enter Try.func54, Try.ntmps54
    go_wp2
    go_quiet (fail)
    go_wp2
    go_ret
    exact ⟨rfl, _, rfl⟩
end Go.Proofs.Yteibdmpjlpcgbaa.XDisk
