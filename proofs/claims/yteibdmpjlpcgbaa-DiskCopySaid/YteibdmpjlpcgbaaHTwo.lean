/- Two disks side by side. -/
import Derived.Test.YteibdmpjlpcgbaaHLook
namespace Go.Proofs.Yteibdmpjlpcgbaa.XDisk
open Go Go.RowKit Go.Proofs.YteibdmpjlpcgbaaW.PrintWords Go.Proofs.YteibdmpjlpcgbaaW.PrintLast Go.Proofs.YteibdmpjlpcgbaaW.PrintMore
open Go.Proofs.Yteibdmpjlpcgbaa
set_option linter.unusedVariables false
set_option linter.unusedSimpArgs false
/-- No block is both's. -/
def Apart (φ ψ : Nat → Tg) : Prop := ∀ k, φ k ≠ .no → ψ k = .no
theorem Apart.symm {φ ψ : Nat → Tg} (h : Apart φ ψ) : Apart ψ φ := fun k hk => Classical.byContradiction (fun q => hk (h k q))
theorem Apart.step {w w' : World} {φ φ' ψ : Nat → Tg} {B g : Nat} {S : DA} (h : Apart φ ψ) (hs : Step w w' φ φ') (hd : DAt w ψ B g S) : Apart φ' ψ := fun k hk => by
  rcases Nat.lt_or_ge k w.heap.size with hlt | hge
  · exact h k (fun q => hk (hs.2 k hlt q))
  · exact hd.new_no k hge
theorem DAt.beside {w w' : World} {φ φ' ψ : Nat → Tg} {B g : Nat} {S : DA} (hd : DAt w ψ B g S) (h : Apart φ ψ) (hs : Step w w' φ φ') : DAt w' ψ B g S :=
  hd.move hs.1.size (fun k hk => hs.1.block k (hd.dom k hk).2 (fun q => hk (h k q)))
theorem Apart.fresh {w w' : World} {φ ψ : Nat → Tg} {B g : Nat} {S : DA} {B' g' : Nat} {S' : DA} (hd : DAt w φ B g S) (hn : DAt w' ψ B' g' S') (hB : w.heap.size ≤ B') : Apart φ ψ := fun k hk =>
  Classical.byContradiction (fun q => by have h1 := (hd.dom k hk).2; have h2 := (hn.dom k q).1; omega)
/-- The tags of both. -/
def uni (φ ψ : Nat → Tg) : Nat → Tg := fun k => if φ k = .no then ψ k else φ k
theorem uni_no {φ ψ : Nat → Tg} {k : Nat} : uni φ ψ k = .no ↔ φ k = .no ∧ ψ k = .no := by
  unfold uni
  by_cases h : φ k = .no
  · rw [if_pos h]; exact ⟨fun q => ⟨h, q⟩, fun q => q.2⟩
  · rw [if_neg h]; exact ⟨fun q => absurd q h, fun q => q.1⟩
theorem Step.left {w w' : World} {φ φ' : Nat → Tg} (ψ : Nat → Tg) (h : Step w w' φ φ') : Step w w' (uni φ ψ) (uni φ' ψ) :=
  ⟨h.1.mono (fun k hk q => hk (uni_no.1 q).1), fun k hk hno => uni_no.2 ⟨h.2 k hk (uni_no.1 hno).1, (uni_no.1 hno).2⟩⟩
theorem Step.right {w w' : World} {ψ ψ' : Nat → Tg} (φ : Nat → Tg) (h : Step w w' ψ ψ') : Step w w' (uni φ ψ) (uni φ ψ') :=
  ⟨h.1.mono (fun k hk q => hk (uni_no.1 q).2), fun k hk hno => uni_no.2 ⟨(uni_no.1 hno).1, h.2 k hk (uni_no.1 hno).2⟩⟩
theorem idx_any (c : Int) : ∀ (l : List Int) (i : Nat), (decide (idx c l (i : Int) < 0)) = !(l.any (fun x => x == c))
  | [], i => by unfold idx; rfl
  | x :: l, i => by
    unfold idx
    by_cases h : x = c
    · rw [if_pos h, List.any_cons, beq_iff_eq.2 h, Bool.true_or]
      exact decide_eq_false (by omega)
    · rw [if_neg h, List.any_cons, beq_eq_false_iff_ne.2 h, Bool.false_or]
      exact idx_any c l (i + 1)
theorem isRef_any (S : DA) : isRef S = S.fails.any (fun x => x == S.calls + 1) := by
  unfold isRef refusedP
  have h := idx_any (S.calls + 1) S.fails 0
  by_cases hc : idx (S.calls + 1) S.fails 0 < 0
  · rw [if_pos hc]
    rw [show ((0 : Nat) : Int) = 0 from rfl, decide_eq_true hc] at h
    cases hq : S.fails.any (fun x => x == S.calls + 1) with
    | false => rfl
    | true => rw [hq] at h; cases h
  · rw [if_neg hc]
    rw [show ((0 : Nat) : Int) = 0 from rfl, decide_eq_false hc] at h
    cases hq : S.fails.any (fun x => x == S.calls + 1) with
    | false => rw [hq] at h; cases h
    | true => split <;> rfl
theorem part_nil (fails : List Int) (c : Int) : partOf (refusedP fails [] c) = 0 := by
  unfold refusedP partOf
  split
  · rfl
  · split
    · rfl
    · rename_i h1 h2
      exact absurd (by show (0 : Int) ≤ _; omega) h2
theorem doesO_calls' (S : DA) (o : S32) (h : o.f0 % 7 ≤ 4) (h0 : 0 ≤ o.f0) : (doesO S o).1.calls = S.calls + 1 := by
  unfold doesO doesP createP appendP syncP renameP removeP cnt
  repeat' split
  all_goals first | rfl | omega
theorem doesO_room' (S : DA) (o : S32) : (doesO S o).1.room = S.room := by
  unfold doesO doesP createP appendP syncP renameP removeP crashP cnt
  repeat' split
  all_goals rfl
theorem doesO_parts (S : DA) (o : S32) : (doesO S o).1.parts = S.parts := by
  unfold doesO doesP createP appendP syncP renameP removeP crashP cnt
  repeat' split
  all_goals rfl
theorem any_take (p : Int → Bool) (l : List Int) (j : Nat) (h : j < l.length) : (l.take (j + 1)).any p = ((l.take j).any p || p (l.getD j 0)) := by
  rw [List.take_succ_eq_append_getElem h, List.any_append, List.getD_eq_getElem?_getD, List.getElem?_eq_getElem h]
  simp
/-- The two disks of DiskPlan. -/
structure PlanInv (fs : List Int) (S F : DA) : Prop where
  fails : S.fails = fs
  parts : S.parts = []
  free : F.fails = []
  files : S.files = F.files
  room : S.room = F.room
/-- What a plan of refusals comes to, beside a disk without one. -/
theorem plan_step {S F : DA} (hr : Rising S.files) (hf : S.files = F.files) (hm : S.room = F.room) (hfit : used S.files ≤ S.room) (hF : F.fails = []) (hSp : S.parts = []) {o : S32} (h7 : o.f0 % 7 ≤ 4) (h0 : 0 ≤ o.f0) :
    ((doesO S o).2 = 12 → isRef S = true ∧ ((doesO F o).2 = 0 ∨ (doesO F o).2 = 13) ∧ (doesO S o).1.files = S.files) ∧
    ((doesO S o).2 ≠ 12 → (doesO S o).2 = (doesO F o).2 ∧ (isRef S = true → (doesO S o).2 ≠ 0 ∧ (doesO S o).2 ≠ 13) ∧ (doesO S o).1.files = (doesO F o).1.files) ∧ (doesO F o).2 ≠ 12 := by
  have hF0 := isRef_nil hF
  have hleft : left S = left F := by unfold left; rw [hf, hm]
  unfold doesO doesP
  have h7' : o.f0 % 7 = 0 ∨ o.f0 % 7 = 1 ∨ o.f0 % 7 = 2 ∨ o.f0 % 7 = 3 ∨ o.f0 % 7 = 4 := by omega
  rcases h7' with h | h | h | h | h <;> simp only [h]
  · simp only [if_true, ite_true]
    unfold createP
    rw [hF0, hf]
    cases vN o.f1.data.toList <;> cases (get F.files o.f1.data.toList).isSome <;> cases isRef S <;> simp [cnt, hf]
  · simp only [show ¬ ((1 : Int) = 0) by decide, if_false, if_true]
    unfold appendP
    rw [hF0, hf, hSp, part_nil]
    cases vN o.f1.data.toList
    · simp [cnt, hf]
    · cases hg : get F.files o.f1.data.toList with
      | none => simp [cnt, hf]
      | some f =>
        simp only
        unfold appX
        rw [hleft]
        have hl0 : 0 ≤ left F := by rw [← hleft]; unfold left; omega
        have hmin : (min (min (0 : Int) (o.f3.length : Int)) (left F)).toNat = 0 := by omega
        have hmin2 : (min (0 : Int) (min (o.f3.length : Int) (left F))).toNat = 0 := by omega
        have hps : put o.f1.data.toList ⟨f.b, f.safe⟩ F.files = F.files := rising_ext (put_rising (hf ▸ hr) _ _) (hf ▸ hr) (fun m => by
          rw [get_put (hf ▸ hr)]
          by_cases e : m = o.f1.data.toList
          · rw [if_pos e, e, hg]
          · rw [if_neg e])
        cases hR : isRef S
        · by_cases hb : left F < (o.f3.length : Int)
          · simp [hb, cnt]
          · simp [hb, cnt]
        · by_cases hb : left F < (o.f3.length : Int)
          · simp [hmin, hmin2, hb, cnt, hps]
          · simp [hmin, hmin2, hb, cnt, hps]
  · simp only [show ¬ ((2 : Int) = 0) by decide, show ¬ ((2 : Int) = 1) by decide, if_false, if_true]
    unfold syncP
    rw [hF0, hf]
    cases vN o.f1.data.toList <;> cases get F.files o.f1.data.toList <;> cases isRef S <;> simp [cnt, hf]
  · simp only [show ¬ ((3 : Int) = 0) by decide, show ¬ ((3 : Int) = 1) by decide, show ¬ ((3 : Int) = 2) by decide, if_false, if_true]
    unfold renameP
    rw [hF0, hf]
    cases vN o.f1.data.toList <;> cases vN o.f2.data.toList <;> cases get F.files o.f1.data.toList <;> cases isRef S <;> simp [cnt, hf]
  · simp only [show ¬ ((4 : Int) = 0) by decide, show ¬ ((4 : Int) = 1) by decide, show ¬ ((4 : Int) = 2) by decide, show ¬ ((4 : Int) = 3) by decide, if_false, if_true]
    unfold removeP
    rw [hF0, hf]
    cases vN o.f1.data.toList <;> cases get F.files o.f1.data.toList <;> cases isRef S <;> simp [cnt, hf]
end Go.Proofs.Yteibdmpjlpcgbaa.XDisk
