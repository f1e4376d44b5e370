/- Used: all bytes of a disk, whatever order its files come in. -/
import Derived.Test.YteibdmpjlpcgbaaTHOps
namespace Go.Proofs.Yteibdmpjlpcgbaa.XDisk
open Go Go.RowKit Go.Proofs.YteibdmpjlpcgbaaW.PrintWords Go.Proofs.YteibdmpjlpcgbaaW.PrintLast Go.Proofs.YteibdmpjlpcgbaaW.PrintMore
open Go.Proofs.Yteibdmpjlpcgbaa
attribute [local go_sem] max2_int min2_int max_two min_two max_three min_three max_four min_four
set_option linter.unusedVariables false
set_option linter.unusedSimpArgs false
/-- All bytes. -/
def used : List (Nm × FA) → Int
  | [] => 0
  | p :: l => (p.2.b.length : Int) + used l
def wt (l : List (Nm × FA)) (q : ByteArray × Value) : Int := match get l q.1.data.toList with
  | some f => f.b.length
  | none => 0
def tot (l : List (Nm × FA)) : List (ByteArray × Value) → Int
  | [] => 0
  | q :: qs => wt l q + tot l qs
theorem wt_nonneg (l : List (Nm × FA)) (q : ByteArray × Value) : 0 ≤ wt l q := by
  unfold wt
  split <;> omega
theorem tot_nonneg (l : List (Nm × FA)) : ∀ qs, 0 ≤ tot l qs
  | [] => Int.le_refl _
  | q :: qs => by have := wt_nonneg l q; have := tot_nonneg l qs; simp only [tot]; omega
theorem tot_perm (l : List (Nm × FA)) {a b : List (ByteArray × Value)} (h : a.Perm b) : tot l a = tot l b := by
  induction h with
  | nil => rfl
  | cons x _ ih => simp only [tot]; omega
  | swap x y l' => simp only [tot]; omega
  | trans _ _ h1 h2 => exact h1.trans h2
theorem tot_mapL {l : List (Nm × FA)} (hr : Rising l) (V : Nm → Nat) : tot l (mapL l V) = used l := by
  have key : ∀ l', (∀ p ∈ l', p ∈ l) → tot l (mapL l' V) = used l' := by
    intro l'
    induction l' with
    | nil => intro _; rfl
    | cons p l' ih =>
      intro h
      have h1 : wt l (str p.1, Value.pointer (some ⟨V p.1, 0, none⟩)) = p.2.b.length := by
        unfold wt
        have h2 : get l (str p.1).data.toList = some p.2 := by
          rw [show (str p.1).data.toList = p.1 by simp [str]]
          exact mem_get hr (h p List.mem_cons_self)
        simp only [h2]
      have h2 := ih (fun q hq => h q (List.mem_cons_of_mem _ hq))
      show wt l _ + tot l (mapL l' V) = _
      rw [h1, h2]
      rfl
  exact key l (fun _ h => h)
set_option maxHeartbeats 8000000 in
set_option maxRecDepth 100000 in
theorem used_at (gd B : Nat) (φ : Nat → Tg) (S : DA) (w : World) (h : DAt w φ B gd S) (hu : used S.files ≤ 1000000000000) :
    Calls Try.prog 19 #[.pointer (some ⟨gd, 0, none⟩)] w fun e w' => e = .returned (.int .i64 (used S.files)) ∧ Below w.heap.size w w' := by
  obtain ⟨gm, n, V, Af, cf, Ap, cp, hd, hn⟩ := h
  have HD := Aside0.mk hd
  have k0 : w.cell? ⟨gd, 0, none⟩ = some (.bool true) := (blk_cell hd.blk 0).trans rfl
  have k4 : w.cell? ⟨gd, 4, none⟩ = some (.map (some gm)) := (blk_cell hd.blk 4).trans rfl
  have TM := Aside0.mk (tot_mapL hd.rise V)
  have HU := Aside0.mk hu
  clear hd hn hu
  obtain ⟨rr, hrr0⟩ : ∃ rr, rr = w.heap.size := ⟨_, rfl⟩
  have HRR := Aside0.mk hrr0
  clear hrr0
  go_enter Try.func19, Try.ntmps19
  go_wp2_with (first | (go_at_call 34; refine (is_made gd true _ k0).mono ?_; rintro e w5 ⟨rfl, rfl⟩) | (at_range; (with_reducible refine HStrMap.wp_range m69 _ rfl (.tmp 11) rfl gm n _ ?h1 HD.out.own ?_); (case h1 => rfl); intro w9 cnt hr9 hg9 hs9; have RG := Aside0.mk hr9; have HB9 := Aside0.mk (pw_below_grown (Below.refl w.heap.size w) none (Nat.le_refl _) hg9 (fun k e => by cases e)); clear hr9 hg9 hs9))
  rw [← HRR.out]
  rw [← HRR.out] at RG
  go_frame
  go_loopw [3] (fun v3 wq => ∃ (todo : List (ByteArray × Value)) (cnt : Nat) (acc : Int), v3 = .int .i64 acc ∧ 0 ≤ acc ∧ Aside0 (HStrMap.Ranges m69 wq gm rr n (mapL S.files V) todo cnt) ∧ Aside0 (acc + tot S.files todo = used S.files) ∧ Aside0 (Below w.heap.size w wq)) (fun v3 wq => wq.rangeLeft gm rr)
  case atStart => exact ⟨_, cnt, 0, rfl, Int.le_refl _, RG, ⟨by rw [TM.out]; omega⟩, HB9⟩
  case round =>
    clear RG HB9 k0 k4
    obtain ⟨todo, cnt, acc, rfl, ha0, RG, HT, HB2⟩ := hrel
    go_wp2_with (at_next; (with_reducible refine HStrMap.wp_next m69 _ rfl (.tmp 12) rfl gm rr n cnt _ todo ?h1 RG.out ?_ ?_); (case h1 => rfl))
    · intro hdone
      have HDN := Aside0.mk hdone
      clear hdone
      go_wp2
      go_ret
      refine ⟨?_, HB2.out⟩
      have := HT.out
      rw [HDN.out] at this
      simp only [tot] at this
      rw [show acc = used S.files by omega]
      rfl
    · intro s v todo' w9 cnt9 hsz hperm hr9 hlt9 hg9 hs9 hen
      have RG9 := Aside0.mk hr9
      have HLT := Aside0.mk hlt9
      have HPM := Aside0.mk hperm
      have HB9 := Aside0.mk (pw_below_grown HB2.out _ (below_size HB2.out) hg9 (fun k e => by cases e; rw [HRR.out]; exact Nat.le_refl _))
      have hmem := RG.out.mem (s, v) (hperm.mem_iff.2 List.mem_cons_self)
      clear hsz hperm hr9 hlt9 hg9 hs9
      obtain ⟨p, hp, hpe⟩ := List.mem_map.1 hmem
      simp only [Prod.mk.injEq] at hpe
      obtain ⟨rfl, rfl⟩ := hpe
      obtain ⟨A, c, f1, -, -⟩ := HD.out.file p hp
      have hc0 : w9.cell? ⟨V p.1, 0, none⟩ = some (.slice A p.2.b.length c) := (HB9.out.cell (World.block_lt_of_cell? w ⟨V p.1, 0, none⟩ ((blk_cell f1 0).trans rfl))).trans ((blk_cell f1 0).trans rfl)
      have hwt : wt S.files (str p.1, Value.pointer (some ⟨V p.1, 0, none⟩)) = p.2.b.length := by
        unfold wt
        have h2 : get S.files (str p.1).data.toList = some p.2 := by
          rw [show (str p.1).data.toList = p.1 by simp [str]]
          exact mem_get HD.out.rise hp
        simp only [h2]
      have HT2 : Aside0 ((acc + p.2.b.length) + tot S.files todo' = used S.files) := ⟨by have := HT.out; rw [tot_perm _ HPM.out] at this; simp only [tot] at this; rw [hwt] at this; omega⟩
      have hbd : acc + p.2.b.length ≤ 1000000000000 := by have := HT2.out; have := HU.out; have := tot_nonneg S.files todo'; omega
      clear hmem f1 hwt hp
      go_wp2
      go_roundw
      case rel => exact ⟨todo', cnt9, acc + p.2.b.length, by go_num, by omega, RG9, HT2, HB9⟩
      case measure => rw [HStrMap.Ranges.left RG9.out, HStrMap.Ranges.left RG.out]; exact HLT.out
end Go.Proofs.Yteibdmpjlpcgbaa.XDisk
