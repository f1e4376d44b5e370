/- Append of the given program's disk. -/
import Derived.Test.YteibdmpjlpcgbaaTHApp0
namespace Go.Proofs.Yteibdmpjlpcgbaa.XDisk
open Go Go.RowKit Go.Proofs.YteibdmpjlpcgbaaW.PrintWords Go.Proofs.YteibdmpjlpcgbaaW.PrintLast Go.Proofs.YteibdmpjlpcgbaaW.PrintMore
open Go.Proofs.Yteibdmpjlpcgbaa
set_option linter.unusedVariables false
set_option linter.unusedSimpArgs false
theorem min3_run (P : Program) (W : World) (ats : Array TypeId) (ty : TypeId) (x y z : Int) : (Builtin.min_ ats ty #[.int .i64 x, .int .i64 y, .int .i64 z]).run P W = .ok (.int .i64 (min (min x y) z)) W := by
  rw [min_three, min2_int]
  simp only [pure_bind, min2_int]
  have h1 : (if y < x then y else x) = min x y := by omega
  rw [h1]
  have h2 : (if z < min x y then z else min x y) = min (min x y) z := by omega
  rw [h2]
  rfl
attribute [local go_sem] min3_run
theorem cut_h (W : World) (B : Option Addr) (n c k : Nat) (hk : k ≤ c) : (Instr.slice 30 (.slice B n c) none (some (.int .i64 (k : Int))) none).run Try.prog W = .ok (.slice B k c) W := by
  obtain ⟨i0, hi, hzz⟩ := Option.map_eq_some_iff.1 infoU8
  simp only [Prod.mk.injEq] at hzz
  obtain ⟨hz0, hz1, hz2⟩ := hzz
  have hel : Try.prog.elem 30 = 5 := by simp [Program.elem, Try.underlying30]
  have hu : Try.prog.underlying 30 = some (.slice (Try.prog.elem 30)) := by rw [hel]; exact Try.underlying30
  rw [run_slice_h W 30 B n c hu .i64 (k : Int) (Int.natCast_nonneg _) (by omega), hel]
  simp [sizeOf, typeInfo, hi, hz1, sliced, Result.andThen]
  intro _
  cases B with
  | none => rfl
  | some b => simp [Addr.add]
/-- What room is left. -/
def left (S : DA) : Int := S.room - used S.files
/-- A disk that is as full as may be. -/
structure Fits (S : DA) : Prop where
  room : S.room ≤ 9223372036854775807
  fit : used S.files ≤ S.room
  few : used S.files ≤ 1000000000000
theorem used_nonneg : ∀ l, 0 ≤ used l
  | [] => Int.le_refl _
  | p :: l => by have := used_nonneg l; simp only [used]; omega
/-- How many bytes are put, with which answer. -/
def appX (S : DA) (b : List Int) (part : Int) (no : Bool) : Nat × Int := if no then ((min (min part b.length) (left S)).toNat, 12) else if left S < b.length then (0, 13) else (b.length, 0)
def AppPost (w : World) (φ : Nat → Tg) (nm : Nm) (g : Nat) (f : FA) (b : List Int) (r : Nat × Int) (e : Ending) (w' : World) : Prop :=
  e = .returned (.int .i64 r.2) ∧ ∃ A' c', w'.heap[g]? = some (.cells #[.slice A' (f.b ++ b.take r.1).length c', .int .i64 f.safe] 82 (0, 0)) ∧ FRow w' (fun k => φ k = .file nm ∨ w.heap.size ≤ k) (.slice A' (f.b ++ b.take r.1).length c') (f.b ++ b.take r.1) ∧ Chg w w' (fun k => φ k = .file nm)
theorem belowN {B : Nat} {a w : World} (h : Below B a w) (q : Nat) : Below B a (w.drewN q) := ⟨h.os, h.tape, h.output, h.size, h.block⟩
theorem app_done {w w7 w8 : World} {φ : Nat → Tg} {nm : Nm} {g n1 : Nat} {f : FA} {d : List Int} {A A1 : Option Addr} {c c1 : Nat} (hb7 : Below w.heap.size w w7) (f1 : w.heap[g]? = some (.cells #[.slice A f.b.length c, .int .i64 f.safe] 82 (0, 0))) (f2 : φ g = .file nm) (f3 : FRow w (fun k => φ k = .file nm) (.slice A f.b.length c) f.b)
    (hr : FRow w8 (fun k => φ k = .file nm ∨ w7.heap.size ≤ k) (.slice A1 n1 c1) (f.b ++ d)) (hg : w7.grownBy w8 (Value.slice A f.b.length c).ownBlock) :
    w8.heap[g]? = some (.cells #[.slice A f.b.length c, .int .i64 f.safe] 82 (0, 0)) ∧ (w8.setCell ⟨g, 0, none⟩ (.slice A1 n1 c1)).heap[g]? = some (.cells #[.slice A1 n1 c1, .int .i64 f.safe] 82 (0, 0)) ∧ FRow (w8.setCell ⟨g, 0, none⟩ (.slice A1 n1 c1)) (fun k => φ k = .file nm ∨ w.heap.size ≤ k) (.slice A1 n1 c1) (f.b ++ d) ∧ Chg w (w8.setCell ⟨g, 0, none⟩ (.slice A1 n1 c1)) (fun k => φ k = .file nm) := by
  have b7 := blk_below f1 hb7
  have hlt := blk_lt b7
  have hne : some g ≠ (Value.slice A f.b.length c).ownBlock := f3.ne_other f1 (by decide)
  have b8 : w8.heap[g]? = _ := (hg.block g hlt hne).trans b7
  refine ⟨b8, blk_put (cs' := #[.slice A1 n1 c1, .int .i64 f.safe]) b8 0 _ rfl, ?_, ?_⟩
  · exact (hr.other b8 (by decide) (fun k _ hne => Below.heap_setCell w8 ⟨g, 0, none⟩ _ k hne)).mono (fun k hk => hk.imp_right (fun h => Nat.le_trans hb7.size h))
  · have c1 : Chg w w7 (fun k => φ k = .file nm) := Chg.of_below _ hb7
    have c2 : Chg w7 w8 (fun k => φ k = .file nm) := ⟨hg.os, hg.tape, hg.output, hg.size, fun k hk hn => hg.block k hk (fun e => hn (f3.own k e.symm))⟩
    exact (c1.trans c2 (fun k hk => .inl hk)).trans ((Chg.set _ _ _).mono (fun k hk => by subst hk; exact f2)) (fun k hk => .inl hk)
def r56_1.T : Bool × List (List Nat × List Nat) := (true, [([], []), ([0], [0]), ([1], [1]), ([2], [2]), ([], []), ([3, 4], [3, 4]), ([], []), ([6], [6]), ([7], [7]), ([8], [8]), ([], []), ([10], [10]), ([9, 11], [9, 11]), ([5, 11, 0, 1, 2, 3, 4, 5], [5]), ([12, 13, 0, 1, 2, 3, 4, 5, 6, 7, 8, 9, 10, 11, 12, 13], [12])])
def r56_1.B : List Nat := [0, 1, 3, 7, 0, 31, 0, 64, 192, 448, 0, 1024, 4032, 3135, 16383]
theorem r56_1.tab : rtab .any (opsOf Try.f56 1) = r56_1.T := by kernel_rfl
theorem r56_1.bits : waitsOk r56_1.T.2 r56_1.B = true := by kernel_rfl
def r56_3.T : Bool × List (List Nat × List Nat) := (true, [([], []), ([], []), ([1], [1]), ([2], [2]), ([3], [3]), ([], []), ([], []), ([], []), ([7], [7]), ([], []), ([6, 8, 9], [6, 8, 9]), ([5, 10], [5, 10]), ([4, 11], [4, 11]), ([0, 0, 1, 2, 3, 4, 5, 6, 7, 8, 9, 10, 11, 12], [0]), ([13, 0, 1, 2, 3, 4, 5, 6, 7, 8, 9, 10, 11, 12], [13]), ([14, 12, 12, 0, 1, 2, 3, 4, 5, 6, 7, 8, 9, 10, 11, 12], [12, 14])])
def r56_3.B : List Nat := [0, 0, 2, 6, 14, 0, 0, 0, 128, 0, 960, 2016, 4094, 8191, 16383, 32767]
theorem r56_3.tab : rtab .any (opsOf Try.f56 3) = r56_3.T := by kernel_rfl
theorem r56_3.bits : waitsOk r56_3.T.2 r56_3.B = true := by kernel_rfl
def r56_7.T : Bool × List (List Nat × List Nat) := (true, [([], []), ([], []), ([1], [1]), ([2], [2]), ([3], [3]), ([], []), ([4, 5], [4, 5]), ([0, 0, 1, 2, 3, 4, 5, 6], [0]), ([7, 0, 1, 2, 3, 4, 5, 6], [7]), ([8, 6, 6, 0, 1, 2, 3, 4, 5, 6], [6, 8])])
def r56_7.B : List Nat := [0, 0, 2, 6, 14, 0, 62, 127, 255, 511]
theorem r56_7.tab : rtab .any (opsOf Try.f56 7) = r56_7.T := by kernel_rfl
theorem r56_7.bits : waitsOk r56_7.T.2 r56_7.B = true := by kernel_rfl
set_option maxHeartbeats 8000000 in
set_option maxRecDepth 100000 in
theorem append1_at (bd bn bb : Nat) (gd B gm n : Nat) (φ : Nat → Tg) (S : DA) (V : Nm → Nat) (Af : Option Addr) (cf : Nat) (Ap : Option Addr) (cp : Nat) (nm : Nm) (f : FA) (b : List Int) (Ab : Option Addr) (cb : Nat) (part : Int) (no : Bool) (w : World) (h : DIn w φ B gd S gm n V Af cf Ap cp) (hn : (n : Int) ≤ S.calls) (hg : get S.files nm = some f) (hlf0 : f.b.length ≤ 1000000) (hF : Fits S) (hl : nm.length ≤ 1000)
    (h0 : w.cell? ⟨bd, 0, none⟩ = some (.pointer (some ⟨gd, 0, none⟩))) (h1 : w.cell? ⟨bn, 0, none⟩ = some (.string (str nm))) (h2 : w.cell? ⟨bb, 0, none⟩ = some (.slice Ab b.length cb)) (hb : Kd.C (Kd.int .u8) w Ab b.length b) (hcb : b.length ≤ cb) (hbl : b.length ≤ 1000000) (hp : 0 ≤ part) :
    Calls Try.prog 56 #[.int .i64 part, .bool no, .pointer (some ⟨bd, 0, none⟩), .pointer (some ⟨bn, 0, none⟩), .pointer (some ⟨bb, 0, none⟩)] w (AppPost w φ nm (V nm) f b (appX S b part no)) := by
  obtain ⟨A, c, f1, f2, f3⟩ := h.file (nm, f) (get_mem hg)
  have hsz : (str nm).size ≤ maxLen := by rw [str_size]; unfold maxLen; omega
  have k4 : w.cell? ⟨gd, 4, none⟩ = some (.map (some gm)) := (blk_cell h.blk 4).trans rfl
  have k1 : w.cell? ⟨gd, 1, none⟩ = some (.int .i64 S.room) := (blk_cell h.blk 1).trans rfl
  have kf : w.cell? ⟨V nm, 0, none⟩ = some (.slice A f.b.length c) := (blk_cell f1 0).trans rfl
  have FI : Aside0 (∀ w', Below w.heap.size w w' → (Instr.lookup 69 (.map (some gm)) (.string (str nm)) false).run Try.prog w' = .ok (.pointer (some ⟨V nm, 0, none⟩)) w') := ⟨fun w' hb => by have h2 := (h.below hb).finds nm hsz 0; rw [hg] at h2; exact h2⟩
  have HD := Aside0.mk h
  have HN := Aside0.mk hn
  have HF := Aside0.mk hF
  have HC := Aside0.mk hb
  have HCB := Aside0.mk hcb
  have HP := Aside0.mk hp
  have F1 := Aside0.mk f1
  have F2 := Aside0.mk f2
  have F3 := Aside0.mk f3
  have HLF : Aside0 (f.b.length ≤ 1000000) := ⟨hlf0⟩
  obtain ⟨lf, hlf⟩ : ∃ lf, left S = lf := ⟨_, rfl⟩
  have HLE := Aside0.mk hlf
  have hl0 : 0 ≤ lf := by rw [← hlf]; have := hF.fit; unfold left; omega
  have hl1 : lf ≤ 9223372036854775807 := by rw [← hlf]; have := hF.room; have := used_nonneg S.files; unfold left; omega
  have hsub : S.room - used S.files = lf := hlf
  have hwr : wrap64 lf = lf := w64' (by omega) (by omega)
  obtain ⟨r, hr⟩ : ∃ r, appX S b part no = r := ⟨_, rfl⟩
  rw [hr]
  have HR := Aside0.mk hr
  clear hr h hn hF hb hcb hp f1 f2 f3 hg hlf0 hlf
  go_enter Try.func56, Try.ntmps56
  go_upto_region 1 with (fail)
  refine start_ (n := 15) (S := fun w' => Below w.heap.size w w') (ds := []) #[false, false, false, false, false, false, false, false, false, false, false, false, false, false, false] (by kernel_rfl) rfl rfl (below_drew (Below.refl _ _)) (fun hHeld => ?_)
  refine with_tabW r56_1.tab r56_1.bits (fun HT_ HW_ => ?_)
  generalize w.drew = wd at hHeld ⊢
  refine take_ (i := 0) (N := some 10) (v := ?_) (a' := ?_) #[true, false, false, false, false, false, false, false, false, false, false, false, false, false, false] rfl rfl (take_ofW HT_.out HW_.out (by kernel_rfl)) (fun _ _ _ h => h) (Or.inl ⟨by rfl, ?_⟩) hHeld ?_ ?_
  rotate_left
  · rintro w' hbq
    have c_h0 := (hbq.cell (World.block_lt_of_cell? w _ h0)).trans h0
    go_simp
    with_reducible rfl
  rotate_left
  · simp only [Act.put, List.setIfInBounds_toArray, List.set_cons_zero, List.set_cons_succ, i64_w, i32_w]
    rfl
  refine pure_ (i := 1) (N := some 11) (v := ?_) (a' := ?_) #[true, true, false, false, false, false, false, false, false, false, false, false, false, false, false] rfl rfl (any_of HT_.out (by kernel_rfl)) (fun _ _ _ h => h) (Or.inl ⟨by rfl, ?_⟩) ?_ ?_
  rotate_left
  · intro w'
    go_simp
    with_reducible rfl
  rotate_left
  · simp only [Act.put, List.setIfInBounds_toArray, List.set_cons_zero, List.set_cons_succ, i64_w, i32_w]
    rfl
  refine pure_ (i := 2) (N := some 12) (v := ?_) (a' := ?_) #[true, true, true, false, false, false, false, false, false, false, false, false, false, false, false] rfl rfl (any_of HT_.out (by kernel_rfl)) (fun _ _ _ h => h) (Or.inl ⟨by rfl, ?_⟩) ?_ ?_
  rotate_left
  · intro w'
    go_simp
    with_reducible rfl
  rotate_left
  · simp only [Act.put, List.setIfInBounds_toArray, List.set_cons_zero, List.set_cons_succ, i64_w, i32_w]
    rfl
  refine take_ (i := 3) (N := some 13) (v := ?_) (a' := ?_) #[true, true, true, true, false, false, false, false, false, false, false, false, false, false, false] rfl rfl (take_ofW HT_.out HW_.out (by kernel_rfl)) (fun _ _ _ h => h) (Or.inl ⟨by rfl, ?_⟩) hHeld ?_ ?_
  rotate_left
  · rintro w' hbq
    have c_k4 := (hbq.cell (World.block_lt_of_cell? w _ k4)).trans k4
    go_simp
    with_reducible rfl
  rotate_left
  · simp only [Act.put, List.setIfInBounds_toArray, List.set_cons_zero, List.set_cons_succ, i64_w, i32_w]
    rfl
  refine take_ (i := 4) (N := some 14) (v := ?_) (a' := ?_) #[true, true, true, true, true, false, false, false, false, false, false, false, false, false, false] rfl rfl (take_ofW HT_.out HW_.out (by kernel_rfl)) (fun _ _ _ h => h) (Or.inl ⟨by rfl, ?_⟩) hHeld ?_ ?_
  rotate_left
  · rintro w' hbq
    have c_h1 := (hbq.cell (World.block_lt_of_cell? w _ h1)).trans h1
    go_simp
    with_reducible rfl
  rotate_left
  · simp only [Act.put, List.setIfInBounds_toArray, List.set_cons_zero, List.set_cons_succ, i64_w, i32_w]
    rfl
  refine take_ (i := 5) (N := some 15) (v := ?_) (a' := ?_) #[true, true, true, true, true, true, false, false, false, false, false, false, false, false, false] rfl rfl (take_ofW HT_.out HW_.out (by kernel_rfl)) (fun _ _ _ h => h) (Or.inl ⟨by rfl, ?_⟩) hHeld ?_ ?_
  rotate_left
  · rintro w' hbq
    have c_f := FI.out w' hbq
    go_simp
    with_reducible rfl
  rotate_left
  · simp only [Act.put, List.setIfInBounds_toArray, List.set_cons_zero, List.set_cons_succ, i64_w, i32_w]
    rfl
  refine take_ (i := 6) (N := some 16) (v := ?_) (a' := ?_) #[true, true, true, true, true, true, true, false, false, false, false, false, false, false, false] rfl rfl (take_ofW HT_.out HW_.out (by kernel_rfl)) (fun _ _ _ h => h) (Or.inl ⟨by rfl, ?_⟩) hHeld ?_ ?_
  rotate_left
  · rintro w' hbq
    have c_h0 := (hbq.cell (World.block_lt_of_cell? w _ h0)).trans h0
    go_simp
    with_reducible rfl
  rotate_left
  · simp only [Act.put, List.setIfInBounds_toArray, List.set_cons_zero, List.set_cons_succ, i64_w, i32_w]
    rfl
  refine pure_ (i := 7) (N := some 17) (v := ?_) (a' := ?_) #[true, true, true, true, true, true, true, true, false, false, false, false, false, false, false] rfl rfl (any_of HT_.out (by kernel_rfl)) (fun _ _ _ h => h) (Or.inl ⟨by rfl, ?_⟩) ?_ ?_
  rotate_left
  · intro w'
    go_simp
    with_reducible rfl
  rotate_left
  · simp only [Act.put, List.setIfInBounds_toArray, List.set_cons_zero, List.set_cons_succ, i64_w, i32_w]
    rfl
  refine pure_ (i := 8) (N := some 18) (v := ?_) (a' := ?_) #[true, true, true, true, true, true, true, true, true, false, false, false, false, false, false] rfl rfl (any_of HT_.out (by kernel_rfl)) (fun _ _ _ h => h) (Or.inl ⟨by rfl, ?_⟩) ?_ ?_
  rotate_left
  · intro w'
    go_simp
    with_reducible rfl
  rotate_left
  · simp only [Act.put, List.setIfInBounds_toArray, List.set_cons_zero, List.set_cons_succ, i64_w, i32_w]
    rfl
  refine take_ (i := 9) (N := some 19) (v := ?_) (a' := ?_) #[true, true, true, true, true, true, true, true, true, true, false, false, false, false, false] rfl rfl (take_ofW HT_.out HW_.out (by kernel_rfl)) (fun _ _ _ h => h) (Or.inl ⟨by rfl, ?_⟩) hHeld ?_ ?_
  rotate_left
  · rintro w' hbq
    have c_k1 := (hbq.cell (World.block_lt_of_cell? w _ k1)).trans k1
    go_simp
    with_reducible rfl
  rotate_left
  · simp only [Act.put, List.setIfInBounds_toArray, List.set_cons_zero, List.set_cons_succ, i64_w, i32_w]
    rfl
  refine take_ (i := 10) (N := some 20) (v := ?_) (a' := ?_) #[true, true, true, true, true, true, true, true, true, true, true, false, false, false, false] rfl rfl (take_ofW HT_.out HW_.out (by kernel_rfl)) (fun _ _ _ h => h) (Or.inl ⟨by rfl, ?_⟩) hHeld ?_ ?_
  rotate_left
  · rintro w' hbq
    have c_h0 := (hbq.cell (World.block_lt_of_cell? w _ h0)).trans h0
    go_simp
    with_reducible rfl
  rotate_left
  · simp only [Act.put, List.setIfInBounds_toArray, List.set_cons_zero, List.set_cons_succ, i64_w, i32_w]
    rfl
  refine one_ (i := 11) (N := some 21) #[true, true, true, true, true, true, true, true, true, true, true, true, false, false, false] rfl rfl (one_of HT_.out (by kernel_rfl)) (by decide) (fun K hK => ?_)
  refine goes_ Try.func19 (by kernel_rfl) rfl #[.pointer (some ⟨gd, 0, none⟩)] (by rfl) rfl rfl (by first | done | rfl | (simp only [List.map_toArray, List.map_cons, List.map_nil]; rfl)) ?_
  refine (used_at gd B φ S _ (DAt.below ⟨gm, n, V, Af, cf, Ap, cp, HD.out, HN.out⟩ hHeld) HF.out.few).mono ?_
  rintro e0 w6 ⟨rfl, hb⟩
  refine ⟨_, rfl, ?_⟩
  have HX := Aside0.mk (below_step hHeld hb)
  refine hK.out _ _ HX.out (fun hHeld => ?_)
  clear hK K hb hHeld
  refine norm_ (a' := ?_) ?_ ?_
  rotate_left
  · show Act.put _ (some 21) _ = _
    simp only [Act.put, List.setIfInBounds_toArray, List.set_cons_zero, List.set_cons_succ, i64_w, i32_w]
    rfl
  refine pure_ (i := 12) (N := some 22) (v := ?_) (a' := ?_) #[true, true, true, true, true, true, true, true, true, true, true, true, true, false, false] rfl rfl (any_of HT_.out (by kernel_rfl)) (fun _ _ _ h => h) (Or.inl ⟨by rfl, ?_⟩) ?_ ?_
  rotate_left
  · intro w'
    go_simp
    (try rw [hwr])
    with_reducible rfl
  rotate_left
  · simp only [Act.put, List.setIfInBounds_toArray, List.set_cons_zero, List.set_cons_succ, i64_w, i32_w]
    rfl
  refine pure_ (i := 13) (N := some 8) (v := ?_) (a' := ?_) #[true, true, true, true, true, true, true, true, true, true, true, true, true, true, false] rfl rfl (any_of HT_.out (by kernel_rfl)) (fun _ _ _ h => h) (Or.inl ⟨by rfl, ?_⟩) ?_ ?_
  rotate_left
  · intro w'
    go_simp
    with_reducible rfl
  rotate_left
  · simp only [Act.put, List.setIfInBounds_toArray, List.set_cons_zero, List.set_cons_succ, i64_w, i32_w]
    rfl
  refine pure_ (i := 14) (N := some 9) (v := ?_) (a' := ?_) #[true, true, true, true, true, true, true, true, true, true, true, true, true, true, true] rfl rfl (any_of HT_.out (by kernel_rfl)) (fun _ _ _ h => h) (Or.inl ⟨by rfl, ?_⟩) ?_ ?_
  rotate_left
  · intro w'
    go_simp
    with_reducible rfl
  rotate_left
  · simp only [Act.put, List.setIfInBounds_toArray, List.set_cons_zero, List.set_cons_succ, i64_w, i32_w]
    rfl
  refine done_ (done_of HT_.out (by kernel_rfl)) ?_
  rename World => w6
  cases no with
  | true =>
    obtain ⟨k, hk⟩ : ∃ k : Nat, min (min part (b.length : Int)) lf = k := ⟨(min (min part (b.length : Int)) lf).toNat, by have := HP.out; omega⟩
    have hkb : k ≤ b.length := by omega
    have hkc : k ≤ cb := Nat.le_trans hkb HCB.out
    have hkt : (b.take k).length = k := by rw [List.length_take]; omega
    have hki : (if lf < (if (b.length : Int) < part then (b.length : Int) else part) then lf else (if (b.length : Int) < part then (b.length : Int) else part)) = k := by rw [← hk]; omega
    obtain rfl : r = (k, 12) := by rw [← HR.out]; unfold appX; rw [HLE.out, if_pos rfl, hk, Int.toNat_natCast]
    clear HR
    have HKB := Aside0.mk hkb
    go_upto_region 3 with (fail)
    refine start_ (n := 16) (S := fun w' => Below w.heap.size w w') (ds := [12, 15]) #[false, false, false, false, false, false, false, false, false, false, false, false, false, false, false, false] (by kernel_rfl) rfl rfl (below_step HX.out (below_drew (Below.refl _ _))) (fun hHeld => ?_)
    refine with_tabW r56_3.tab r56_3.bits (fun HT_ HW_ => ?_)
    generalize w6.drew = wd at hHeld ⊢
    refine pure_ (i := 0) (N := some 25) (v := ?_) (a' := ?_) #[true, false, false, false, false, false, false, false, false, false, false, false, false, false, false, false] rfl rfl (any_of HT_.out (by kernel_rfl)) (fun _ _ _ h => h) (Or.inl ⟨by rfl, ?_⟩) ?_ ?_
    rotate_left
    · intro w'
      go_simp
      with_reducible rfl
    rotate_left
    · simp only [Act.put, List.setIfInBounds_toArray, List.set_cons_zero, List.set_cons_succ, i64_w, i32_w]
      rfl
    refine pure_ (i := 1) (N := some 26) (v := ?_) (a' := ?_) #[true, true, false, false, false, false, false, false, false, false, false, false, false, false, false, false] rfl rfl (any_of HT_.out (by kernel_rfl)) (fun _ _ _ h => h) (Or.inl ⟨by rfl, ?_⟩) ?_ ?_
    rotate_left
    · intro w'
      go_simp
      with_reducible rfl
    rotate_left
    · simp only [Act.put, List.setIfInBounds_toArray, List.set_cons_zero, List.set_cons_succ, i64_w, i32_w]
      rfl
    refine pure_ (i := 2) (N := some 27) (v := ?_) (a' := ?_) #[true, true, true, false, false, false, false, false, false, false, false, false, false, false, false, false] rfl rfl (any_of HT_.out (by kernel_rfl)) (fun _ _ _ h => h) (Or.inl ⟨by rfl, ?_⟩) ?_ ?_
    rotate_left
    · intro w'
      go_simp
      with_reducible rfl
    rotate_left
    · simp only [Act.put, List.setIfInBounds_toArray, List.set_cons_zero, List.set_cons_succ, i64_w, i32_w]
      rfl
    refine pure_ (i := 3) (N := some 28) (v := ?_) (a' := ?_) #[true, true, true, true, false, false, false, false, false, false, false, false, false, false, false, false] rfl rfl (any_of HT_.out (by kernel_rfl)) (fun _ _ _ h => h) (Or.inl ⟨by rfl, ?_⟩) ?_ ?_
    rotate_left
    · intro w'
      go_simp
      with_reducible rfl
    rotate_left
    · simp only [Act.put, List.setIfInBounds_toArray, List.set_cons_zero, List.set_cons_succ, i64_w, i32_w]
      rfl
    refine take_ (i := 4) (N := some 29) (v := ?_) (a' := ?_) #[true, true, true, true, true, false, false, false, false, false, false, false, false, false, false, false] rfl rfl (take_ofW HT_.out HW_.out (by kernel_rfl)) (fun _ _ _ h => h) (Or.inl ⟨by rfl, ?_⟩) hHeld ?_ ?_
    rotate_left
    · rintro w' hbq
      have c_kf := (hbq.cell (World.block_lt_of_cell? w _ kf)).trans kf
      go_simp
      with_reducible rfl
    rotate_left
    · simp only [Act.put, List.setIfInBounds_toArray, List.set_cons_zero, List.set_cons_succ, i64_w, i32_w]
      rfl
    refine take_ (i := 5) (N := some 30) (v := ?_) (a' := ?_) #[true, true, true, true, true, true, false, false, false, false, false, false, false, false, false, false] rfl rfl (take_ofW HT_.out HW_.out (by kernel_rfl)) (fun _ _ _ h => h) (Or.inl ⟨by rfl, ?_⟩) hHeld ?_ ?_
    rotate_left
    · rintro w' hbq
      have c_h2 := (hbq.cell (World.block_lt_of_cell? w _ h2)).trans h2
      go_simp
      with_reducible rfl
    rotate_left
    · simp only [Act.put, List.setIfInBounds_toArray, List.set_cons_zero, List.set_cons_succ, i64_w, i32_w]
      rfl
    refine pure_ (i := 6) (N := some 31) (v := ?_) (a' := ?_) #[true, true, true, true, true, true, true, false, false, false, false, false, false, false, false, false] rfl rfl (any_of HT_.out (by kernel_rfl)) (fun _ _ _ h => h) (Or.inl ⟨by rfl, ?_⟩) ?_ ?_
    rotate_left
    · intro w'
      go_simp
      with_reducible rfl
    rotate_left
    · simp only [Act.put, List.setIfInBounds_toArray, List.set_cons_zero, List.set_cons_succ, i64_w, i32_w]
      rfl
    refine take_ (i := 7) (N := some 32) (v := ?_) (a' := ?_) #[true, true, true, true, true, true, true, true, false, false, false, false, false, false, false, false] rfl rfl (take_ofW HT_.out HW_.out (by kernel_rfl)) (fun _ _ _ h => h) (Or.inl ⟨by rfl, ?_⟩) hHeld ?_ ?_
    rotate_left
    · rintro w' hbq
      have c_h2 := (hbq.cell (World.block_lt_of_cell? w _ h2)).trans h2
      go_simp
      with_reducible rfl
    rotate_left
    · simp only [Act.put, List.setIfInBounds_toArray, List.set_cons_zero, List.set_cons_succ, i64_w, i32_w]
      rfl
    refine pure_ (i := 8) (N := some 33) (v := ?_) (a' := ?_) #[true, true, true, true, true, true, true, true, true, false, false, false, false, false, false, false] rfl rfl (any_of HT_.out (by kernel_rfl)) (fun _ _ _ h => h) (Or.inl ⟨by rfl, ?_⟩) ?_ ?_
    rotate_left
    · intro w'
      go_simp
      with_reducible rfl
    rotate_left
    · simp only [Act.put, List.setIfInBounds_toArray, List.set_cons_zero, List.set_cons_succ, i64_w, i32_w]
      rfl
    refine pure_ (i := 9) (N := some 34) (v := ?_) (a' := ?_) #[true, true, true, true, true, true, true, true, true, true, false, false, false, false, false, false] rfl rfl (any_of HT_.out (by kernel_rfl)) (fun _ _ _ h => h) (Or.inl ⟨by rfl, ?_⟩) ?_ ?_
    rotate_left
    · intro w'
      go_simp
      with_reducible rfl
    rotate_left
    · simp only [Act.put, List.setIfInBounds_toArray, List.set_cons_zero, List.set_cons_succ, i64_w, i32_w]
      rfl
    refine pure_ (i := 10) (N := some 35) (v := ?_) (a' := ?_) #[true, true, true, true, true, true, true, true, true, true, true, false, false, false, false, false] rfl rfl (any_of HT_.out (by kernel_rfl)) (fun _ _ _ h => h) (Or.inl ⟨by rfl, ?_⟩) ?_ ?_
    rotate_left
    · intro w'
      go_simp
      with_reducible rfl
    rotate_left
    · simp only [Act.put, List.setIfInBounds_toArray, List.set_cons_zero, List.set_cons_succ, i64_w, i32_w]
      rfl
    refine pure_ (i := 11) (N := some 36) (v := ?_) (a' := ?_) #[true, true, true, true, true, true, true, true, true, true, true, true, false, false, false, false] rfl rfl (any_of HT_.out (by kernel_rfl)) (fun _ _ _ h => h) (Or.inl ⟨by rfl, ?_⟩) ?_ ?_
    rotate_left
    · intro w'
      have hcut := cut_h w' Ab b.length cb k hkc
      go_simp
      with_reducible rfl
    rotate_left
    · simp only [Act.put, List.setIfInBounds_toArray, List.set_cons_zero, List.set_cons_succ, i64_w, i32_w]
      rfl
    refine last_ (i := 12) (N := some 37) #[true, true, true, true, true, true, true, true, true, true, true, true, true, false, false, false] rfl rfl (one_of HT_.out (by kernel_rfl)) (by decide) (fun K hK => ?_)
    refine app_step rfl (.tmp 29) (.tmp 36) rfl (fun k => φ k = .file nm) (.slice A f.b.length c) f.b (b.take k) Ab cb (by first | rfl | (go_simp; done) | (go_simp; rfl)) (by first | rfl | (go_simp; done) | (go_simp; rfl)) (F3.out.move (fun k hk => hHeld.block k (HD.out.dom k (by rw [hk]; intro e; cases e)).2)) (Kd.C_take (Kd.C_below HC.out hHeld) hkb) (by rw [hkt]; have := HLF.out; omega) ?_
    intro A1 c1 w8 hR hgr
    have HA := Aside0.mk (app_done hHeld F1.out F2.out F3.out hR hgr)
    obtain ⟨n1, hn1⟩ : ∃ n1, (f.b ++ (b.take k)).length = n1 := ⟨_, rfl⟩
    have HN1 := Aside0.mk hn1
    rw [hn1] at HA ⊢
    refine hK.out _ _ ?_
    clear hK K hR hgr hn1
    refine norm_ (a' := ?_) ?_ ?_
    rotate_left
    · show Act.put _ (some 37) _ = _
      simp only [Act.put, List.setIfInBounds_toArray, List.set_cons_zero, List.set_cons_succ, i64_w, i32_w]
      rfl
    refine pure_ (i := 13) (N := some 38) (v := ?_) (a' := ?_) #[true, true, true, true, true, true, true, true, true, true, true, true, true, true, false, false] rfl rfl (any_of HT_.out (by kernel_rfl)) (fun _ _ _ h => h) (Or.inl ⟨by rfl, ?_⟩) ?_ ?_
    rotate_left
    · intro w'
      go_simp
      with_reducible rfl
    rotate_left
    · simp only [Act.put, List.setIfInBounds_toArray, List.set_cons_zero, List.set_cons_succ, i64_w, i32_w]
      rfl
    refine pure_ (i := 14) (N := some 39) (v := ?_) (a' := ?_) #[true, true, true, true, true, true, true, true, true, true, true, true, true, true, true, false] rfl rfl (any_of HT_.out (by kernel_rfl)) (fun _ _ _ h => h) (Or.inl ⟨by rfl, ?_⟩) ?_ ?_
    rotate_left
    · intro w'
      go_simp
      with_reducible rfl
    rotate_left
    · simp only [Act.put, List.setIfInBounds_toArray, List.set_cons_zero, List.set_cons_succ, i64_w, i32_w]
      rfl
    refine last_ (i := 15) (N := none) #[true, true, true, true, true, true, true, true, true, true, true, true, true, true, true, true] rfl rfl (one_of HT_.out (by kernel_rfl)) (by decide) (fun K hK => ?_)
    have hc8 : w8.cell? ⟨V nm, 0, none⟩ = some (.slice A f.b.length c) := (blk_cell HA.out.1 0).trans rfl
    have hz8 := blk_frozen HA.out.1 0
    refine skip_ (w1 := ?_) (by rfl) rfl ?_ ?_
    rotate_left
    · go_simp
      rfl
    refine hK.out _ _ ?_
    clear hK K hc8 hz8
    refine done_ (done_of HT_.out (by kernel_rfl)) ?_
    go_wp2
    go_ret
    refine ⟨rfl, A1, c1, ?_⟩
    rw [HN1.out]
    exact HA.out.2
  | false =>
    have h26 := (HX.out.cell (World.block_lt_of_cell? w _ h2)).trans h2
    by_cases hfl : lf < (b.length : Int)
    · have d0 : decide ((b.length : Int) > lf) = true := decide_eq_true hfl
      have d1 : decide (lf < (b.length : Int)) = true := decide_eq_true hfl
      obtain rfl : r = (0, 13) := by rw [← HR.out]; unfold appX; rw [HLE.out, if_neg (by decide), if_pos hfl]
      clear hfl HR
      go_wp2
      go_ret
      refine ⟨rfl, A, c, ?_⟩
      rw [List.take_zero, List.append_nil]
      exact ⟨blk_below F1.out HX.out, (F3.out.move (fun k hk => HX.out.block k (HD.out.dom k (by rw [hk]; intro e; cases e)).2)).mono (fun k hk => .inl hk), Chg.of_below _ HX.out⟩
    · have d0 : decide ((b.length : Int) > lf) = false := decide_eq_false hfl
      have d1 : decide (lf < (b.length : Int)) = false := decide_eq_false hfl
      obtain rfl : r = (b.length, 0) := by rw [← HR.out]; unfold appX; rw [HLE.out, if_neg (by decide), if_neg hfl]
      clear hfl HR
      go_upto_region 7 with (fail)
      refine start_ (n := 10) (S := fun w' => Below w.heap.size w w') (ds := [6, 9]) #[false, false, false, false, false, false, false, false, false, false] (by kernel_rfl) rfl rfl (below_step HX.out (below_drew (Below.refl _ _))) (fun hHeld => ?_)
      refine with_tabW r56_7.tab r56_7.bits (fun HT_ HW_ => ?_)
      generalize w6.drew = wd at hHeld ⊢
      refine pure_ (i := 0) (N := some 45) (v := ?_) (a' := ?_) #[true, false, false, false, false, false, false, false, false, false] rfl rfl (any_of HT_.out (by kernel_rfl)) (fun _ _ _ h => h) (Or.inl ⟨by rfl, ?_⟩) ?_ ?_
      rotate_left
      · intro w'
        go_simp
        with_reducible rfl
      rotate_left
      · simp only [Act.put, List.setIfInBounds_toArray, List.set_cons_zero, List.set_cons_succ, i64_w, i32_w]
        rfl
      refine pure_ (i := 1) (N := some 46) (v := ?_) (a' := ?_) #[true, true, false, false, false, false, false, false, false, false] rfl rfl (any_of HT_.out (by kernel_rfl)) (fun _ _ _ h => h) (Or.inl ⟨by rfl, ?_⟩) ?_ ?_
      rotate_left
      · intro w'
        go_simp
        with_reducible rfl
      rotate_left
      · simp only [Act.put, List.setIfInBounds_toArray, List.set_cons_zero, List.set_cons_succ, i64_w, i32_w]
        rfl
      refine pure_ (i := 2) (N := some 47) (v := ?_) (a' := ?_) #[true, true, true, false, false, false, false, false, false, false] rfl rfl (any_of HT_.out (by kernel_rfl)) (fun _ _ _ h => h) (Or.inl ⟨by rfl, ?_⟩) ?_ ?_
      rotate_left
      · intro w'
        go_simp
        with_reducible rfl
      rotate_left
      · simp only [Act.put, List.setIfInBounds_toArray, List.set_cons_zero, List.set_cons_succ, i64_w, i32_w]
        rfl
      refine pure_ (i := 3) (N := some 48) (v := ?_) (a' := ?_) #[true, true, true, true, false, false, false, false, false, false] rfl rfl (any_of HT_.out (by kernel_rfl)) (fun _ _ _ h => h) (Or.inl ⟨by rfl, ?_⟩) ?_ ?_
      rotate_left
      · intro w'
        go_simp
        with_reducible rfl
      rotate_left
      · simp only [Act.put, List.setIfInBounds_toArray, List.set_cons_zero, List.set_cons_succ, i64_w, i32_w]
        rfl
      refine take_ (i := 4) (N := some 49) (v := ?_) (a' := ?_) #[true, true, true, true, true, false, false, false, false, false] rfl rfl (take_ofW HT_.out HW_.out (by kernel_rfl)) (fun _ _ _ h => h) (Or.inl ⟨by rfl, ?_⟩) hHeld ?_ ?_
      rotate_left
      · rintro w' hbq
        have c_kf := (hbq.cell (World.block_lt_of_cell? w _ kf)).trans kf
        go_simp
        with_reducible rfl
      rotate_left
      · simp only [Act.put, List.setIfInBounds_toArray, List.set_cons_zero, List.set_cons_succ, i64_w, i32_w]
        rfl
      refine take_ (i := 5) (N := some 50) (v := ?_) (a' := ?_) #[true, true, true, true, true, true, false, false, false, false] rfl rfl (take_ofW HT_.out HW_.out (by kernel_rfl)) (fun _ _ _ h => h) (Or.inl ⟨by rfl, ?_⟩) hHeld ?_ ?_
      rotate_left
      · rintro w' hbq
        have c_h2 := (hbq.cell (World.block_lt_of_cell? w _ h2)).trans h2
        go_simp
        with_reducible rfl
      rotate_left
      · simp only [Act.put, List.setIfInBounds_toArray, List.set_cons_zero, List.set_cons_succ, i64_w, i32_w]
        rfl
      refine last_ (i := 6) (N := some 51) #[true, true, true, true, true, true, true, false, false, false] rfl rfl (one_of HT_.out (by kernel_rfl)) (by decide) (fun K hK => ?_)
      refine app_step rfl (.tmp 49) (.tmp 50) rfl (fun k => φ k = .file nm) (.slice A f.b.length c) f.b b Ab cb (by first | rfl | (go_simp; done) | (go_simp; rfl)) (by first | rfl | (go_simp; done) | (go_simp; rfl)) (F3.out.move (fun k hk => hHeld.block k (HD.out.dom k (by rw [hk]; intro e; cases e)).2)) (Kd.C_below HC.out hHeld) (by have := HLF.out; omega) ?_
      intro A1 c1 w8 hR hgr
      have HA := Aside0.mk (app_done hHeld F1.out F2.out F3.out hR hgr)
      obtain ⟨n1, hn1⟩ : ∃ n1, (f.b ++ b).length = n1 := ⟨_, rfl⟩
      have HN1 := Aside0.mk hn1
      rw [hn1] at HA ⊢
      refine hK.out _ _ ?_
      clear hK K hR hgr hn1
      refine norm_ (a' := ?_) ?_ ?_
      rotate_left
      · show Act.put _ (some 51) _ = _
        simp only [Act.put, List.setIfInBounds_toArray, List.set_cons_zero, List.set_cons_succ, i64_w, i32_w]
        rfl
      refine pure_ (i := 7) (N := some 52) (v := ?_) (a' := ?_) #[true, true, true, true, true, true, true, true, false, false] rfl rfl (any_of HT_.out (by kernel_rfl)) (fun _ _ _ h => h) (Or.inl ⟨by rfl, ?_⟩) ?_ ?_
      rotate_left
      · intro w'
        go_simp
        with_reducible rfl
      rotate_left
      · simp only [Act.put, List.setIfInBounds_toArray, List.set_cons_zero, List.set_cons_succ, i64_w, i32_w]
        rfl
      refine pure_ (i := 8) (N := some 53) (v := ?_) (a' := ?_) #[true, true, true, true, true, true, true, true, true, false] rfl rfl (any_of HT_.out (by kernel_rfl)) (fun _ _ _ h => h) (Or.inl ⟨by rfl, ?_⟩) ?_ ?_
      rotate_left
      · intro w'
        go_simp
        with_reducible rfl
      rotate_left
      · simp only [Act.put, List.setIfInBounds_toArray, List.set_cons_zero, List.set_cons_succ, i64_w, i32_w]
        rfl
      refine last_ (i := 9) (N := none) #[true, true, true, true, true, true, true, true, true, true] rfl rfl (one_of HT_.out (by kernel_rfl)) (by decide) (fun K hK => ?_)
      have hc8 : w8.cell? ⟨V nm, 0, none⟩ = some (.slice A f.b.length c) := (blk_cell HA.out.1 0).trans rfl
      have hz8 := blk_frozen HA.out.1 0
      refine skip_ (w1 := ?_) (by rfl) rfl ?_ ?_
      rotate_left
      · go_simp
        rfl
      refine hK.out _ _ ?_
      clear hK K hc8 hz8
      refine done_ (done_of HT_.out (by kernel_rfl)) ?_
      go_wp2
      go_ret
      refine ⟨rfl, A1, c1, ?_⟩
      rw [List.take_length, HN1.out]
      exact HA.out.2
/-- What Append makes of a disk. -/
def appendP (S : DA) (nm : Nm) (b : List Int) : DA × Int := if vN nm = false then (cnt S, 2) else match get S.files nm with
  | none => (cnt S, 10)
  | some f => ({ cnt S with files := put nm ⟨f.b ++ b.take (appX S b (partOf (refusedP S.fails S.parts (S.calls + 1))) (isRef S)).1, f.safe⟩ S.files }, (appX S b (partOf (refusedP S.fails S.parts (S.calls + 1))) (isRef S)).2)
theorem part_nonneg (fails parts : List Int) (c : Int) : 0 ≤ partOf (refusedP fails parts c) := by
  unfold refusedP partOf
  split
  · exact Int.le_refl _
  · split
    · exact Int.le_refl _
    · exact Int.le_max_right _ _
theorem append_core (gd B gm n : Nat) (φ : Nat → Tg) (S : DA) (V : Nm → Nat) (Af : Option Addr) (cf : Nat) (Ap : Option Addr) (cp : Nat) (nm : Nm) (b : List Int) (Ab : Option Addr) (cb bd bn bb g d e : Nat) (w : World) (h : DIn w φ B gd S gm n V Af cf Ap cp) (hn : (n : Int) ≤ S.calls) (hS : Small S) (hF : Fits S) (hnm : nm.length ≤ 1000) (hbl : b.length ≤ 1000000) (hcb : b.length ≤ cb) (hb0 : Stays w φ (fun W => Kd.C (Kd.int .u8) W Ab b.length b))
    (k_bd : w.cell? ⟨bd, 0, none⟩ = some (.pointer (some ⟨gd, 0, none⟩))) (k_bn : w.cell? ⟨bn, 0, none⟩ = some (.string (str nm))) (k_bb : w.cell? ⟨bb, 0, none⟩ = some (.slice Ab b.length cb)) (k_d : w.cell? ⟨d, 0, none⟩ = some (.pointer (some ⟨gd, 0, none⟩))) (k_e : w.cell? ⟨e, 0, none⟩ = some (.string (str nm))) (kg : w.heap[g]? = some (.cells #[.string (str nm)] 9 (0, 0))) :
    Calls Try.prog 49 #[.pointer (some ⟨gd, 0, none⟩), .slice (some ⟨g, 0, none⟩) 1 1, .func (.func 65) #[] #[.pointer (some ⟨d, 0, none⟩), .pointer (some ⟨e, 0, none⟩)], .func (.func 56) #[] #[.pointer (some ⟨bd, 0, none⟩), .pointer (some ⟨bn, 0, none⟩), .pointer (some ⟨bb, 0, none⟩)]] w (CallPost (Comes w φ B gd (appendP S nm b))) := by
  have hsz : (str nm).size ≤ maxLen := by rw [str_size]; unfold maxLen; omega
  have h1 := h.count (S.calls + 1)
  have st1 := h.count_step (S.calls + 1)
  have n_bd : bd ≠ gd := cell_ne k_bd h.blk (by intro e; cases e)
  have n_bn : bn ≠ gd := cell_ne k_bn h.blk (by intro e; cases e)
  have n_bb : bb ≠ gd := cell_ne k_bb h.blk (by intro e; cases e)
  have n_d : d ≠ gd := cell_ne k_d h.blk (by intro e; cases e)
  have n_e : e ≠ gd := cell_ne k_e h.blk (by intro e; cases e)
  have q_bd : (w.setCell ⟨gd, 5, none⟩ (.int .i64 (S.calls + 1))).cell? ⟨bd, 0, none⟩ = _ := cell_set k_bd n_bd
  have q_bn : (w.setCell ⟨gd, 5, none⟩ (.int .i64 (S.calls + 1))).cell? ⟨bn, 0, none⟩ = _ := cell_set k_bn n_bn
  have q_bb : (w.setCell ⟨gd, 5, none⟩ (.int .i64 (S.calls + 1))).cell? ⟨bb, 0, none⟩ = _ := cell_set k_bb n_bb
  have q_d : (w.setCell ⟨gd, 5, none⟩ (.int .i64 (S.calls + 1))).cell? ⟨d, 0, none⟩ = _ := cell_set k_d n_d
  have q_e : (w.setCell ⟨gd, 5, none⟩ (.int .i64 (S.calls + 1))).cell? ⟨e, 0, none⟩ = _ := cell_set k_e n_e
  have q4 : (w.setCell ⟨gd, 5, none⟩ (.int .i64 (S.calls + 1))).cell? ⟨gd, 4, none⟩ = some (.map (some gm)) := (blk_cell h1.blk 4).trans rfl
  have hall : [str nm].all valid = vN nm := by simp [valid_str]
  have hrow : ∀ i, i < [str nm].length → w.cell? ((⟨g, 0, none⟩ : Addr).add i) = some (.string ([str nm].getD i ByteArray.empty)) := by
    intro i hi
    obtain rfl : i = 0 := by simpa using hi
    exact (blk_cell kg 0).trans rfl
  have hng : (⟨g, 0, none⟩ : Addr).block ≠ gd := fun e => blk_ne kg h.blk (by decide) e
  have hfin : Finds (w.setCell ⟨gd, 5, none⟩ (.int .i64 (S.calls + 1))) gm (str nm) (.pointer ((get S.files nm).map (fun _ => ⟨V nm, 0, none⟩))) := h1.finds nm hsz
  have hbad : [str nm].all valid = false → Comes w φ B gd (appendP S nm b) 2 (w.setCell ⟨gd, 5, none⟩ (.int .i64 (S.calls + 1))) := by
    intro hv
    rw [hall] at hv
    unfold appendP; rw [if_pos hv]
    exact ⟨rfl, φ, ⟨gm, n, V, Af, cf, Ap, cp, h1, by show (n : Int) ≤ S.calls + 1; omega⟩, st1⟩
  have hgood : [str nm].all valid = true → ¬ (vN nm = false) := by
    intro hv
    rw [hall] at hv
    rw [hv]; decide
  cases hg : get S.files nm with
  | none =>
    rw [hg] at hfin
    refine call_65_56 gd d e bd bn bb S.room S.calls S.fails S.parts Af cf Ap cp (.map (some gm)) _ ⟨g, 0, none⟩ 1 [str nm] 10 _ w h.blk h.fls h.pts hS.fl hS.pl hS.c0 (Int.le_of_lt hS.c1) hrow (by simp) hng (there1_at d e gd gm (str nm) _ _ q_d q_e q4 hfin) hbad ?_ (fun _ he => absurd he (by decide))
    intro hv he m
    have hC : appendP S nm b = (cnt S, 10) := by unfold appendP; rw [if_neg (hgood hv), hg]
    rw [hC]
    exact ⟨rfl, φ, ⟨gm, n, V, Af, cf, Ap, cp, h1.drewN m, by show (n : Int) ≤ S.calls + 1; omega⟩, st1.drewN m⟩
  | some f =>
    rw [hg] at hfin
    refine call_65_56 gd d e bd bn bb S.room S.calls S.fails S.parts Af cf Ap cp (.map (some gm)) _ ⟨g, 0, none⟩ 1 [str nm] 0 _ w h.blk h.fls h.pts hS.fl hS.pl hS.c0 (Int.le_of_lt hS.c1) hrow (by simp) hng (there1_at d e gd gm (str nm) _ _ q_d q_e q4 hfin) hbad (fun _ he => absurd rfl he) ?_
    intro hv _ m
    obtain ⟨r, hr⟩ : ∃ r, appX S b (partOf (refusedP S.fails S.parts (S.calls + 1))) (isRef S) = r := ⟨_, rfl⟩
    have hC : appendP S nm b = ({ cnt S with files := put nm ⟨f.b ++ b.take r.1, f.safe⟩ S.files }, r.2) := by unfold appendP; rw [if_neg (hgood hv), hg, ← hr]
    rw [hC]
    have h2 := h1.drewN m
    have hB1 : Kd.C (Kd.int .u8) ((w.setCell ⟨gd, 5, none⟩ (.int .i64 (S.calls + 1))).drewN m) Ab b.length b := hb0 _ (by rw [show ((w.setCell ⟨gd, 5, none⟩ (.int .i64 (S.calls + 1))).drewN m).heap.size = (w.setCell ⟨gd, 5, none⟩ (.int .i64 (S.calls + 1))).heap.size from rfl, World.size_setCell]; exact Nat.le_refl _) (fun k hk hno => Below.heap_setCell w ⟨gd, 5, none⟩ _ k (fun e => by rw [show k = gd from e, h.tgd] at hno; cases hno))
    refine (append1_at bd bn bb gd B gm n φ (cnt S) V Af cf Ap cp nm f b Ab cb (partOf (refusedP S.fails S.parts (S.calls + 1))) (refusedP S.fails S.parts (S.calls + 1)).isSome ((w.setCell ⟨gd, 5, none⟩ (.int .i64 (S.calls + 1))).drewN m) h2 (by show (n : Int) ≤ S.calls + 1; omega) hg (hS.len _ (get_mem hg)) ⟨hF.room, hF.fit, hF.few⟩ hnm q_bd q_bn q_bb hB1 hcb hbl (part_nonneg _ _ _)).mono ?_
    rintro e w' ⟨rfl, A', c', b1, b2, b3⟩
    have hr2 : appX (cnt S) b (partOf (refusedP S.fails S.parts (S.calls + 1))) (refusedP S.fails S.parts (S.calls + 1)).isSome = r := hr
    rw [hr2] at b1 b2 ⊢
    refine ⟨r.2, rfl, rfl, ?_⟩
    obtain ⟨N, hN⟩ : ∃ N, ((w.setCell ⟨gd, 5, none⟩ (.int .i64 (S.calls + 1))).drewN m).heap.size = N := ⟨_, rfl⟩
    have hF1 : FileAt w' (fun k => if N ≤ k ∧ k < w'.heap.size then .file nm else φ k) nm ⟨f.b ++ b.take r.1, f.safe⟩ (V nm) := by
      obtain ⟨A0, c0, f1, f2, f3⟩ := h2.file (nm, f) (get_mem hg)
      have hlt := blk_lt f1
      refine ⟨A', c', b1, ?_, b2.bound.mono (fun k hk => ?_)⟩
      · show (if _ then _ else _) = _
        exact (if_neg (fun hq => absurd hq.1 (by rw [← hN]; exact Nat.not_le.2 hlt))).trans f2
      · show (if _ then _ else _) = _
        by_cases hlt2 : N ≤ k ∧ k < w'.heap.size
        · rw [if_pos hlt2]
        · rw [if_neg hlt2]
          exact hk.1.elim (fun h => h) (fun h => absurd ⟨by rw [← hN]; exact h, hk.2.1⟩ hlt2)
    obtain ⟨d1, d2⟩ := h2.content (φ' := fun k => if N ≤ k ∧ k < w'.heap.size then .file nm else φ k) hg b3 (fun k hk => if_neg (fun hq => absurd hq.1 (by rw [← hN]; exact Nat.not_le.2 hk))) (fun k hk hne => by
      by_cases hlt : N ≤ k ∧ k < w'.heap.size
      · exact hlt.2
      · rw [if_neg hlt] at hne
        have := (h2.dom k hne).2
        omega) hF1
    exact ⟨_, ⟨gm, n, V, Af, cf, Ap, cp, d1, by show (n : Int) ≤ S.calls + 1; omega⟩, (st1.drewN m).trans d2⟩
def r31_1.T : Bool × List (List Nat × List Nat) := (true, [([], []), ([], []), ([1], [1]), ([], []), ([], []), ([3, 4], [3, 4]), ([], []), ([0, 2, 5, 6, 5], [0, 2, 5, 6]), ([7, 7, 0, 1, 2, 3, 4, 5, 6, 7], [7])])
def r31_1.B : List Nat := [0, 0, 2, 0, 0, 24, 0, 127, 255]
theorem r31_1.tab : rtab .any (opsOf Try.f31 1) = r31_1.T := by kernel_rfl
theorem r31_1.bits : waitsOk r31_1.T.2 r31_1.B = true := by kernel_rfl
set_option maxHeartbeats 8000000 in
set_option maxRecDepth 100000 in
theorem append_at (gd B : Nat) (φ : Nat → Tg) (S : DA) (nm : Nm) (b : List Int) (Ab : Option Addr) (cb : Nat) (w : World) (h : DAt w φ B gd S) (hS : Small S) (hF : Fits S) (hnm : nm.length ≤ 1000) (hbl : b.length ≤ 1000000) (hcb : b.length ≤ cb) (hb0 : Stays w φ (fun W => Kd.C (Kd.int .u8) W Ab b.length b)) :
    Calls Try.prog 31 #[.pointer (some ⟨gd, 0, none⟩), .string (str nm), .slice Ab b.length cb] w (CallPost (Comes w φ B gd (appendP S nm b))) := by
  obtain ⟨gm, n, V, Af, cf, Ap, cp, hd, hn⟩ := h
  have HD := Aside0.mk hd
  have HN := Aside0.mk hn
  have HS := Aside0.mk hS
  have HF := Aside0.mk hF
  have HLnm := Aside0.mk hnm
  have HC := Aside0.mk hb0
  have HCB := Aside0.mk hcb
  have HBL := Aside0.mk hbl
  have HB := Aside0.mk (Below.refl w.heap.size w)
  clear hd hn hS hF hnm hb0 hcb hbl
  go_enter Try.func31, Try.ntmps31
  go_upto_region 1 with (first | ((with_reducible refine gate_dst (N := 3) rfl ?_); refine box_event ?hg (N := 3) ?hd (cs := #[.pointer (some ⟨gd, 0, none⟩)]) (t := 28) ?hr ?_; (case hd => rfl); (case hg => rfl); (case hr => first | (go_simp; done) | (go_simp; rfl)); intro bd hg w3 hbox hb; have n_K0 := Aside0.mk hbox; have n_HB := Aside0.mk (below_step HB.out hb); clear  HB hbox hb hg; have K0 := n_K0; have HB := n_HB; clear n_K0 n_HB) | ((with_reducible refine gate_dst (N := 4) rfl ?_); refine box_event ?hg (N := 4) ?hd (cs := #[.string (str nm)]) (t := 9) ?hr ?_; (case hd => rfl); (case hg => rfl); (case hr => first | (go_simp; done) | (go_simp; rfl)); intro bn hg w3 hbox hb; have n_K1 := Aside0.mk hbox; have n_K0 := Aside0.mk (blk_below K0.out hb); have n_HB := Aside0.mk (below_step HB.out hb); clear K0 HB hbox hb hg; have K0 := n_K0; have K1 := n_K1; have HB := n_HB; clear n_K0 n_K1 n_HB) | ((with_reducible refine gate_dst (N := 5) rfl ?_); refine box_event ?hg (N := 5) ?hd (cs := #[.slice Ab b.length cb]) (t := 30) ?hr ?_; (case hd => rfl); (case hg => rfl); (case hr => first | (go_simp; done) | (go_simp; rfl)); intro bb hg w3 hbox hb; have n_K2 := Aside0.mk hbox; have n_K0 := Aside0.mk (blk_below K0.out hb); have n_K1 := Aside0.mk (blk_below K1.out hb); have n_HB := Aside0.mk (below_step HB.out hb); clear K0 K1 HB hbox hb hg; have K0 := n_K0; have K1 := n_K1; have K2 := n_K2; have HB := n_HB; clear n_K0 n_K1 n_K2 n_HB))
  rename World => wN
  refine start_ (n := 9) (S := fun w' => Below wN.heap.size wN w') (ds := [7]) #[false, false, false, false, false, false, false, false, false] (by kernel_rfl) rfl rfl (below_drew (Below.refl _ _)) (fun hHeld => ?_)
  refine with_tabW r31_1.tab r31_1.bits (fun HT_ HW_ => ?_)
  generalize wN.drew = wd at hHeld ⊢
  refine take_ (i := 0) (N := some 7) (v := ?_) (a' := ?_) #[true, false, false, false, false, false, false, false, false] rfl rfl (take_ofW HT_.out HW_.out (by kernel_rfl)) (fun _ _ _ h => h) (Or.inl ⟨by rfl, ?_⟩) hHeld ?_ ?_
  rotate_left
  · rintro w' hbq
    have c_K0 := blk_c' (blk_below K0.out hbq) 0 rfl
    go_simp
    with_reducible rfl
  rotate_left
  · simp only [Act.put, List.setIfInBounds_toArray, List.set_cons_zero, List.set_cons_succ, i64_w, i32_w]
    rfl
  refine take_ (i := 1) (N := some 8) (v := ?_) (a' := ?_) #[true, true, false, false, false, false, false, false, false] rfl rfl (take_ofW HT_.out HW_.out (by kernel_rfl)) (fun _ _ _ h => h) (Or.inl ⟨by rfl, ?_⟩) hHeld ?_ ?_
  rotate_left
  · rintro w' hbq
    have c_K1 := blk_c' (blk_below K1.out hbq) 0 rfl
    go_simp
    with_reducible rfl
  rotate_left
  · simp only [Act.put, List.setIfInBounds_toArray, List.set_cons_zero, List.set_cons_succ, i64_w, i32_w]
    rfl
  refine take_ (i := 3) (N := some 10) (v := ?_) (a' := ?_) #[true, true, false, true, false, false, false, false, false] rfl rfl (take_ofW HT_.out HW_.out (by kernel_rfl)) (fun _ _ _ h => h) (Or.inl ⟨by rfl, ?_⟩) hHeld ?_ ?_
  rotate_left
  · rintro w' hbq
    have c_K0 := blk_c' (blk_below K0.out hbq) 0 rfl
    go_simp
    with_reducible rfl
  rotate_left
  · simp only [Act.put, List.setIfInBounds_toArray, List.set_cons_zero, List.set_cons_succ, i64_w, i32_w]
    rfl
  refine take_ (i := 4) (N := some 11) (v := ?_) (a' := ?_) #[true, true, false, true, true, false, false, false, false] rfl rfl (take_ofW HT_.out HW_.out (by kernel_rfl)) (fun _ _ _ h => h) (Or.inl ⟨by rfl, ?_⟩) hHeld ?_ ?_
  rotate_left
  · rintro w' hbq
    have c_K1 := blk_c' (blk_below K1.out hbq) 0 rfl
    go_simp
    with_reducible rfl
  rotate_left
  · simp only [Act.put, List.setIfInBounds_toArray, List.set_cons_zero, List.set_cons_succ, i64_w, i32_w]
    rfl
  refine pure_ (i := 6) (N := some 13) (v := ?_) (a' := ?_) #[true, true, false, true, true, false, true, false, false] rfl rfl (any_of HT_.out (by kernel_rfl)) (fun _ _ _ h => h) (Or.inl ⟨by rfl, ?_⟩) ?_ ?_
  rotate_left
  · intro w'
    go_simp
    with_reducible rfl
  rotate_left
  · simp only [Act.put, List.setIfInBounds_toArray, List.set_cons_zero, List.set_cons_succ, i64_w, i32_w]
    rfl
  refine join2 2 #[true, true, true, true, true, true, true, false, false] (fun g _ d e => [(9, .slice (some ⟨g, 0, none⟩) 1 1), (12, .func (.func 65) #[] #[.pointer (some ⟨d, 0, none⟩), .pointer (some ⟨e, 0, none⟩)])]) (fun g _ d e wx => Aside0 (Below wN.heap.size wN wx) ∧ Aside0 (wx.heap[g]? = some (.cells #[.string (str nm)] 9 (0, 0))) ∧ Aside0 (wx.cell? ⟨d, 0, none⟩ = some (.pointer (some ⟨gd, 0, none⟩))) ∧ Aside0 (wx.cell? ⟨e, 0, none⟩ = some (.string (str nm)))) ?_ (fun JJ => ?_)
  rotate_left
  · have HX := Aside0.mk hHeld
    refine two_ (i := 2) (j := 5) (Ni := some 9) (Nj := some 12) #[true, true, true, true, true, false, true, false, false] #[true, true, false, true, true, true, true, false, false] rfl rfl rfl rfl (two_of HT_.out (by kernel_rfl)) (by decide) (by decide) (fun K hK => ?_) (fun K hK => ?_)
    · refine lit_step (cs := #[.string (str nm)]) (t := 9) (k := 1) (by rfl) (by first | (go_simp; done) | (go_simp; rfl)) ?_
      intro g hg w5 hbox hb
      have KG := Aside0.mk hbox
      clear hbox hg
      replace HX := Aside0.mk (below_step HX.out hb)
      refine hK.out _ _ HX.out (fun hHeld => ?_)
      clear hK K hb
      refine norm_ (a' := ?_) ?_ ?_
      rotate_left
      · show Act.put _ (some 9) _ = _
        simp only [Act.put, List.setIfInBounds_toArray, List.set_cons_zero, List.set_cons_succ, i64_w, i32_w]
        rfl
      refine one_ (i := 5) (N := some 12) #[true, true, true, true, true, true, true, false, false] rfl rfl (one_of HT_.out (by kernel_rfl)) (by decide) (fun K hK => ?_)
      · refine goes_ Try.func50 (by kernel_rfl) rfl #[.pointer (some ⟨gd, 0, none⟩), .string (str nm)] (by rfl) rfl rfl (by first | done | rfl | (simp only [List.map_toArray, List.map_cons, List.map_nil]; rfl)) ?_
        refine (there_at gd (str nm) _).mono ?_
        rintro e0 w6 ⟨d, e, rfl, h0, h1, hb⟩
        refine ⟨_, rfl, ?_⟩
        have KD := Aside0.mk h0
        have KE := Aside0.mk h1
        clear h0 h1
        replace KG := Aside0.mk (blk_below KG.out hb)
        replace HX := Aside0.mk (below_step HX.out hb)
        refine hK.out _ _ HX.out (fun hHeld => ?_)
        clear hK K hb
        refine norm_ ?_ (JJ.out g 0 d e _ ⟨HX, KG, KD, KE⟩)
        show Act.put _ (some 12) _ = _
        simp only [putAll, Act.put, List.setIfInBounds_toArray, List.set_cons_zero, List.set_cons_succ]
    · refine goes_ Try.func50 (by kernel_rfl) rfl #[.pointer (some ⟨gd, 0, none⟩), .string (str nm)] (by rfl) rfl rfl (by first | done | rfl | (simp only [List.map_toArray, List.map_cons, List.map_nil]; rfl)) ?_
      refine (there_at gd (str nm) _).mono ?_
      rintro e0 w6 ⟨d, e, rfl, h0, h1, hb⟩
      refine ⟨_, rfl, ?_⟩
      have KD := Aside0.mk h0
      have KE := Aside0.mk h1
      clear h0 h1
      replace HX := Aside0.mk (below_step HX.out hb)
      refine hK.out _ _ HX.out (fun hHeld => ?_)
      clear hK K hb
      refine norm_ (a' := ?_) ?_ ?_
      rotate_left
      · show Act.put _ (some 12) _ = _
        simp only [Act.put, List.setIfInBounds_toArray, List.set_cons_zero, List.set_cons_succ, i64_w, i32_w]
        rfl
      refine one_ (i := 2) (N := some 9) #[true, true, true, true, true, true, true, false, false] rfl rfl (one_of HT_.out (by kernel_rfl)) (by decide) (fun K hK => ?_)
      · refine lit_step (cs := #[.string (str nm)]) (t := 9) (k := 1) (by rfl) (by first | (go_simp; done) | (go_simp; rfl)) ?_
        intro g hg w5 hbox hb
        have KG := Aside0.mk hbox
        clear hbox hg
        replace KD := Aside0.mk ((hb.cell (World.block_lt_of_cell? _ _ KD.out)).trans KD.out)
        replace KE := Aside0.mk ((hb.cell (World.block_lt_of_cell? _ _ KE.out)).trans KE.out)
        replace HX := Aside0.mk (below_step HX.out hb)
        refine hK.out _ _ HX.out (fun hHeld => ?_)
        clear hK K hb
        refine norm_ ?_ (JJ.out g 0 d e _ ⟨HX, KG, KD, KE⟩)
        show Act.put _ (some 9) _ = _
        simp only [putAll, Act.put, List.setIfInBounds_toArray, List.set_cons_zero, List.set_cons_succ]
  rintro g _ d e wx ⟨HX, KG, KD, KE⟩
  refine norm_ (a' := ?_) ?_ ?_
  rotate_left
  · simp only [putAll, Act.put, List.setIfInBounds_toArray, List.set_cons_zero, List.set_cons_succ]
    rfl
  refine last_ (i := 7) (N := some 14) #[true, true, true, true, true, true, true, true, false] rfl rfl (one_of HT_.out (by kernel_rfl)) (by decide) (fun K hK => ?_)
  refine goes_ Try.func49 (by kernel_rfl) rfl #[.pointer (some ⟨gd, 0, none⟩), .slice (some ⟨g, 0, none⟩) 1 1, .func (.func 65) #[] #[.pointer (some ⟨d, 0, none⟩), .pointer (some ⟨e, 0, none⟩)], .func (.func 56) #[] #[.pointer (some ⟨bd, 0, none⟩), .pointer (some ⟨bn, 0, none⟩), .pointer (some ⟨bb, 0, none⟩)]] (by rfl) rfl rfl (by first | done | rfl | (simp only [List.map_toArray, List.map_cons, List.map_nil]; rfl)) ?_
  refine (append_core gd B gm n φ S V Af cf Ap cp nm b Ab cb bd bn bb g d e wx (HD.out.below (below_step HB.out HX.out)) HN.out HS.out HF.out HLnm.out HBL.out HCB.out (HC.out.below (below_step HB.out HX.out)) (blk_c' (blk_below K0.out HX.out) 0 rfl) (blk_c' (blk_below K1.out HX.out) 0 rfl) (blk_c' (blk_below K2.out HX.out) 0 rfl) KD.out KE.out KG.out).mono ?_
  rintro e0 w7 ⟨x, rfl, hx, φ', d1, d2⟩
  refine ⟨_, rfl, ?_⟩
  refine hK.out _ _ ?_
  have HQ : Aside0 (Comes w φ B gd (appendP S nm b) x w7) := ⟨⟨hx, φ', d1, (Step.of_below (below_step HB.out HX.out)).trans d2⟩⟩
  clear hK K hx d1 d2
  refine norm_ (a' := ?_) ?_ ?_
  rotate_left
  · show Act.put _ (some 14) _ = _
    simp only [Act.put, List.setIfInBounds_toArray, List.set_cons_zero, List.set_cons_succ, i64_w, i32_w]
    rfl
  refine pure_ (i := 8) (N := some 6) (v := ?_) (a' := ?_) #[true, true, true, true, true, true, true, true, true] rfl rfl (any_of HT_.out (by kernel_rfl)) (fun _ _ _ h => h) (Or.inl ⟨by rfl, ?_⟩) ?_ ?_
  rotate_left
  · intro w'
    go_simp
    with_reducible rfl
  rotate_left
  · simp only [Act.put, List.setIfInBounds_toArray, List.set_cons_zero, List.set_cons_succ, i64_w, i32_w]
    rfl
  refine done_ (done_of HT_.out (by kernel_rfl)) ?_
  go_wp2
  go_ret
  exact ⟨x, rfl, HQ.out⟩
end Go.Proofs.Yteibdmpjlpcgbaa.XDisk
