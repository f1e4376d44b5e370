/- find of the given program's disk; Size, Calls. -/
import Derived.Test.YteibdmpjlpcgbaaTHApp
namespace Go.Proofs.Yteibdmpjlpcgbaa.XDisk
open Go Go.RowKit Go.Proofs.YteibdmpjlpcgbaaW.PrintWords Go.Proofs.YteibdmpjlpcgbaaW.PrintLast Go.Proofs.YteibdmpjlpcgbaaW.PrintMore
open Go.Proofs.Yteibdmpjlpcgbaa
set_option linter.unusedVariables false
set_option linter.unusedSimpArgs false
/-- What find finds, with which answer. -/
def findP (S : DA) (nm : Nm) : FA × Int := if vN nm = false then (⟨[], 0⟩, 2) else match get S.files nm with
  | none => (⟨[], 0⟩, 10)
  | some f => (f, 0)
def FileIn (w : World) (g : Nat) (f : FA) : Prop := ∃ A c, w.heap[g]? = some (.cells #[.slice A f.b.length c, .int .i64 f.safe] 82 (0, 0)) ∧ Kd.C (Kd.int .u8) w A f.b.length f.b ∧ f.b.length ≤ c
theorem FileIn.nil {w : World} {g : Nat} (h : w.heap[g]? = some (.cells #[.slice none 0 0, .int .i64 0] 82 (0, 0))) : FileIn w g ⟨[], 0⟩ := ⟨none, 0, h, (Kd.R_reads' (Kd.R_nil (Kd.int .u8) 5 w 0 (fun _ => True))).2.2, Nat.le_refl _⟩
theorem FileIn.below {w w' : World} {g : Nat} {f : FA} (h : FileIn w g f) (hb : Below w.heap.size w w') : FileIn w' g f := by
  obtain ⟨A, c, h1, h2, h3⟩ := h
  exact ⟨A, c, blk_below h1 hb, Kd.C_below h2 hb, h3⟩
theorem FileAt.in_ {w : World} {φ : Nat → Tg} {nm : Nm} {f : FA} {g : Nat} (h : FileAt w φ nm f g) : FileIn w g f := by
  obtain ⟨A, c, h1, h2, h3⟩ := h
  exact ⟨A, c, h1, h3.reads.2.2, h3.reads.2.1⟩
set_option maxHeartbeats 8000000 in
set_option maxRecDepth 100000 in
theorem find_at (gd B : Nat) (φ : Nat → Tg) (S : DA) (nm : Nm) (w : World) (h : DAt w φ B gd S) (hnm : nm.length ≤ 1000) :
    Calls Try.prog 45 #[.pointer (some ⟨gd, 0, none⟩), .string (str nm)] w fun e w' => ∃ g, e = .returned (.tuple #[.pointer (some ⟨g, 0, none⟩), .int .i64 (findP S nm).2]) ∧ FileIn w' g (findP S nm).1 ∧ Below w.heap.size w w' := by
  obtain ⟨gm, n, V, Af, cf, Ap, cp, hd, hn⟩ := h
  have HD := Aside0.mk hd
  have k0 : w.cell? ⟨gd, 0, none⟩ = some (.bool true) := (blk_cell hd.blk 0).trans rfl
  have k4 : w.cell? ⟨gd, 4, none⟩ = some (.map (some gm)) := (blk_cell hd.blk 4).trans rfl
  have hf : (Instr.lookup 69 (.map (some gm)) (.string (str nm)) false).run Try.prog w = .ok (.pointer ((get S.files nm).map (fun _ => ⟨V nm, 0, none⟩))) w := hd.finds nm (by rw [str_size]; unfold maxLen; omega) 0
  have hv : valid (str nm) = vN nm := valid_str nm
  obtain ⟨r, hr⟩ : ∃ r, findP S nm = r := ⟨_, rfl⟩
  rw [hr]
  have HR := Aside0.mk hr
  clear hr hd hn
  cases hb : vN nm with
  | false =>
    rw [hb] at hv
    have HV := Aside0.mk hv
    obtain rfl : r = (⟨[], 0⟩, 2) := by rw [← HR.out]; unfold findP; rw [if_pos hb]
    clear HR hb hv hf
    go_enter Try.func45, Try.ntmps45
    go_wp2_with (first | (go_at_call 34; refine (is_made gd true _ k0).mono ?_; rintro e w5 ⟨rfl, rfl⟩) | (go_at_call 63; refine (named_at (str nm) _).mono ?_; rw [HV.out]; rintro e w5 ⟨rfl, rfl⟩))
    go_ret2
    exact ⟨_, rfl, FileIn.nil (blk_new _ _), below_alloc (Below.refl _ _) _⟩
  | true =>
    rw [hb] at hv
    have HV := Aside0.mk hv
    cases hg : get S.files nm with
    | none =>
      obtain rfl : r = (⟨[], 0⟩, 10) := by rw [← HR.out]; unfold findP; rw [if_neg (by rw [hb]; decide), hg]
      rw [hg] at hf
      simp only [Option.map_none] at hf
      clear HR hb hv hg
      go_enter Try.func45, Try.ntmps45
      go_wp2_with (first | (go_at_call 34; refine (is_made gd true _ k0).mono ?_; rintro e w5 ⟨rfl, rfl⟩) | (go_at_call 63; refine (named_at (str nm) _).mono ?_; rw [HV.out]; rintro e w5 ⟨rfl, rfl⟩))
      go_ret2
      exact ⟨_, rfl, FileIn.nil (blk_new _ _), below_alloc (Below.refl _ _) _⟩
    | some f =>
      obtain rfl : r = (f, 0) := by rw [← HR.out]; unfold findP; rw [if_neg (by rw [hb]; decide), hg]
      have HF := Aside0.mk (HD.out.file (nm, f) (get_mem hg)).in_
      rw [hg] at hf
      simp only [Option.map_some] at hf
      clear HR hb hv hg
      go_enter Try.func45, Try.ntmps45
      go_wp2_with (first | (go_at_call 34; refine (is_made gd true _ k0).mono ?_; rintro e w5 ⟨rfl, rfl⟩) | (go_at_call 63; refine (named_at (str nm) _).mono ?_; rw [HV.out]; rintro e w5 ⟨rfl, rfl⟩))
      go_ret2
      exact ⟨_, rfl, HF.out, Below.refl _ _⟩
set_option maxHeartbeats 8000000 in
set_option maxRecDepth 100000 in
theorem size_at (gd B : Nat) (φ : Nat → Tg) (S : DA) (nm : Nm) (w : World) (h : DAt w φ B gd S) (hnm : nm.length ≤ 1000) :
    Calls Try.prog 25 #[.pointer (some ⟨gd, 0, none⟩), .string (str nm)] w fun e w' => e = .returned (.tuple #[.int .i64 (findP S nm).1.b.length, .int .i64 (findP S nm).2]) ∧ Below w.heap.size w w' := by
  have HH := Aside0.mk (find_at gd B φ S nm w h hnm)
  obtain ⟨r, hr⟩ : ∃ r, findP S nm = r := ⟨_, rfl⟩
  rw [hr] at HH ⊢
  clear h hr
  go_enter Try.func25, Try.ntmps25
  go_wp2_with (first | (go_at_call 45; refine HH.out.mono ?_; rintro e w5 ⟨g, rfl, ⟨A, c, h1, h2, h3⟩, hb⟩; have HB := Aside0.mk hb; have c0 := (blk_cell h1 0).trans (show _ = some (.slice A r.1.b.length c) from rfl); clear h1 h2 h3 hb))
  go_ret2
  exact ⟨rfl, HB.out⟩
set_option maxHeartbeats 8000000 in
set_option maxRecDepth 100000 in
theorem calls_at (gd B : Nat) (φ : Nat → Tg) (S : DA) (w : World) (h : DAt w φ B gd S) :
    Calls Try.prog 15 #[.pointer (some ⟨gd, 0, none⟩)] w fun e w' => e = .returned (.int .i64 S.calls) ∧ w = w' := by
  obtain ⟨gm, n, V, Af, cf, Ap, cp, hd, hn⟩ := h
  have k0 : w.cell? ⟨gd, 0, none⟩ = some (.bool true) := (blk_cell hd.blk 0).trans rfl
  have k5 : w.cell? ⟨gd, 5, none⟩ = some (.int .i64 S.calls) := (blk_cell hd.blk 5).trans rfl
  clear hd hn
  go_enter Try.func15, Try.ntmps15
  go_wp2_with (first | (go_at_call 34; refine (is_made gd true _ k0).mono ?_; rintro e w5 ⟨rfl, rfl⟩))
  go_ret
  exact ⟨rfl, rfl⟩
end Go.Proofs.Yteibdmpjlpcgbaa.XDisk
