-- Written by a program of this session (wip/xprint.py): functions of the given Go program as plain Lean functions, and that the machine's calls come to them.
import Derived.Test.YthlahhkjoocigaaQXQueue0
import Derived.Test.YthlahhkjoocigaaQHOpen
namespace Go.Proofs.Ythlahhkjoocigaa.XQueue
open Go Go.RowKit Go.Proofs.YthlahhkjoocigaaW.PrintWords Go.Proofs.Ythlahhkjoocigaa.HOpen
set_option linter.unusedVariables false
set_option maxRecDepth 100000
theorem opens5 : Opens Try.prog (Kd.int .u8) 5 (OkInt .u8) := opens_int Try.underlying5
abbrev ok5 := OkInt .u8
theorem opens3 : Opens Try.prog (Kd.int .i64) 3 (OkInt .i64) := opens_int Try.underlying3
abbrev ok3 := OkInt .i64
theorem opens22 : Opens Try.prog (Kd.int .u64) 22 (OkInt .u64) := opens_int Try.underlying22
abbrev ok22 := OkInt .u64
theorem opens59 : Opens Try.prog (Kd.int .i64) 59 (OkInt .i64) := opens_int Try.underlying59
abbrev ok59 := OkInt .i64
structure Ok61 (x : S61) : Prop where
  g0 : ok5 x.f0
  g1 : ok3 x.f1
  g2 : ok3 x.f2
  g3 : ok3 x.f3
  g4 : ok22 x.f4
  g5 : ok59 x.f5
abbrev ok61 := Ok61
theorem opens61 : Opens Try.prog k61 61 ok61 :=
  ⟨fun enc w base spare held fuel cs x hx => by
    obtain ⟨xs, n, rfl, _, hl, hxl, hf⟩ := DataW.trod_struct Try.underlying61 hx
    have hl : cs.length = 6 := hl.trans (by kernel_rfl)
    have hxl : xs.length = 6 := hxl
    have e0 : DataW.trod enc Try.prog w base spare held n 5 ((cs.drop 0).take (Try.prog.cellsOf 5)) = xs[0]? := hf 0 _ rfl
    rw [List.getElem?_eq_getElem (by omega), show Try.prog.cellsOf 5 = 1 by kernel_rfl] at e0
    obtain ⟨a0, g0, o0⟩ := opens5.out enc w base spare held n _ _ e0
    have e1 : DataW.trod enc Try.prog w base spare held n 3 ((cs.drop 1).take (Try.prog.cellsOf 3)) = xs[1]? := hf 1 _ rfl
    rw [List.getElem?_eq_getElem (by omega), show Try.prog.cellsOf 3 = 1 by kernel_rfl] at e1
    obtain ⟨a1, g1, o1⟩ := opens3.out enc w base spare held n _ _ e1
    have e2 : DataW.trod enc Try.prog w base spare held n 3 ((cs.drop 2).take (Try.prog.cellsOf 3)) = xs[2]? := hf 2 _ rfl
    rw [List.getElem?_eq_getElem (by omega), show Try.prog.cellsOf 3 = 1 by kernel_rfl] at e2
    obtain ⟨a2, g2, o2⟩ := opens3.out enc w base spare held n _ _ e2
    have e3 : DataW.trod enc Try.prog w base spare held n 3 ((cs.drop 3).take (Try.prog.cellsOf 3)) = xs[3]? := hf 3 _ rfl
    rw [List.getElem?_eq_getElem (by omega), show Try.prog.cellsOf 3 = 1 by kernel_rfl] at e3
    obtain ⟨a3, g3, o3⟩ := opens3.out enc w base spare held n _ _ e3
    have e4 : DataW.trod enc Try.prog w base spare held n 22 ((cs.drop 4).take (Try.prog.cellsOf 22)) = xs[4]? := hf 4 _ rfl
    rw [List.getElem?_eq_getElem (by omega), show Try.prog.cellsOf 22 = 1 by kernel_rfl] at e4
    obtain ⟨a4, g4, o4⟩ := opens22.out enc w base spare held n _ _ e4
    have e5 : DataW.trod enc Try.prog w base spare held n 59 ((cs.drop 5).take (Try.prog.cellsOf 59)) = xs[5]? := hf 5 _ rfl
    rw [List.getElem?_eq_getElem (by omega), show Try.prog.cellsOf 59 = 1 by kernel_rfl] at e5
    obtain ⟨a5, g5, o5⟩ := opens59.out enc w base spare held n _ _ e5
    refine ⟨⟨a0, a1, a2, a3, a4, a5⟩, ?_, ⟨o0, o1, o2, o3, o4, o5⟩⟩
    have z := pair_at (o := 0) (s := 1) g0 (pair_at (o := 1) (s := 1) g1 (pair_at (o := 2) (s := 1) g2 (pair_at (o := 3) (s := 1) g3 (pair_at (o := 4) (s := 1) g4 (last_at (o := 5) (s := 1) (by omega) g5)))))
    rw [List.drop_zero] at z
    exact z⟩
abbrev ok55 : List (S61) → Prop := fun xs => xs.length ≤ 9223372036854775807 ∧ ∀ x ∈ xs, ok61 x
theorem opens55 : Opens Try.prog (Kd.slice 61 k61) 55 ok55 := opens_slice Try.underlying55 (by kernel_rfl) opens61
end Go.Proofs.Ythlahhkjoocigaa.XQueue
