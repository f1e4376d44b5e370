-- Written by a program of this session (wip/xprint.py): functions of the given Go program as plain Lean functions, and that the machine's calls come to them.
import Derived.Test.YthlahhkjoocigaaXSched0
import Derived.Test.YthlahhkjoocigaaHOpen
namespace Go.Proofs.Ythlahhkjoocigaa.XSched
open Go Go.RowKit Go.Proofs.YthlahhkjoocigaaW.PrintWords Go.Proofs.Ythlahhkjoocigaa.HOpen
set_option linter.unusedVariables false
set_option maxRecDepth 100000
theorem opens3 : Opens Try.prog (Kd.int .i64) 3 (OkInt .i64) := opens_int Try.underlying3
abbrev ok3 := OkInt .i64
abbrev ok36 : List Int → Prop := fun xs => xs.length ≤ 9223372036854775807 ∧ ∀ x ∈ xs, ok3 x
theorem opens36 : Opens Try.prog (Kd.slice 3 (Kd.int .i64)) 36 ok36 := opens_slice Try.underlying36 (by kernel_rfl) opens3
theorem opens37 : Opens Try.prog (Kd.int .u32) 37 (OkInt .u32) := opens_int Try.underlying37
abbrev ok37 := OkInt .u32
structure Ok51 (x : S51) : Prop where
  g0 : ok3 x.f0
  g1 : ok36 x.f1
abbrev ok51 := Ok51
theorem opens51 : Opens Try.prog k51 51 ok51 :=
  ⟨fun enc w base spare held fuel cs x hx => by
    obtain ⟨xs, n, rfl, _, hl, hxl, hf⟩ := DataW.trod_struct Try.underlying51 hx
    have hl : cs.length = 2 := hl.trans (by kernel_rfl)
    have hxl : xs.length = 2 := hxl
    have e0 : DataW.trod enc Try.prog w base spare held n 3 ((cs.drop 0).take (Try.prog.cellsOf 3)) = xs[0]? := hf 0 _ rfl
    rw [List.getElem?_eq_getElem (by omega), show Try.prog.cellsOf 3 = 1 by kernel_rfl] at e0
    obtain ⟨a0, g0, o0⟩ := opens3.out enc w base spare held n _ _ e0
    have e1 : DataW.trod enc Try.prog w base spare held n 36 ((cs.drop 1).take (Try.prog.cellsOf 36)) = xs[1]? := hf 1 _ rfl
    rw [List.getElem?_eq_getElem (by omega), show Try.prog.cellsOf 36 = 1 by kernel_rfl] at e1
    obtain ⟨a1, g1, o1⟩ := opens36.out enc w base spare held n _ _ e1
    refine ⟨⟨a0, a1⟩, ?_, ⟨o0, o1⟩⟩
    have z := pair_at (o := 0) (s := 1) g0 (last_at (o := 1) (s := 1) (by omega) g1)
    rw [List.drop_zero] at z
    exact z⟩
abbrev ok38 : List (S51) → Prop := fun xs => xs.length ≤ 9223372036854775807 ∧ ∀ x ∈ xs, ok51 x
theorem opens38 : Opens Try.prog (Kd.slice 51 k51) 38 ok38 := opens_slice Try.underlying38 (by kernel_rfl) opens51
theorem opens5 : Opens Try.prog (Kd.int .u8) 5 (OkInt .u8) := opens_int Try.underlying5
abbrev ok5 := OkInt .u8
theorem opens49 : Opens Try.prog (Kd.int .u16) 49 (OkInt .u16) := opens_int Try.underlying49
abbrev ok49 := OkInt .u16
abbrev ok48 : List Int → Prop := fun xs => xs.length ≤ 9223372036854775807 ∧ ∀ x ∈ xs, ok49 x
theorem opens48 : Opens Try.prog (Kd.slice 49 (Kd.int .u16)) 48 ok48 := opens_slice Try.underlying48 (by kernel_rfl) opens49
end Go.Proofs.Ythlahhkjoocigaa.XSched
