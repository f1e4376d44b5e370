-- Written by a program of this session (wip/xprint.py): functions of the given Go program as plain Lean functions, and that the machine's calls come to them.
import Derived.Test.YtjieagpfnnbiiaaBXLin0
import Derived.Test.YtjieagpfnnbiiaaBHOpen
namespace Go.Proofs.Ytjieagpfnnbiiaa.XLin
open Go Go.RowKit Go.Proofs.YtjieagpfnnbiiaaW.PrintWords Go.Proofs.Ytjieagpfnnbiiaa.HOpen
set_option linter.unusedVariables false
set_option maxRecDepth 100000
theorem opens9 : Opens Try.prog Kd.string 9 (fun s => s.size ≤ maxLen) := opens_string Try.underlying9
abbrev ok9 : ByteArray → Prop := fun s => s.size ≤ maxLen
structure Ok25 (x : S25) : Prop where
  g0 : ok9 x.f0
  g1 : ok9 x.f1
abbrev ok25 := Ok25
theorem opens25 : Opens Try.prog k25 25 ok25 :=
  ⟨fun enc w base spare held fuel cs x hx => by
    obtain ⟨xs, n, rfl, _, hl, hxl, hf⟩ := DataW.trod_struct Try.underlying25 hx
    have hl : cs.length = 2 := hl.trans (by kernel_rfl)
    have hxl : xs.length = 2 := hxl
    have e0 : DataW.trod enc Try.prog w base spare held n 9 ((cs.drop 0).take (Try.prog.cellsOf 9)) = xs[0]? := hf 0 _ rfl
    rw [List.getElem?_eq_getElem (by omega), show Try.prog.cellsOf 9 = 1 by kernel_rfl] at e0
    obtain ⟨a0, g0, o0⟩ := opens9.out enc w base spare held n _ _ e0
    have e1 : DataW.trod enc Try.prog w base spare held n 9 ((cs.drop 1).take (Try.prog.cellsOf 9)) = xs[1]? := hf 1 _ rfl
    rw [List.getElem?_eq_getElem (by omega), show Try.prog.cellsOf 9 = 1 by kernel_rfl] at e1
    obtain ⟨a1, g1, o1⟩ := opens9.out enc w base spare held n _ _ e1
    refine ⟨⟨a0, a1⟩, ?_, ⟨o0, o1⟩⟩
    have z := pair_at (o := 0) (s := 1) g0 (last_at (o := 1) (s := 1) (by omega) g1)
    rw [List.drop_zero] at z
    exact z⟩
abbrev ok22 : List (S25) → Prop := fun xs => xs.length ≤ 9223372036854775807 ∧ ∀ x ∈ xs, ok25 x
theorem opens22 : Opens Try.prog (Kd.slice 25 k25) 22 ok22 := opens_slice Try.underlying22 (by kernel_rfl) opens25
theorem opens5 : Opens Try.prog (Kd.int .u8) 5 (OkInt .u8) := opens_int Try.underlying5
abbrev ok5 := OkInt .u8
structure Ok71 (x : S71) : Prop where
  g0 : ok5 x.f0
  g1 : ok9 x.f1
  g2 : ok9 x.f2
abbrev ok71 := Ok71
theorem opens71 : Opens Try.prog k71 71 ok71 :=
  ⟨fun enc w base spare held fuel cs x hx => by
    obtain ⟨xs, n, rfl, _, hl, hxl, hf⟩ := DataW.trod_struct Try.underlying71 hx
    have hl : cs.length = 3 := hl.trans (by kernel_rfl)
    have hxl : xs.length = 3 := hxl
    have e0 : DataW.trod enc Try.prog w base spare held n 5 ((cs.drop 0).take (Try.prog.cellsOf 5)) = xs[0]? := hf 0 _ rfl
    rw [List.getElem?_eq_getElem (by omega), show Try.prog.cellsOf 5 = 1 by kernel_rfl] at e0
    obtain ⟨a0, g0, o0⟩ := opens5.out enc w base spare held n _ _ e0
    have e1 : DataW.trod enc Try.prog w base spare held n 9 ((cs.drop 1).take (Try.prog.cellsOf 9)) = xs[1]? := hf 1 _ rfl
    rw [List.getElem?_eq_getElem (by omega), show Try.prog.cellsOf 9 = 1 by kernel_rfl] at e1
    obtain ⟨a1, g1, o1⟩ := opens9.out enc w base spare held n _ _ e1
    have e2 : DataW.trod enc Try.prog w base spare held n 9 ((cs.drop 2).take (Try.prog.cellsOf 9)) = xs[2]? := hf 2 _ rfl
    rw [List.getElem?_eq_getElem (by omega), show Try.prog.cellsOf 9 = 1 by kernel_rfl] at e2
    obtain ⟨a2, g2, o2⟩ := opens9.out enc w base spare held n _ _ e2
    refine ⟨⟨a0, a1, a2⟩, ?_, ⟨o0, o1, o2⟩⟩
    have z := pair_at (o := 0) (s := 1) g0 (pair_at (o := 1) (s := 1) g1 (last_at (o := 2) (s := 1) (by omega) g2))
    rw [List.drop_zero] at z
    exact z⟩
abbrev ok30 : List (S71) → Prop := fun xs => xs.length ≤ 9223372036854775807 ∧ ∀ x ∈ xs, ok71 x
theorem opens30 : Opens Try.prog (Kd.slice 71 k71) 30 ok30 := opens_slice Try.underlying30 (by kernel_rfl) opens71
theorem opens3 : Opens Try.prog (Kd.int .i64) 3 (OkInt .i64) := opens_int Try.underlying3
abbrev ok3 := OkInt .i64
structure Ok32 (x : S32) : Prop where
  g0 : ok5 x.f0
  g1 : ok30 x.f1
  g2 : ok9 x.f2
  g3 : ok9 x.f3
  g4 : ok3 x.f4
abbrev ok32 := Ok32
theorem opens32 : Opens Try.prog k32 32 ok32 :=
  ⟨fun enc w base spare held fuel cs x hx => by
    obtain ⟨xs, n, rfl, _, hl, hxl, hf⟩ := DataW.trod_struct Try.underlying32 hx
    have hl : cs.length = 5 := hl.trans (by kernel_rfl)
    have hxl : xs.length = 5 := hxl
    have e0 : DataW.trod enc Try.prog w base spare held n 5 ((cs.drop 0).take (Try.prog.cellsOf 5)) = xs[0]? := hf 0 _ rfl
    rw [List.getElem?_eq_getElem (by omega), show Try.prog.cellsOf 5 = 1 by kernel_rfl] at e0
    obtain ⟨a0, g0, o0⟩ := opens5.out enc w base spare held n _ _ e0
    have e1 : DataW.trod enc Try.prog w base spare held n 30 ((cs.drop 1).take (Try.prog.cellsOf 30)) = xs[1]? := hf 1 _ rfl
    rw [List.getElem?_eq_getElem (by omega), show Try.prog.cellsOf 30 = 1 by kernel_rfl] at e1
    obtain ⟨a1, g1, o1⟩ := opens30.out enc w base spare held n _ _ e1
    have e2 : DataW.trod enc Try.prog w base spare held n 9 ((cs.drop 2).take (Try.prog.cellsOf 9)) = xs[2]? := hf 2 _ rfl
    rw [List.getElem?_eq_getElem (by omega), show Try.prog.cellsOf 9 = 1 by kernel_rfl] at e2
    obtain ⟨a2, g2, o2⟩ := opens9.out enc w base spare held n _ _ e2
    have e3 : DataW.trod enc Try.prog w base spare held n 9 ((cs.drop 3).take (Try.prog.cellsOf 9)) = xs[3]? := hf 3 _ rfl
    rw [List.getElem?_eq_getElem (by omega), show Try.prog.cellsOf 9 = 1 by kernel_rfl] at e3
    obtain ⟨a3, g3, o3⟩ := opens9.out enc w base spare held n _ _ e3
    have e4 : DataW.trod enc Try.prog w base spare held n 3 ((cs.drop 4).take (Try.prog.cellsOf 3)) = xs[4]? := hf 4 _ rfl
    rw [List.getElem?_eq_getElem (by omega), show Try.prog.cellsOf 3 = 1 by kernel_rfl] at e4
    obtain ⟨a4, g4, o4⟩ := opens3.out enc w base spare held n _ _ e4
    refine ⟨⟨a0, a1, a2, a3, a4⟩, ?_, ⟨o0, o1, o2, o3, o4⟩⟩
    have z := pair_at (o := 0) (s := 1) g0 (pair_at (o := 1) (s := 1) g1 (pair_at (o := 2) (s := 1) g2 (pair_at (o := 3) (s := 1) g3 (last_at (o := 4) (s := 1) (by omega) g4))))
    rw [List.drop_zero] at z
    exact z⟩
end Go.Proofs.Ytjieagpfnnbiiaa.XLin
