-- Written by a program of this session (wip/xprint.py): functions of the given Go program as plain Lean functions, and that the machine's calls come to them.
import Derived.Test.YthlahhkjoocigaaXFair0
import Derived.Test.YthlahhkjoocigaaHOpen
namespace Go.Proofs.Ythlahhkjoocigaa.XFair
open Go Go.RowKit Go.Proofs.YthlahhkjoocigaaW.PrintWords Go.Proofs.Ythlahhkjoocigaa.HOpen
set_option linter.unusedVariables false
set_option maxRecDepth 100000
theorem opens22 : Opens Try.prog (Kd.int .u64) 22 (OkInt .u64) := opens_int Try.underlying22
abbrev ok22 := OkInt .u64
theorem opens3 : Opens Try.prog (Kd.int .i64) 3 (OkInt .i64) := opens_int Try.underlying3
abbrev ok3 := OkInt .i64
theorem opens4 : Opens Try.prog Kd.bool 4 (fun _ => True) := opens_bool Try.underlying4
abbrev ok4 : Bool → Prop := fun _ => True
theorem opens37 : Opens Try.prog (Kd.int .u32) 37 (OkInt .u32) := opens_int Try.underlying37
abbrev ok37 := OkInt .u32
abbrev ok23 : List Int → Prop := fun xs => xs.length ≤ 9223372036854775807 ∧ ∀ x ∈ xs, ok37 x
theorem opens23 : Opens Try.prog (Kd.slice 37 (Kd.int .u32)) 23 ok23 := opens_slice Try.underlying23 (by kernel_rfl) opens37
structure Ok25 (x : S25) : Prop where
  g0 : ok22 x.f0
  g1 : ok3 x.f1
  g2 : ok3 x.f2
  g3 : ok3 x.f3
  g4 : ok4 x.f4
  g5 : ok23 x.f5
abbrev ok25 := Ok25
theorem opens25 : Opens Try.prog k25 25 ok25 :=
  ⟨fun enc w base spare held fuel cs x hx => by
    obtain ⟨xs, n, rfl, _, hl, hxl, hf⟩ := DataW.trod_struct Try.underlying25 hx
    have hl : cs.length = 6 := hl.trans (by kernel_rfl)
    have hxl : xs.length = 6 := hxl
    have e0 : DataW.trod enc Try.prog w base spare held n 22 ((cs.drop 0).take (Try.prog.cellsOf 22)) = xs[0]? := hf 0 _ rfl
    rw [List.getElem?_eq_getElem (by omega), show Try.prog.cellsOf 22 = 1 by kernel_rfl] at e0
    obtain ⟨a0, g0, o0⟩ := opens22.out enc w base spare held n _ _ e0
    have e1 : DataW.trod enc Try.prog w base spare held n 3 ((cs.drop 1).take (Try.prog.cellsOf 3)) = xs[1]? := hf 1 _ rfl
    rw [List.getElem?_eq_getElem (by omega), show Try.prog.cellsOf 3 = 1 by kernel_rfl] at e1
    obtain ⟨a1, g1, o1⟩ := opens3.out enc w base spare held n _ _ e1
    have e2 : DataW.trod enc Try.prog w base spare held n 3 ((cs.drop 2).take (Try.prog.cellsOf 3)) = xs[2]? := hf 2 _ rfl
    rw [List.getElem?_eq_getElem (by omega), show Try.prog.cellsOf 3 = 1 by kernel_rfl] at e2
    obtain ⟨a2, g2, o2⟩ := opens3.out enc w base spare held n _ _ e2
    have e3 : DataW.trod enc Try.prog w base spare held n 3 ((cs.drop 3).take (Try.prog.cellsOf 3)) = xs[3]? := hf 3 _ rfl
    rw [List.getElem?_eq_getElem (by omega), show Try.prog.cellsOf 3 = 1 by kernel_rfl] at e3
    obtain ⟨a3, g3, o3⟩ := opens3.out enc w base spare held n _ _ e3
    have e4 : DataW.trod enc Try.prog w base spare held n 4 ((cs.drop 4).take (Try.prog.cellsOf 4)) = xs[4]? := hf 4 _ rfl
    rw [List.getElem?_eq_getElem (by omega), show Try.prog.cellsOf 4 = 1 by kernel_rfl] at e4
    obtain ⟨a4, g4, o4⟩ := opens4.out enc w base spare held n _ _ e4
    have e5 : DataW.trod enc Try.prog w base spare held n 23 ((cs.drop 5).take (Try.prog.cellsOf 23)) = xs[5]? := hf 5 _ rfl
    rw [List.getElem?_eq_getElem (by omega), show Try.prog.cellsOf 23 = 1 by kernel_rfl] at e5
    obtain ⟨a5, g5, o5⟩ := opens23.out enc w base spare held n _ _ e5
    refine ⟨⟨a0, a1, a2, a3, a4, a5⟩, ?_, ⟨o0, o1, o2, o3, o4, o5⟩⟩
    have z := pair_at (o := 0) (s := 1) g0 (pair_at (o := 1) (s := 1) g1 (pair_at (o := 2) (s := 1) g2 (pair_at (o := 3) (s := 1) g3 (pair_at (o := 4) (s := 1) g4 (last_at (o := 5) (s := 1) (by omega) g5)))))
    rw [List.drop_zero] at z
    exact z⟩
theorem opens5 : Opens Try.prog (Kd.int .u8) 5 (OkInt .u8) := opens_int Try.underlying5
abbrev ok5 := OkInt .u8
theorem opens9 : Opens Try.prog Kd.string 9 (fun s => s.size ≤ maxLen) := opens_string Try.underlying9
abbrev ok9 : ByteArray → Prop := fun s => s.size ≤ maxLen
structure Ok131 (x : S131) : Prop where
  g0 : ok5 x.f0
  g1 : ok9 x.f1
  g2 : ok9 x.f2
abbrev ok131 := Ok131
theorem opens131 : Opens Try.prog k131 131 ok131 :=
  ⟨fun enc w base spare held fuel cs x hx => by
    obtain ⟨xs, n, rfl, _, hl, hxl, hf⟩ := DataW.trod_struct Try.underlying131 hx
    have hl : cs.length = 3 := hl.trans (by kernel_rfl)
    have hxl : xs.length = 3 := hxl
    have e0 : DataW.trod enc Try.prog w base spare held n 5 ((cs.drop 0).take (Try.prog.cellsOf 5)) = xs[0]? := hf 0 _ rfl
    rw [List.getElem?_eq_getElem (by omega), show Try.prog.cellsOf 5 = 1 by kernel_rfl] at e0
    obtain ⟨a0, g0, o0⟩ := opens5.out enc w base spare held n _ _ e0
    have e1 : DataW.trod enc Try.prog w base spare held n 9 ((cs.drop 1).take (Try.prog.cellsOf 9)) = xs[1]? := hf 1 _ rfl
    rw [List.getElem?_eq_getElem (by omega), show Try.prog.cellsOf 9 = 1 by kernel_rfl] at e1
    obtain ⟨a1, g1, o1⟩ := opens9.out enc w base spare held n _ _ e1
    have e2 : DataW.trod enc Try.prog w base spare held n 9 ((cs.drop 2).take (Try.prog.cellsOf 9)) = xs[2]? := hf 2 _ rfl
    rw [List.getElem?_eq_getElem (by omega), show Try.prog.cellsOf 9 = 1 by kernel_rfl] at e2
    obtain ⟨a2, g2, o2⟩ := opens9.out enc w base spare held n _ _ e2
    refine ⟨⟨a0, a1, a2⟩, ?_, ⟨o0, o1, o2⟩⟩
    have z := pair_at (o := 0) (s := 1) g0 (pair_at (o := 1) (s := 1) g1 (last_at (o := 2) (s := 1) (by omega) g2))
    rw [List.drop_zero] at z
    exact z⟩
abbrev ok89 : List (S131) → Prop := fun xs => xs.length ≤ 9223372036854775807 ∧ ∀ x ∈ xs, ok131 x
theorem opens89 : Opens Try.prog (Kd.slice 131 k131) 89 ok89 := opens_slice Try.underlying89 (by kernel_rfl) opens131
structure Ok91 (x : S91) : Prop where
  g0 : ok5 x.f0
  g1 : ok89 x.f1
  g2 : ok9 x.f2
  g3 : ok9 x.f3
  g4 : ok3 x.f4
abbrev ok91 := Ok91
theorem opens91 : Opens Try.prog k91 91 ok91 :=
  ⟨fun enc w base spare held fuel cs x hx => by
    obtain ⟨xs, n, rfl, _, hl, hxl, hf⟩ := DataW.trod_struct Try.underlying91 hx
    have hl : cs.length = 5 := hl.trans (by kernel_rfl)
    have hxl : xs.length = 5 := hxl
    have e0 : DataW.trod enc Try.prog w base spare held n 5 ((cs.drop 0).take (Try.prog.cellsOf 5)) = xs[0]? := hf 0 _ rfl
    rw [List.getElem?_eq_getElem (by omega), show Try.prog.cellsOf 5 = 1 by kernel_rfl] at e0
    obtain ⟨a0, g0, o0⟩ := opens5.out enc w base spare held n _ _ e0
    have e1 : DataW.trod enc Try.prog w base spare held n 89 ((cs.drop 1).take (Try.prog.cellsOf 89)) = xs[1]? := hf 1 _ rfl
    rw [List.getElem?_eq_getElem (by omega), show Try.prog.cellsOf 89 = 1 by kernel_rfl] at e1
    obtain ⟨a1, g1, o1⟩ := opens89.out enc w base spare held n _ _ e1
    have e2 : DataW.trod enc Try.prog w base spare held n 9 ((cs.drop 2).take (Try.prog.cellsOf 9)) = xs[2]? := hf 2 _ rfl
    rw [List.getElem?_eq_getElem (by omega), show Try.prog.cellsOf 9 = 1 by kernel_rfl] at e2
    obtain ⟨a2, g2, o2⟩ := opens9.out enc w base spare held n _ _ e2
    have e3 : DataW.trod enc Try.prog w base spare held n 9 ((cs.drop 3).take (Try.prog.cellsOf 9)) = xs[3]? := hf 3 _ rfl
    rw [List.getElem?_eq_getElem (by omega), show Try.prog.cellsOf 9 = 1 by kernel_rfl] at e3
    obtain ⟨a3, g3, o3⟩ := opens9.out enc w base spare held n _ _ e3
    have e4 : DataW.trod enc Try.prog w base spare held n 3 ((cs.drop 4).take (Try.prog.cellsOf 3)) = xs[4]? := hf 4 _ rfl
    rw [List.getElem?_eq_getElem (by omega), show Try.prog.cellsOf 3 = 1 by kernel_rfl] at e4
    obtain ⟨a4, g4, o4⟩ := opens3.out enc w base spare held n _ _ e4
    refine ⟨⟨a0, a1, a2, a3, a4⟩, ?_, ⟨o0, o1, o2, o3, o4⟩⟩
    have z := pair_at (o := 0) (s := 1) g0 (pair_at (o := 1) (s := 1) g1 (pair_at (o := 2) (s := 1) g2 (pair_at (o := 3) (s := 1) g3 (last_at (o := 4) (s := 1) (by omega) g4))))
    rw [List.drop_zero] at z
    exact z⟩
abbrev ok88 : List (S91) → Prop := fun xs => xs.length ≤ 9223372036854775807 ∧ ∀ x ∈ xs, ok91 x
theorem opens88 : Opens Try.prog (Kd.slice 91 k91) 88 ok88 := opens_slice Try.underlying88 (by kernel_rfl) opens91
abbrev ok26 : List (List (S91)) → Prop := fun xs => xs.length ≤ 9223372036854775807 ∧ ∀ x ∈ xs, ok88 x
theorem opens26 : Opens Try.prog (Kd.slice 88 (Kd.slice 91 k91)) 26 ok26 := opens_slice Try.underlying26 (by kernel_rfl) opens88
end Go.Proofs.Ythlahhkjoocigaa.XFair
