/- The plain law of layer 21 (the line of those that write): what the program's functions reckon. No program's code in sight. -/
import Derived.Test.YthlahhkjoocigaaQXQueue6
namespace Go.Proofs.Ythlahhkjoocigaa.XQueue
open Go Go.RowKit Go.Proofs.YthlahhkjoocigaaW.PrintWords Go.Proofs.YthlahhkjoocigaaW.PrintLast
set_option linter.unusedVariables false
set_option linter.unusedSimpArgs false

theorem w64 {n : Int} (h0 : -9223372036854775808 ≤ n) (h1 : n ≤ 9223372036854775807) : wrap64 n = n := by unfold wrap64; omega
/-- How many fit, o ops and n units being taken. -/
def fits (most room : Int) : Int → Int → List S65 → Nat
  | _, _, [] => 0
  | o, n, m :: ms => if o + m.f1 > most then 0 else if n + m.f2 > room then 0 else fits most room (o + m.f1) (n + m.f2) ms + 1
theorem drop65 (l : List S65) (i : Nat) (h : i < l.length) : l.drop i = l.getD i z65 :: l.drop (i + 1) := drop_cons z65 l i h
/-! ### Join -/
end Go.Proofs.Ythlahhkjoocigaa.XQueue
