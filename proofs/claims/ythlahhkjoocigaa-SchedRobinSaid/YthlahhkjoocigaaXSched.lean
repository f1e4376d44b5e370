-- Written by a program of this session (wip/xprint.py): functions of the given Go program as plain Lean functions, and that the machine's calls come to them.
import Derived.Test.YthlahhkjoocigaaXSched0
import Derived.Test.YthlahhkjoocigaaXSched1
import Derived.Test.YthlahhkjoocigaaXSched2
import Derived.Test.YthlahhkjoocigaaXSched3
import Derived.Test.YthlahhkjoocigaaXSched4
import Derived.Test.YthlahhkjoocigaaXSched5
namespace Go.Proofs.Ythlahhkjoocigaa.XSched
open Go.RowKit Go.Proofs.YthlahhkjoocigaaW.PrintWords Go.Proofs.YthlahhkjoocigaaW.PrintLast Go.Proofs.YthlahhkjoocigaaW.PrintMore
attribute [local go_sem] max2_int min2_int max_two min_two max_three min_three max_four min_four   -- for this text's walks alone
set_option linter.unusedVariables false
set_option linter.unusedSimpArgs false

end Go.Proofs.Ythlahhkjoocigaa.XSched
