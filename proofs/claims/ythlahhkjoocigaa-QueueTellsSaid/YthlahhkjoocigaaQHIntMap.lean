/- A map that the call has made, whole numbers as keys and elements, told as a function; of any program. -/
import Derived.Maps.RangeWalk
import Derived.Maps.OwnOps
import Derived.Maps.OwnSet
namespace Go.Proofs.Ythlahhkjoocigaa.HIntMap
open Go
open Go.Maps (Keyed)

variable {P : Program} {t : TypeId} {qk qe : IntKind}

section
variable {ops : Array Oper} {rest : List Oper} {o : Oper} {a : Act} {Q : Exit → Act → World → Prop}
end

section
variable {ops : Array Oper} {rest : List Oper} {o : Oper} {a : Act} {Q : Exit → Act → World → Prop}
end
end Go.Proofs.Ythlahhkjoocigaa.HIntMap
