-- Written by a program of this session's (gprint.py, over the printer's parts); Lean checks it.
import Derived.Test.YtmeejdeafmgdnaaGx0
namespace Go.Proofs.Ytmeejdeafmgdnaa.G
open Go.RowKit Go.Proofs.YtmeejdeafmgdnaaW.PrintWords Go.Proofs.YtmeejdeafmgdnaaW.PrintLast Go.Proofs.YtmeejdeafmgdnaaW.PrintMore
attribute [local go_sem] max2_int min2_int max_two min_two max_three min_three max_four min_four   -- for this text's walks alone
set_option linter.unusedVariables false
set_option linter.unusedSimpArgs false

/-! ### impl_IsProgram -/
def bodyB (fs : Int) (b : List S76) : Bool := decide (b.length ≤ 8) && b.all fun s => stepB fs s.f0 s.f1 s.f2
def programB (p : List (List S76)) : Bool := (decide (1 ≤ p.length) && decide (p.length ≤ 6)) && p.all (bodyB (p.length : Int))
def impl_IsProgram.f (l0_0 : List (List S76)) : Option Bool := some (programB l0_0)

end Go.Proofs.Ytmeejdeafmgdnaa.G
