-- Written by a program of this session (a working copy of the kit's print, patched: tools/patch_print.py). Not trusted: Lean checks it.
import Derived.Test.YtajnladoomkgaaaXC0
import Derived.Test.YtajnladoomkgaaaXC1
import Derived.Test.YtajnladoomkgaaaXC2
import Derived.Test.YtajnladoomkgaaaXC3
namespace Go.Proofs.Ytajnladoomkgaaa.XC
open Go.RowKit Go.Proofs.YtajnladoomkgaaaW.PrintWords Go.Proofs.YtajnladoomkgaaaW.PrintLast Go.Proofs.YtajnladoomkgaaaW.PrintMore
attribute [local go_sem] max2_int min2_int max_two min_two max_three min_three max_four min_four   -- for this text's walks alone
set_option linter.unusedVariables false
set_option linter.unusedSimpArgs false

end Go.Proofs.Ytajnladoomkgaaa.XC
