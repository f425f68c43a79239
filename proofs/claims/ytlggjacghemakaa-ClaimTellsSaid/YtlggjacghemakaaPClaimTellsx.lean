/- Go functions as plain Lean functions, and that the calls come to them. Conditions: none. (Written by a program of this session.) -/
import Derived.Test.YtlggjacghemakaaPClaimTellsx0
import Derived.Test.YtlggjacghemakaaPClaimTellsx1
import Derived.Test.YtlggjacghemakaaPClaimTellsx2
import Derived.Test.YtlggjacghemakaaPClaimTellsx3
import Derived.Test.YtlggjacghemakaaPClaimTellsx4
import Derived.Test.YtlggjacghemakaaPClaimTellsx5
import Derived.Test.YtlggjacghemakaaPClaimTellsx6
import Derived.Test.YtlggjacghemakaaPClaimTellsx7
import Derived.Test.YtlggjacghemakaaPClaimTellsx8
import Derived.Test.YtlggjacghemakaaPClaimTellsx9
import Derived.Test.YtlggjacghemakaaPClaimTellsx10
import Derived.Test.YtlggjacghemakaaPClaimTellsx11
import Derived.Test.YtlggjacghemakaaPClaimTellsx12
import Derived.Test.YtlggjacghemakaaPClaimTellsx13
namespace Go.Proofs.Ytlggjacghemakaa.PClaimTells
open Go.RowKit Go.Proofs.YtlggjacghemakaaW.PrintWords Go.Proofs.YtlggjacghemakaaW.PrintLast Go.Proofs.YtlggjacghemakaaW.PrintMore
attribute [local go_sem] max2_int min2_int max_two min_two max_three min_three max_four min_four   -- for this text's walks alone
set_option linter.unusedVariables false
set_option linter.unusedSimpArgs false

end Go.Proofs.Ytlggjacghemakaa.PClaimTells
