/- Go functions as plain Lean functions, and that the calls come to them. Conditions: none. (Written by a program of this session.) -/
import Derived.Test.YtlggjacghemakaaPClaimAnyx0
import Derived.Test.YtlggjacghemakaaPClaimAnyx1
import Derived.Test.YtlggjacghemakaaPClaimAnyx2
import Derived.Test.YtlggjacghemakaaPClaimAnyx3
import Derived.Test.YtlggjacghemakaaPClaimAnyx4
import Derived.Test.YtlggjacghemakaaPClaimAnyx5
import Derived.Test.YtlggjacghemakaaPClaimAnyx6
import Derived.Test.YtlggjacghemakaaPClaimAnyx7
import Derived.Test.YtlggjacghemakaaPClaimAnyx8
import Derived.Test.YtlggjacghemakaaPClaimAnyx9
import Derived.Test.YtlggjacghemakaaPClaimAnyx10
import Derived.Test.YtlggjacghemakaaPClaimAnyx11
import Derived.Test.YtlggjacghemakaaPClaimAnyx12
import Derived.Test.YtlggjacghemakaaPClaimAnyx13
namespace Go.Proofs.Ytlggjacghemakaa.PClaimAny
open Go.RowKit Go.Proofs.YtlggjacghemakaaW.PrintWords Go.Proofs.YtlggjacghemakaaW.PrintLast Go.Proofs.YtlggjacghemakaaW.PrintMore
attribute [local go_sem] max2_int min2_int max_two min_two max_three min_three max_four min_four   -- for this text's walks alone
set_option linter.unusedVariables false
set_option linter.unusedSimpArgs false

end Go.Proofs.Ytlggjacghemakaa.PClaimAny
