/- Go functions as plain Lean functions, and that the calls come to them. Conditions: none. (Written by a program of this session.) -/
import Derived.Test.YtlggjacghemakaaPClaimBackx0
import Derived.Test.YtlggjacghemakaaPClaimBackx1
import Derived.Test.YtlggjacghemakaaPClaimBackx2
import Derived.Test.YtlggjacghemakaaPClaimBackx3
import Derived.Test.YtlggjacghemakaaPClaimBackx4
import Derived.Test.YtlggjacghemakaaPClaimBackx5
import Derived.Test.YtlggjacghemakaaPClaimBackx6
import Derived.Test.YtlggjacghemakaaPClaimBackx7
import Derived.Test.YtlggjacghemakaaPClaimBackx8
import Derived.Test.YtlggjacghemakaaPClaimBackx9
import Derived.Test.YtlggjacghemakaaPClaimBackx10
import Derived.Test.YtlggjacghemakaaPClaimBackx11
import Derived.Test.YtlggjacghemakaaPClaimBackx12
namespace Go.Proofs.Ytlggjacghemakaa.PClaimBack
open Go.RowKit Go.Proofs.YtlggjacghemakaaW.PrintWords Go.Proofs.YtlggjacghemakaaW.PrintLast Go.Proofs.YtlggjacghemakaaW.PrintMore
attribute [local go_sem] max2_int min2_int max_two min_two max_three min_three max_four min_four   -- for this text's walks alone
set_option linter.unusedVariables false
set_option linter.unusedSimpArgs false

end Go.Proofs.Ytlggjacghemakaa.PClaimBack
