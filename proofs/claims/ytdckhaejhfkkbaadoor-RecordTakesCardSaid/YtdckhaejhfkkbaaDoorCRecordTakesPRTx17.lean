import Derived.Test.YtdckhaejhfkkbaaDoorCRecordTakesPRTx0
import Derived.Test.YtdckhaejhfkkbaaDoorCRecordTakesPRTx11
import Derived.Test.YtdckhaejhfkkbaaDoorCRecordTakesQ2
import Derived.Test.YtdckhaejhfkkbaaDoorCRecordTakesPRTx21
import Derived.Test.YtdckhaejhfkkbaaDoorCRecordTakesY
section
namespace Go.Proofs.YtdckhaejhfkkbaaDoor.PRT
open Go.RowKit Go.Proofs.YtdckhaejhfkkbaaDoorW.PrintWords Go.Proofs.YtdckhaejhfkkbaaDoorW.PrintLast Go.Proofs.YtdckhaejhfkkbaaDoorW.PrintMore
attribute [local go_sem] max2_int min2_int max_two min_two max_three min_three max_four min_four
set_option linter.unusedVariables false
set_option linter.unusedSimpArgs false
end Go.Proofs.YtdckhaejhfkkbaaDoor.PRT
end
section
namespace Go.Proofs.YtdckhaejhfkkbaaDoor.PRT
open Go.RowKit Go.Proofs.YtdckhaejhfkkbaaDoorW.PrintWords Go.Proofs.YtdckhaejhfkkbaaDoorW.PrintLast Go.Proofs.YtdckhaejhfkkbaaDoorW.PrintMore
attribute [local go_sem] max2_int min2_int max_two min_two max_three min_three max_four min_four
set_option linter.unusedVariables false
set_option linter.unusedSimpArgs false
end Go.Proofs.YtdckhaejhfkkbaaDoor.PRT
end
