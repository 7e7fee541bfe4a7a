/- Lemmas for RT; a slim copy of this session's texts (slim.py). -/
import Derived.Test.YtejheopcipgmaaaZRTQ0
import Derived.Test.YtejheopcipgmaaaZRTQ2
import Derived.Test.YtejheopcipgmaaaZRTQ6
import Derived.Test.YtejheopcipgmaaaZRTQ10
import Derived.Test.YtejheopcipgmaaaZRTQ4
import Derived.Test.YtejheopcipgmaaaZRTQ8
import Derived.Test.YtejheopcipgmaaaZRTPnum
import Derived.Test.YtejheopcipgmaaaZRTPsame
import Derived.Test.YtejheopcipgmaaaZRTPcrc
import Derived.Test.YtejheopcipgmaaaZRTPrec
namespace Go.Proofs.Ytejheopcipgmaaa.Pr
open Go.RowKit Go.Proofs.Ytejheopcipgmaaa.Q Go.Proofs.YtejheopcipgmaaaW.PrintWords Go.Proofs.YtejheopcipgmaaaW.PrintLast Go.Proofs.YtejheopcipgmaaaW.PrintMore Go.Proofs.Ytejheopcipgmaaa.Pc Go.Proofs.Ytejheopcipgmaaa.Pn
set_option linter.unusedVariables false
set_option linter.unusedSimpArgs false
theorem heads_ev : Ev (fun k => fairleadlaw14_heads.f k) true := Ev.of (fun k => fairleadlaw14_heads.mono k) (k := 300) (by kernel_rfl)
end Go.Proofs.Ytejheopcipgmaaa.Pr
