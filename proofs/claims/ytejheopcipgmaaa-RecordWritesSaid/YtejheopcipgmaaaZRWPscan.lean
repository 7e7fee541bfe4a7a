/- Lemmas for RW; a slim copy of this session's texts (slim.py). -/
import Derived.Test.YtejheopcipgmaaaZRWQ0
import Derived.Test.YtejheopcipgmaaaZRWQ2
import Derived.Test.YtejheopcipgmaaaZRWQ6
import Derived.Test.YtejheopcipgmaaaZRWQ10
import Derived.Test.YtejheopcipgmaaaZRWQ4
import Derived.Test.YtejheopcipgmaaaZRWPnum
import Derived.Test.YtejheopcipgmaaaZRWPnumref
import Derived.Lib.Bytes
import Derived.Test.YtejheopcipgmaaaZRWPcrc
import Derived.Test.YtejheopcipgmaaaZRWPrec
namespace Go.Proofs.Ytejheopcipgmaaa.Pr
open Go.RowKit Go.Proofs.Ytejheopcipgmaaa.Q Go.Proofs.YtejheopcipgmaaaW.PrintWords Go.Proofs.YtejheopcipgmaaaW.PrintLast Go.Proofs.YtejheopcipgmaaaW.PrintMore Go.Proofs.Ytejheopcipgmaaa.Pc Go.Proofs.Ytejheopcipgmaaa.Pn
set_option linter.unusedVariables false
set_option linter.unusedSimpArgs false
theorem heads_ev : Ev (fun k => fairleadlaw14_heads.f k) true := Ev.of (fun k => fairleadlaw14_heads.mono k) (k := 300) (by kernel_rfl)
end Go.Proofs.Ytejheopcipgmaaa.Pr
