/- Lemmas for RW; a slim copy of this session's texts (slim.py). -/
import Derived.Test.YtejheopcipgmaaaZRWQ7
import Derived.Test.YtejheopcipgmaaaZRWPnum
import Derived.Test.YtejheopcipgmaaaZRWPnumref
import Derived.Test.YtejheopcipgmaaaZRWQ2
import Derived.Lib.Bytes
import Derived.Test.YtejheopcipgmaaaZRWPcrc
import Derived.Test.YtejheopcipgmaaaZRWPrec
import Derived.Test.YtejheopcipgmaaaZRWPscan
namespace Go.Proofs.Ytejheopcipgmaaa.Pure
open Go.RowKit Go.Proofs.Ytejheopcipgmaaa.Q Go.Proofs.YtejheopcipgmaaaW.PrintWords Go.Proofs.YtejheopcipgmaaaW.PrintLast Go.Proofs.YtejheopcipgmaaaW.PrintMore Go.Proofs.Ytejheopcipgmaaa.Pc Go.Proofs.Ytejheopcipgmaaa.Pn Go.Proofs.Ytejheopcipgmaaa.Pr
set_option linter.unusedVariables false
set_option linter.unusedSimpArgs false
theorem RecordWrites (salt t : Int) (d : List Int) (hw : ∀ v ∈ d, (Lit.int .u8 v).wf = true) : ∃ k, fairleadlaw14_RecordWrites.f k salt t d = some true := by
  refine Ev.rounds ?_
  have hb : Byt d := Byt.of_wf hw
  unfold fairleadlaw14_RecordWrites.f
  by_cases hs : (d.length : Int) > 9000
  · simp only [if_pos hs]
    exact Ev.bind heads_ev (Ev.now _)
  · simp only [if_neg hs]
    refine Ev.bind (Frame_ev salt t hb (by omega)) (Ev.bind (ref_Frame_ev salt t hb (by omega)) ?_)
    simp only [Same_self, Option.bind_some, if_true, size_f t d (by omega), ref_size_f t d (by omega)]
    exact Ev.bind heads_ev (Ev.now _)
end Go.Proofs.Ytejheopcipgmaaa.Pure
