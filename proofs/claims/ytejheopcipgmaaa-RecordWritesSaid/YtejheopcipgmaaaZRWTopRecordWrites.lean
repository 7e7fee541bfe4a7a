/- Lemmas for RW; a slim copy of this session's texts (slim.py). -/
import Derived.Test.YtejheopcipgmaaaZRWQ7
import Derived.Test.YtejheopcipgmaaaZRWPnum
import Derived.Test.YtejheopcipgmaaaZRWPrec
import Derived.Test.YtejheopcipgmaaaZRWPscan
import Derived.Test.YtejheopcipgmaaaZRWPureRecordWrites
namespace Go.Proofs.Ytejheopcipgmaaa.Top
open Go.RowKit Go.Proofs.Ytejheopcipgmaaa.Q Go.Proofs.YtejheopcipgmaaaW.PrintWords Go.Proofs.YtejheopcipgmaaaW.PrintLast Go.Proofs.YtejheopcipgmaaaW.PrintMore Go.Proofs.Ytejheopcipgmaaa.Pn Go.Proofs.Ytejheopcipgmaaa.Pr Go.Proofs.Ytejheopcipgmaaa.Pure
set_option linter.unusedVariables false
set_option linter.unusedSimpArgs false
theorem RecordWrites (w : World) (a0 : Int) (w0 : (Lit.int .u64 a0).wf = true) (cs : Array Value) (x : S25) (hk : k25.K w x cs.toList) (hG : (Lit.int .i64 x.f0).wf = true ∧ (x.f1.length ≤ maxLen ∧ ∀ v ∈ x.f1, (Lit.int .u8 v).wf = true)) :
    Calls Try.prog 3 #[.int .u64 a0, .agg cs] w fun e w' => e = .returned (.bool true) ∧ Below w.heap.size w w' := by
  obtain ⟨_, _, e, h0, A, c, h1, hc, hC⟩ := hk
  rw [h1] at e
  obtain rfl : cs = #[.int .i64 x.f0, .slice A x.f1.length c] := Array.toList_inj.1 (by rw [e, h0]; rfl)
  obtain ⟨k, h⟩ := Pure.RecordWrites a0 x.f0 x.f1 hG.2.2
  exact fairleadlaw14_RecordWrites.calls k _ _ _ _ x.f1 true _ hC hc h
end Go.Proofs.Ytejheopcipgmaaa.Top
