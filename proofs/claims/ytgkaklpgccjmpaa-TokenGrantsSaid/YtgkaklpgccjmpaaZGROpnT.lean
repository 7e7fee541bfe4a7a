/- Lemmas for GR; a slim copy of this session's texts (slim.py). -/
import Derived.Test.YtgkaklpgccjmpaaZGROpn
import Derived.Test.YtgkaklpgccjmpaaZGRQ0
namespace Go.Proofs.Ytgkaklpgccjmpaa.OpnT
open Go.RowKit Go.Proofs.YtgkaklpgccjmpaaW.PrintWords Go.Proofs.Ytgkaklpgccjmpaa.Opn Go.Proofs.Ytgkaklpgccjmpaa.Q
theorem opnBytes : Opn Try.prog (Kd.slice 5 (Kd.int .u8)) 22 (fun l => l.length ≤ maxLen ∧ ∀ v ∈ l, (Lit.int .u8 v).wf = true) := opn_slice Try.underlying22 (by kernel_rfl) (opn_int Try.underlying5)
end Go.Proofs.Ytgkaklpgccjmpaa.OpnT
