/- Lemmas for RT; a slim copy of this session's texts (slim.py). -/
import Derived.Test.YtejheopcipgmaaaZRTOpn
import Derived.Test.YtejheopcipgmaaaZRTQ0
namespace Go.Proofs.Ytejheopcipgmaaa.OpnT
open Go.RowKit Go.Proofs.YtejheopcipgmaaaW.PrintWords Go.Proofs.Ytejheopcipgmaaa.Opn Go.Proofs.Ytejheopcipgmaaa.Q
theorem opnBytes : Opn Try.prog (Kd.slice 5 (Kd.int .u8)) 23 (fun l => l.length ≤ maxLen ∧ ∀ v ∈ l, (Lit.int .u8 v).wf = true) := opn_slice Try.underlying23 (by kernel_rfl) (opn_int Try.underlying5)
theorem opnRec : Opn Try.prog k25 25 (fun x => (Lit.int .i64 x.f0).wf = true ∧ (x.f1.length ≤ maxLen ∧ ∀ v ∈ x.f1, (Lit.int .u8 v).wf = true)) :=
  opn_iso (g := fun y => ⟨y.1, y.2⟩) (opn_struct Try.underlying25 (by kernel_rfl) (opnAt_pair (opn_int Try.underlying3) (by kernel_rfl) rfl (opnAt_one opnBytes (by kernel_rfl) rfl) rfl)) _ (fun _ => rfl)
end Go.Proofs.Ytejheopcipgmaaa.OpnT
