/- Lemmas for WR; a slim copy of this session's texts (slim.py). -/
import Derived.Test.YtgkaklpgccjmpaaZWROpn
import Derived.Test.YtgkaklpgccjmpaaZWRQ0
namespace Go.Proofs.Ytgkaklpgccjmpaa.OpnT
open Go.RowKit Go.Proofs.YtgkaklpgccjmpaaW.PrintWords Go.Proofs.Ytgkaklpgccjmpaa.Opn Go.Proofs.Ytgkaklpgccjmpaa.Q
theorem opnBytes : Opn Try.prog (Kd.slice 5 (Kd.int .u8)) 22 (fun l => l.length ≤ maxLen ∧ ∀ v ∈ l, (Lit.int .u8 v).wf = true) := opn_slice Try.underlying22 (by kernel_rfl) (opn_int Try.underlying5)
theorem opnToken : Opn Try.prog k24 24 (fun x => (Lit.int .i64 x.f0).wf = true ∧ (Lit.int .i64 x.f1).wf = true ∧ (Lit.int .i64 x.f2).wf = true ∧ (Lit.int .i64 x.f3).wf = true) :=
  opn_iso (g := fun y => ⟨y.1, y.2.1, y.2.2.1, y.2.2.2⟩) (opn_struct Try.underlying24 (by kernel_rfl) (opnAt_pair (opn_int Try.underlying3) (by kernel_rfl) rfl (opnAt_pair (opn_int Try.underlying3) (by kernel_rfl) rfl (opnAt_pair (opn_int Try.underlying3) (by kernel_rfl) rfl (opnAt_one (opn_int Try.underlying3) (by kernel_rfl) rfl) rfl) rfl) rfl)) _ (fun _ => rfl)
end Go.Proofs.Ytgkaklpgccjmpaa.OpnT
