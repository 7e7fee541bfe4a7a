/- Lemmas for RB; a slim copy of this session's texts (slim.py). -/
import Derived.Test.YtejheopcipgmaaaZRBQ9
import Derived.Test.YtejheopcipgmaaaZRBPnum
import Derived.Test.YtejheopcipgmaaaZRBPrec
import Derived.Test.YtejheopcipgmaaaZRBPureRecordBack
namespace Go.Proofs.Ytejheopcipgmaaa.Top
open Go.RowKit Go.Proofs.Ytejheopcipgmaaa.Q Go.Proofs.YtejheopcipgmaaaW.PrintWords Go.Proofs.YtejheopcipgmaaaW.PrintLast Go.Proofs.YtejheopcipgmaaaW.PrintMore Go.Proofs.Ytejheopcipgmaaa.Pn Go.Proofs.Ytejheopcipgmaaa.Pr Go.Proofs.Ytejheopcipgmaaa.Pure
set_option linter.unusedVariables false
set_option linter.unusedSimpArgs false
theorem RecordBack (w : World) (a0 : Int) (w0 : (Lit.int .u64 a0).wf = true) (A1 : Option Addr) (c1 : Nat) (l1 : List S25) (hr1 : Kd.C k25 w A1 l1.length l1) (hc1 : l1.length ≤ c1) (_ : l1.length ≤ maxLen) (hw1 : ∀ x ∈ l1, (Lit.int .i64 x.f0).wf = true ∧ (x.f1.length ≤ maxLen ∧ ∀ v ∈ x.f1, (Lit.int .u8 v).wf = true)) (y1 : l1.length * 32 ≤ 140737488351232) (a2 : Int) (w2 : (Lit.int .i64 a2).wf = true) :
    Calls Try.prog 4 #[.int .u64 a0, .slice A1 l1.length c1, .int .i64 a2] w fun e w' => e = .returned (.bool true) ∧ Below w.heap.size w w' := by
  obtain ⟨k, h⟩ := Pure.RecordBack a0 l1 a2 (fun x hx => Byt.of_wf (hw1 x hx).2.2)
  exact fairleadlaw14_RecordBack.calls k _ _ _ l1 _ true _ hr1 hc1 h
end Go.Proofs.Ytejheopcipgmaaa.Top
