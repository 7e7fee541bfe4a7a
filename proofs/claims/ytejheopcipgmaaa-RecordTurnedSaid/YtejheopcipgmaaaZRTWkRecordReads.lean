/- Lemmas for RT; a slim copy of this session's texts (slim.py). -/
import Derived.Test.YtejheopcipgmaaaZRTQ10
import Derived.Test.YtejheopcipgmaaaZRTQ0
import Derived.Test.YtejheopcipgmaaaZRTQ2
import Derived.Test.YtejheopcipgmaaaZRTQ6
import Derived.Test.YtejheopcipgmaaaZRTQ4
import Derived.Test.YtejheopcipgmaaaZRTQ8
namespace Go.Proofs.Ytejheopcipgmaaa.Wk
open Go.RowKit Go.Proofs.Ytejheopcipgmaaa.Q Go.Proofs.YtejheopcipgmaaaW.PrintWords Go.Proofs.YtejheopcipgmaaaW.PrintLast Go.Proofs.YtejheopcipgmaaaW.PrintMore
set_option linter.unusedVariables false
set_option linter.unusedSimpArgs false
theorem q_row1 {α : Type} {d : Kd α} {W : World} {g : Nat} {t : TypeId} {x : α} {cs : List Value} (h : W.heap[g]? = some (.cells cs.toArray t (0, 0))) (hK : d.K W x cs) : d.C W (some ⟨g, 0, none⟩) 1 [x] := by
  refine ⟨rfl, by decide, fun _ => ⟨_, rfl, fun j p hj => ?_⟩⟩
  have hj0 : j = 0 := by
    have := (List.getElem?_eq_some_iff.1 hj).1
    simp at this
    exact this
  subst hj0
  obtain rfl : x = p := by simpa using hj
  refine ⟨cs, d.K_len hK, hK, fun i u hu => ?_⟩
  rw [Nat.zero_mul, Nat.zero_add, q_add, blk_cell h i]
  simpa using hu
end Go.Proofs.Ytejheopcipgmaaa.Wk
