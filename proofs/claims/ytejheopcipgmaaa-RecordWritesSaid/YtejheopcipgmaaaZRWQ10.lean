/- Lemmas for RW; a slim copy of this session's texts (slim.py). -/
import Derived.Test.YtejheopcipgmaaaZRWQ0
import Derived.Test.YtejheopcipgmaaaZRWQ3
namespace Go.Proofs.Ytejheopcipgmaaa.Q
open Go.RowKit Go.Proofs.YtejheopcipgmaaaW.PrintWords Go.Proofs.YtejheopcipgmaaaW.PrintLast Go.Proofs.YtejheopcipgmaaaW.PrintMore
attribute [local go_sem] max2_int min2_int max_two min_two max_three min_three max_four min_four   
set_option linter.unusedVariables false
set_option linter.unusedSimpArgs false
theorem record_next.range_j {k : Nat} {a0 : Int} {l1 : List Int} {x : Int} {b : Bool} {r1 : Int} {r2 : List Int} {r3 r4 : Int} (h : record_next.j0 k a0 l1 x b = some (r1, r2, r3, r4)) : r4 = 0 ∨ r4 = 30 ∨ r4 = 140 := by
  cases k with
  | zero => simp [record_next.j0] at h
  | succ k =>
    rw [record_next.j0] at h
    repeat' (first | (split at h) | (rw [Option.bind_eq_some_iff] at h; obtain ⟨_, _, h⟩ := h))
    all_goals first | (simp only [Option.some.injEq, Prod.mk.injEq] at h; omega) | (simp at h; done)
theorem record_next.range {k : Nat} {a0 : Int} {l1 : List Int} {r1 : Int} {r2 : List Int} {r3 r4 : Int} (h : record_next.f k a0 l1 = some (r1, r2, r3, r4)) : r4 = 0 ∨ r4 = 30 ∨ r4 = 140 := by
  unfold record_next.f at h
  repeat' (first | (exact record_next.range_j h) | (split at h) | (rw [Option.bind_eq_some_iff] at h; obtain ⟨_, _, h⟩ := h))
  all_goals first | (simp only [Option.some.injEq, Prod.mk.injEq] at h; omega) | (simp at h; done)
end Go.Proofs.Ytejheopcipgmaaa.Q
