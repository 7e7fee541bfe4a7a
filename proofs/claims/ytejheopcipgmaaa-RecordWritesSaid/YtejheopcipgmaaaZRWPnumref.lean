/- Lemmas for RW; a slim copy of this session's texts (slim.py). -/
import Derived.Test.YtejheopcipgmaaaZRWQ10
import Derived.Test.YtejheopcipgmaaaZRWQ5
import Derived.Test.YtejheopcipgmaaaZRWPnum
namespace Go.Proofs.Ytejheopcipgmaaa.Pn
open Go.RowKit Go.Proofs.Ytejheopcipgmaaa.Q Go.Proofs.YtejheopcipgmaaaW.PrintWords Go.Proofs.YtejheopcipgmaaaW.PrintLast Go.Proofs.YtejheopcipgmaaaW.PrintMore
set_option linter.unusedVariables false
set_option linter.unusedSimpArgs false
theorem ref_put_ev (x : Int) : ∀ (i : Nat) (acc : List Int), i ≤ 8 → acc.length + i < 140737488355328 → Ev (fun k => fairleadref01_Put.l0 k x acc ((i : Int) - 1)) (acc ++ bePut x i)
  | 0, acc, _, _ => by
    refine Ev.step (f := fun _ => some (acc ++ bePut x 0)) (fun k => ?_) (Ev.now _)
    simp only [fairleadref01_Put.l0]
    rw [if_neg (by omega)]
    simp [bePut]
  | i + 1, acc, hi, ha => by
    have hv := ref_put_ev x i (acc ++ [(x / 256 ^ i) % 256]) (by omega) (by rw [List.length_append, List.length_singleton]; omega)
    rw [List.append_assoc] at hv
    refine Ev.step (fun k => ?_) hv
    simp only [fairleadref01_Put.l0]
    have e0 : ((i + 1 : Nat) : Int) - 1 = (i : Int) := by omega
    have e1 : IntKind.u64.wrap (wrap64 (8 * (i : Int))) = ((8 * i : Nat) : Int) := by rw [w64 (by omega) (by omega), wu64_id (by omega) (by omega)]; omega
    rw [e0, e1, if_pos (by omega), if_pos (by omega), if_pos (by omega), shr_pow x i (by omega), w64 (by omega) (by omega)]
theorem ref_Put_ev (x : Int) (n : Nat) (h0 : 1 ≤ n) (hn : n ≤ 8) : Ev (fun k => fairleadref01_Put.f k x (n : Int)) (bePut x n) := by
  have h := ref_put_ev x n [] hn (by simp; omega)
  refine Ev.congr (f := fun k => fairleadref01_Put.j0 k x (n : Int) []) (fun k => ?_) (Ev.step (fun k => ?_) h)
  · simp only [fairleadref01_Put.f]
    rw [if_neg (by omega)]
    by_cases h8 : (n : Int) > 8
    · omega
    · rw [if_neg h8]
  · simp only [fairleadref01_Put.j0]
    rw [w64 (by omega) (by omega)]
end Go.Proofs.Ytejheopcipgmaaa.Pn
