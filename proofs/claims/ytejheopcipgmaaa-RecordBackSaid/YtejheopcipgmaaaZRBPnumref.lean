/- Lemmas for RB; a slim copy of this session's texts (slim.py). -/
import Derived.Test.YtejheopcipgmaaaZRBQ10
import Derived.Test.YtejheopcipgmaaaZRBQ5
import Derived.Test.YtejheopcipgmaaaZRBPnum
namespace Go.Proofs.Ytejheopcipgmaaa.Pn
open Go.RowKit Go.Proofs.Ytejheopcipgmaaa.Q Go.Proofs.YtejheopcipgmaaaW.PrintWords Go.Proofs.YtejheopcipgmaaaW.PrintLast Go.Proofs.YtejheopcipgmaaaW.PrintMore
set_option linter.unusedVariables false
set_option linter.unusedSimpArgs false
theorem ref_get_ev (l : List Int) (hb : Byt l) (hl : l.length ≤ 140737488355328) : ∀ (rest : List Int) (i : Nat) (a : Int), l.drop i = rest → Ev (fun k => fairleadref01_Get.l0 k l a (i : Int)) (beGet a rest)
  | [], i, a, h => by
    have := ge_of_nil h
    refine Ev.step (f := fun _ => some a) (fun k => ?_) (Ev.now _)
    simp only [fairleadref01_Get.l0]
    rw [if_neg (by omega)]
  | c :: rest, i, a, h => by
    have hlt := lt_of_cons h
    have hc := hb c (by have := List.mem_of_mem_drop (l := l) (i := i) (a := c) (by rw [h]; exact List.mem_cons_self); exact this)
    refine Ev.step (f := fun k => fairleadref01_Get.l0 k l ((a * 256 + c) % 18446744073709551616) ((i + 1 : Nat) : Int)) (fun k => ?_) (ref_get_ev l hb hl rest (i + 1) _ (drop_cons h))
    simp only [fairleadref01_Get.l0]
    rw [if_pos (by omega), if_pos (by omega), rd_cons h, w64 (by omega) (by omega)]
    simp only [wu64]
    rw [show (a * 256 % 18446744073709551616 + c % 18446744073709551616) % 18446744073709551616 = (a * 256 + c) % 18446744073709551616 by omega]
    rfl
theorem ref_Get_ev {l : List Int} (hb : Byt l) (hl : l.length ≤ 140737488355328) : Ev (fun k => fairleadref01_Get.f k l) (beGet 0 l) := ref_get_ev l hb hl l 0 0 rfl
theorem ref_put_ev (x : Int) : ∀ (i : Nat) (acc : List Int), i ≤ 8 → acc.length + i < 140737488355328 → Ev (fun k => fairleadref01_Put.l0 k x acc ((i : Int) - 1)) (acc ++ bePut x i)
  | 0, acc, _, _ => by
    refine Ev.step (f := fun _ => some (acc ++ bePut x 0)) (fun k => ?_) (Ev.now _)
    simp only [fairleadref01_Put.l0]
    rw [if_neg (by omega)]
    simp [bePut]
  | i + 1, acc, hi, ha => by
    have hv := ref_put_ev x i (acc ++ [(x / 256 ^ i) % 256]) (by omega) (by rw [List.length_append, List.length_singleton]; omega)
    rw [List.append_assoc] at hv
    refine Ev.step (fun k => ?_) hv
    simp only [fairleadref01_Put.l0]
    have e0 : ((i + 1 : Nat) : Int) - 1 = (i : Int) := by omega
    have e1 : IntKind.u64.wrap (wrap64 (8 * (i : Int))) = ((8 * i : Nat) : Int) := by rw [w64 (by omega) (by omega), wu64_id (by omega) (by omega)]; omega
    rw [e0, e1, if_pos (by omega), if_pos (by omega), if_pos (by omega), shr_pow x i (by omega), w64 (by omega) (by omega)]
theorem ref_Put_ev (x : Int) (n : Nat) (h0 : 1 ≤ n) (hn : n ≤ 8) : Ev (fun k => fairleadref01_Put.f k x (n : Int)) (bePut x n) := by
  have h := ref_put_ev x n [] hn (by simp; omega)
  refine Ev.congr (f := fun k => fairleadref01_Put.j0 k x (n : Int) []) (fun k => ?_) (Ev.step (fun k => ?_) h)
  · simp only [fairleadref01_Put.f]
    rw [if_neg (by omega)]
    by_cases h8 : (n : Int) > 8
    · omega
    · rw [if_neg h8]
  · simp only [fairleadref01_Put.j0]
    rw [w64 (by omega) (by omega)]
end Go.Proofs.Ytejheopcipgmaaa.Pn
