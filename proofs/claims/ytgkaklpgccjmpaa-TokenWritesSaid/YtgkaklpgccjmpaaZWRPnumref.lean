/- Lemmas for WR; a slim copy of this session's texts (slim.py). -/
import Derived.Test.YtgkaklpgccjmpaaZWRQ10
import Derived.Test.YtgkaklpgccjmpaaZWRQ11
import Derived.Test.YtgkaklpgccjmpaaZWRPnum
namespace Go.Proofs.Ytgkaklpgccjmpaa.Pn
open Go.RowKit Go.Proofs.Ytgkaklpgccjmpaa.Q Go.Proofs.YtgkaklpgccjmpaaW.PrintWords Go.Proofs.YtgkaklpgccjmpaaW.PrintLast Go.Proofs.YtgkaklpgccjmpaaW.PrintMore
set_option linter.unusedVariables false
set_option linter.unusedSimpArgs false
theorem ref_get_ev (l : List Int) (hb : Byt l) (hl : l.length ≤ 140737488355328) : ∀ (rest : List Int) (i : Nat) (a : Int), l.drop i = rest → Ev (fun k => fairleadref01_Get.l0 k l a (i : Int)) (beGet a rest)
  | [], i, a, h => by
    have := ge_of_nil h
    refine Ev.step (f := fun _ => some a) (fun k => ?_) (Ev.now _)
    simp only [fairleadref01_Get.l0]
    rw [if_neg (by omega)]
  | c :: rest, i, a, h => by
    have hlt := lt_of_cons h
    have hc := hb c (by have := List.mem_of_mem_drop (l := l) (i := i) (a := c) (by rw [h]; exact List.mem_cons_self); exact this)
    refine Ev.step (f := fun k => fairleadref01_Get.l0 k l ((a * 256 + c) % 18446744073709551616) ((i + 1 : Nat) : Int)) (fun k => ?_) (ref_get_ev l hb hl rest (i + 1) _ (drop_cons h))
    simp only [fairleadref01_Get.l0]
    rw [if_pos (by omega), if_pos (by omega), rd_cons h, w64 (by omega) (by omega)]
    simp only [wu64]
    rw [show (a * 256 % 18446744073709551616 + c % 18446744073709551616) % 18446744073709551616 = (a * 256 + c) % 18446744073709551616 by omega]
    rfl
theorem ref_Get_ev {l : List Int} (hb : Byt l) (hl : l.length ≤ 140737488355328) : Ev (fun k => fairleadref01_Get.f k l) (beGet 0 l) := ref_get_ev l hb hl l 0 0 rfl
theorem ref_put_ev (x : Int) : ∀ (i : Nat) (acc : List Int), i ≤ 8 → acc.length + i < 140737488355328 → Ev (fun k => fairleadref01_Put.l0 k x acc ((i : Int) - 1)) (acc ++ bePut x i)
  | 0, acc, _, _ => by
    refine Ev.step (f := fun _ => some (acc ++ bePut x 0)) (fun k => ?_) (Ev.now _)
    simp only [fairleadref01_Put.l0]
    rw [if_neg (by omega)]
    simp [bePut]
  | i + 1, acc, hi, ha => by
    have hv := ref_put_ev x i (acc ++ [(x / 256 ^ i) % 256]) (by omega) (by rw [List.length_append, List.length_singleton]; omega)
    rw [List.append_assoc] at hv
    refine Ev.step (fun k => ?_) hv
    simp only [fairleadref01_Put.l0]
    have e0 : ((i + 1 : Nat) : Int) - 1 = (i : Int) := by omega
    have e1 : IntKind.u64.wrap (wrap64 (8 * (i : Int))) = ((8 * i : Nat) : Int) := by rw [w64 (by omega) (by omega), wu64_id (by omega) (by omega)]; omega
    rw [e0, e1, if_pos (by omega), if_pos (by omega), if_pos (by omega), shr_pow x i (by omega), w64 (by omega) (by omega)]
theorem ref_Put_ev (x : Int) (n : Nat) (h0 : 1 ≤ n) (hn : n ≤ 8) : Ev (fun k => fairleadref01_Put.f k x (n : Int)) (bePut x n) := by
  have h := ref_put_ev x n [] hn (by simp; omega)
  refine Ev.congr (f := fun k => fairleadref01_Put.j0 k x (n : Int) []) (fun k => ?_) (Ev.step (fun k => ?_) h)
  · simp only [fairleadref01_Put.f]
    rw [if_neg (by omega)]
    by_cases h8 : (n : Int) > 8
    · omega
    · rw [if_neg h8]
  · simp only [fairleadref01_Put.j0]
    rw [w64 (by omega) (by omega)]
theorem ref_pad_ev (n : Nat) (hn : n ≤ 1099511627776) : ∀ (m j : Nat), m + j = padZ n → Ev (fun k => fairleadref07_Pad.l0 k (n : Int) (128 :: List.replicate j 0)) (padL n)
  | m, j, h => by
    have hz : padZ n < 64 := by unfold padZ; omega
    have e0 : Int.tmod (n : Int) 64 = ((n % 64 : Nat) : Int) := by rw [Int.tmod_eq_emod_of_nonneg (by omega)]; omega
    have hl : ((128 :: List.replicate j (0 : Int)).length : Int) = ((j + 1 : Nat) : Int) := by simp
    have e1 : wrap64 (wrap64 (((n % 64 : Nat) : Int) + ((j + 1 : Nat) : Int)) + 8) = ((n % 64 + j + 9 : Nat) : Int) := by
      rw [w64 (x := ((n % 64 : Nat) : Int) + _) (by omega) (by omega), w64 (by omega) (by omega)]; omega
    have e2 : Int.tmod ((n % 64 + j + 9 : Nat) : Int) 64 = (((n % 64 + j + 9) % 64 : Nat) : Int) := by rw [Int.tmod_eq_emod_of_nonneg (by omega)]; omega
    have e3 : IntKind.u64.wrap (8 * IntKind.u64.wrap (n : Int)) = (n : Int) * 8 := by rw [wu64_id (x := (n : Int)) (by omega) (by omega), wu64_id (by omega) (by omega)]; omega
    match m, h with
    | 0, h =>
      have hp := ref_Put_ev ((n : Int) * 8) 8 (by decide) (by decide)
      refine Ev.step (f := fun k => (fairleadref01_Put.f k ((n : Int) * 8) ((8 : Nat) : Int)).bind fun t => if (128 :: List.replicate j (0 : Int)).length + t.length < 140737488355328 then some (128 :: List.replicate j 0 ++ t) else none) (fun k => ?_) (Ev.bind hp ?_)
      · simp only [fairleadref07_Pad.l0, e0, hl, e1, e2, e3]
        rw [if_pos (by unfold padZ at h; omega)]
        rfl
      · rw [if_pos (by simp [bePut_len]; omega)]
        rw [show 128 :: List.replicate j (0 : Int) ++ bePut ((n : Int) * 8) 8 = padL n from by unfold padL; rw [← h, Nat.zero_add]]
        exact Ev.now _
    | m + 1, h =>
      have hv := ref_pad_ev n hn m (j + 1) (by omega)
      refine Ev.step (fun k => ?_) hv
      simp only [fairleadref07_Pad.l0, e0, hl, e1, e2, e3]
      rw [if_neg (by unfold padZ at h; omega), if_pos (by simp; omega)]
      rw [show 128 :: List.replicate j (0 : Int) ++ [0] = 128 :: List.replicate (j + 1) 0 from by rw [List.replicate_succ']; rfl]
theorem ref_Pad_ev (n : Nat) (hn : n ≤ 1099511627776) : Ev (fun k => fairleadref07_Pad.f k (n : Int)) (padL n) := by
  refine Ev.congr (fun k => ?_) (ref_pad_ev n hn (padZ n) 0 (by omega))
  simp only [fairleadref07_Pad.f]
  rw [if_neg (by omega)]
  rfl
end Go.Proofs.Ytgkaklpgccjmpaa.Pn
