/- Lemmas for WR; a slim copy of this session's texts (slim.py). -/
import Derived.Test.YtgkaklpgccjmpaaZWRQ10
import Derived.Test.YtgkaklpgccjmpaaZWRQ14
import Derived.Test.YtgkaklpgccjmpaaZWRPnum
import Derived.Test.YtgkaklpgccjmpaaZWRPnumref
import Derived.Test.YtgkaklpgccjmpaaZWRPsha
import Derived.Test.YtgkaklpgccjmpaaZWRPsum
namespace Go.Proofs.Ytgkaklpgccjmpaa.Pn
open Go.RowKit Go.Proofs.Ytgkaklpgccjmpaa.Q Go.Proofs.YtgkaklpgccjmpaaW.PrintWords Go.Proofs.YtgkaklpgccjmpaaW.PrintLast Go.Proofs.YtgkaklpgccjmpaaW.PrintMore
set_option linter.unusedVariables false
set_option linter.unusedSimpArgs false
theorem rsum1_ev (w : List Int) (hw : W32 w) (h8 : w.length = 8) : ∀ (rest : List Int) (i : Nat) (acc : List Int), w.drop i = rest → i ≤ 8 → acc.length + 4 * rest.length ≤ 1000 → Ev (fun k => fairleadref07_Sum.l1 k w acc (i : Int)) (acc ++ outW rest)
  | [], i, acc, h, hi, _ => by
    have := ge_of_nil h
    refine Ev.step (f := fun _ => some (acc ++ outW [])) (fun k => ?_) (Ev.now _)
    rw [fairleadref07_Sum.l1, if_neg (by omega)]
    simp [outW]
  | c :: rest, i, acc, h, hi, ha => by
    have hlt := lt_of_cons h
    have hc := hw c (mem_rd h)
    rw [List.length_cons] at ha
    have hv := rsum1_ev w hw h8 rest (i + 1) (acc ++ bePut c 4) (drop_cons h) (by omega) (by rw [List.length_append, bePut_len]; omega)
    have hp := ref_Put_ev c 4 (by decide) (by decide)
    refine Ev.step (f := fun k => (fairleadref01_Put.f k c ((4 : Nat) : Int)).bind fun t => if acc.length + t.length < 140737488355328 then fairleadref07_Sum.l1 k w (acc ++ t) ((i + 1 : Nat) : Int) else none) (fun k => ?_) (Ev.bind hp ?_)
    · rw [fairleadref07_Sum.l1, if_pos (by omega), if_pos (by omega), if_pos (by omega), rd_cons h, wu64_id (by omega) (by omega), w64 (by omega) (by omega)]
      rfl
    · simp only [bePut_len, eq_true (show acc.length + 4 < 140737488355328 by omega), if_true]
      rw [show acc ++ outW (c :: rest) = acc ++ bePut c 4 ++ outW rest from by rw [outW, List.append_assoc]]
      exact hv
theorem rsum0_ev (all : List Int) (hb : Byt all) (hl : all.length ≤ 2000000000) : ∀ (m j : Nat) (s : List Int), all.length = 64 * (m + j) → s.length = 8 → W32 s → Ev (fun k => fairleadref07_Sum.l0 k all s ((64 * j : Nat) : Int)) (outW (sumM m s (all.drop (64 * j))))
  | 0, j, s, h, h8, hs => by
    have hv := rsum1_ev s hs h8 s 0 [] rfl (by decide) (by simp; omega)
    rw [List.nil_append] at hv
    refine Ev.step (fun k => ?_) hv
    rw [fairleadref07_Sum.l0, if_neg (by omega)]
    rfl
  | m + 1, j, s, h, h8, hs => by
    have hv := rsum0_ev all hb hl m (j + 1) (sha_block s ((all.drop (64 * j)).take 64)) (by omega) (sha_block_len _ _) (sha_block_w32 _ _)
    have e : all.drop (64 * (j + 1)) = (all.drop (64 * j)).drop 64 := by rw [List.drop_drop, Nat.mul_add]
    rw [e] at hv
    have hB := ref_Block_ev (x0 := s) (b := (all.drop (64 * j)).take 64) h8 ((hb.drop _).take _) (by rw [List.length_take, List.length_drop]; omega)
    have e2 : wrap64 (((64 * j : Nat) : Int) + 64) = ((64 * (j + 1) : Nat) : Int) := by rw [w64 (by omega) (by omega)]; omega
    have e3 : (all.take (64 * (j + 1))).drop (64 * j) = (all.drop (64 * j)).take 64 := by rw [List.drop_take, Nat.mul_add, Nat.add_sub_cancel_left]
    refine Ev.step (f := fun k => (fairleadref07_Block.f k s ((all.drop (64 * j)).take 64)).bind fun t => fairleadref07_Sum.l0 k all t ((64 * (j + 1) : Nat) : Int)) (fun k => ?_) (Ev.bind hB hv)
    rw [fairleadref07_Sum.l0, e2, if_pos (by omega), if_pos (by omega), if_pos (by omega), if_pos (by omega), Int.toNat_natCast, Int.toNat_natCast, e3]
theorem ref_Sum_ev (t : List Int) (hb : Byt t) (hl : t.length ≤ 1000000000) : Ev (fun k => fairleadref07_Sum.f k t) (shaL t) := by
  have hw := pad_whole t.length
  have hz : padZ t.length < 64 := by unfold padZ; omega
  have hpl := padL_len t.length
  have h0 := rsum0_ev (t ++ padL t.length) (hb.app (padL_byt _)) (by rw [List.length_append]; omega) ((t.length + (padL t.length).length) / 64) 0 shaFirst (by rw [List.length_append]; omega) rfl shaFirst_w32
  refine Ev.congr (f := fun k => (fairleadref07_Pad.f k (t.length : Int)).bind fun p => if ([] ++ t : List Int).length + p.length < 140737488355328 then (fairleadref07_First.f).bind fun u => fairleadref07_Sum.l0 k ([] ++ t ++ p) u 0 else none) (fun k => ?_) (Ev.bind (ref_Pad_ev t.length (by omega)) ?_)
  · simp only [fairleadref07_Sum.f, Option.bind_some, List.length_nil, Nat.zero_add]
    rw [if_pos (by omega)]
  · have e : fairleadref07_First.f = some shaFirst := rfl
    simp only [List.nil_append, eq_true (show t.length + (padL t.length).length < 140737488355328 by omega), if_true, e, Option.bind_some]
    exact h0
end Go.Proofs.Ytgkaklpgccjmpaa.Pn
