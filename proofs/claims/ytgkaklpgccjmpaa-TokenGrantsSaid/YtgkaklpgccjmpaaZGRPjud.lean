/- Lemmas for GR; a slim copy of this session's texts (slim.py). -/
import Derived.Test.YtgkaklpgccjmpaaZGRQ0
import Derived.Test.YtgkaklpgccjmpaaZGRQ7
import Derived.Test.YtgkaklpgccjmpaaZGRQ14
import Derived.Test.YtgkaklpgccjmpaaZGRQ15
import Derived.Test.YtgkaklpgccjmpaaZGRPnum
import Derived.Test.YtgkaklpgccjmpaaZGRPhmac
import Derived.Test.YtgkaklpgccjmpaaZGRPsum
import Derived.Test.YtgkaklpgccjmpaaZGRQ2
import Derived.Test.YtgkaklpgccjmpaaZGRQ3
import Derived.Test.YtgkaklpgccjmpaaZGRPsame
import Derived.Test.YtgkaklpgccjmpaaZGRPver
import Derived.Test.YtgkaklpgccjmpaaZGRPtok
namespace Go.Proofs.Ytgkaklpgccjmpaa.Pk
open Go.RowKit Go.Proofs.Ytgkaklpgccjmpaa.Q Go.Proofs.YtgkaklpgccjmpaaW.PrintWords Go.Proofs.YtgkaklpgccjmpaaW.PrintLast Go.Proofs.YtgkaklpgccjmpaaW.PrintMore Go.Proofs.Ytgkaklpgccjmpaa.Ph Go.Proofs.Ytgkaklpgccjmpaa.Pn
set_option linter.unusedVariables false
set_option linter.unusedSimpArgs false
def judgeV (key b : List Int) (a2 a3 a4 a5 : Int) : Int := if okR b = true then (if rf b 0 = a2 then token_judge.code (rf b 1) (rg b 2 10) (rg b 10 18) a3 a4 a5 (decide (b.drop 18 = tagL key (b.take 18))) else 2) else 1
theorem token_Judge_ev (key b : List Int) (hk : Byt key) (hkl : key.length ≤ 140737488355000) (hb : Byt b) (a2 a3 a4 a5 : Int) : Ev (fun k => token_Judge.f k key b a2 a3 a4 a5) (judgeV key b a2 a3 a4 a5) := by
  unfold token_Judge.f token_judge.f judgeV
  refine Ev.bind (token_Read_ev b hb) ?_
  unfold readV
  by_cases h : okR b = true
  · have hl := okR_len h
    simp only [if_pos h, if_true, eq_true (show 18 ≤ b.length by omega)]
    by_cases h1 : rf b 0 = a2
    · simp only [if_pos h1]
      refine Ev.bind (verify_ev key (b.drop 18) (b.take 18) hk hkl (hb.take 18) (by rw [List.length_take]; omega)) ?_
      exact Ev.now _
    · simp only [if_neg h1]
      exact Ev.now _
  · simp only [if_neg h]
    exact Ev.now _
theorem and_nn : ∀ n : Fin 256, 0 ≤ Go.bits .and .i64 (n.val : Int) 1 ∧ 0 ≤ Go.bits .and .i64 (n.val : Int) 2 ∧ 0 ≤ Go.bits .and .i64 (n.val : Int) 4 ∧ 0 ≤ Go.bits .and .i64 (n.val : Int) 8 := by decide +kernel
theorem and_pos {t r : Int} (h0 : 0 ≤ t) (h1 : t ≤ 255) (hr : r = 1 ∨ r = 2 ∨ r = 4 ∨ r = 8) : 0 ≤ Go.bits .and .i64 t r := by
  obtain ⟨n, rfl⟩ := Int.eq_ofNat_of_zero_le h0
  have h := and_nn ⟨n, by omega⟩
  rcases hr with rfl | rfl | rfl | rfl
  · exact h.1
  · exact h.2.1
  · exact h.2.2.1
  · exact h.2.2.2
end Go.Proofs.Ytgkaklpgccjmpaa.Pk
