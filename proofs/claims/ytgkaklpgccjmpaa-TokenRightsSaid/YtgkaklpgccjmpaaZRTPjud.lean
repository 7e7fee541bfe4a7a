/- Lemmas for RT; a slim copy of this session's texts (slim.py). -/
import Derived.Test.YtgkaklpgccjmpaaZRTQ0
import Derived.Test.YtgkaklpgccjmpaaZRTQ7
import Derived.Test.YtgkaklpgccjmpaaZRTQ15
import Derived.Test.YtgkaklpgccjmpaaZRTPnum
import Derived.Test.YtgkaklpgccjmpaaZRTPhmac
import Derived.Test.YtgkaklpgccjmpaaZRTPsum
import Derived.Test.YtgkaklpgccjmpaaZRTQ2
import Derived.Test.YtgkaklpgccjmpaaZRTQ3
import Derived.Lib.Bytes
import Derived.Test.YtgkaklpgccjmpaaZRTPver
import Derived.Test.YtgkaklpgccjmpaaZRTPtok
namespace Go.Proofs.Ytgkaklpgccjmpaa.Pk
open Go.RowKit Go.Proofs.Ytgkaklpgccjmpaa.Q Go.Proofs.YtgkaklpgccjmpaaW.PrintWords Go.Proofs.YtgkaklpgccjmpaaW.PrintLast Go.Proofs.YtgkaklpgccjmpaaW.PrintMore Go.Proofs.Ytgkaklpgccjmpaa.Ph Go.Proofs.Ytgkaklpgccjmpaa.Pn
set_option linter.unusedVariables false
set_option linter.unusedSimpArgs false
def judgeV (key b : List Int) (a2 a3 a4 a5 : Int) : Int := if okR b = true then (if rf b 0 = a2 then token_judge.code (rf b 1) (rg b 2 10) (rg b 10 18) a3 a4 a5 (decide (b.drop 18 = tagL key (b.take 18))) else 2) else 1
theorem token_Judge_ev (key b : List Int) (hk : Byt key) (hkl : key.length ≤ 140737488355000) (hb : Byt b) (a2 a3 a4 a5 : Int) : Ev (fun k => token_Judge.f k key b a2 a3 a4 a5) (judgeV key b a2 a3 a4 a5) := by
  unfold token_Judge.f token_judge.f judgeV
  refine Ev.bind (token_Read_ev b hb) ?_
  unfold readV
  by_cases h : okR b = true
  · have hl := okR_len h
    simp only [if_pos h, if_true, eq_true (show 18 ≤ b.length by omega)]
    by_cases h1 : rf b 0 = a2
    · simp only [if_pos h1]
      refine Ev.bind (verify_ev key (b.drop 18) (b.take 18) hk hkl (hb.take 18) (by rw [List.length_take]; omega)) ?_
      exact Ev.now _
    · simp only [if_neg h1]
      exact Ev.now _
  · simp only [if_neg h]
    exact Ev.now _
theorem and_nn : ∀ n : Fin 256, 0 ≤ Go.bits .and .i64 (n.val : Int) 1 ∧ 0 ≤ Go.bits .and .i64 (n.val : Int) 2 ∧ 0 ≤ Go.bits .and .i64 (n.val : Int) 4 ∧ 0 ≤ Go.bits .and .i64 (n.val : Int) 8 := by decide +kernel
theorem and_pos {t r : Int} (h0 : 0 ≤ t) (h1 : t ≤ 255) (hr : r = 1 ∨ r = 2 ∨ r = 4 ∨ r = 8) : 0 ≤ Go.bits .and .i64 t r := by
  obtain ⟨n, rfl⟩ := Int.eq_ofNat_of_zero_le h0
  have h := and_nn ⟨n, by omega⟩
  rcases hr with rfl | rfl | rfl | rfl
  · exact h.1
  · exact h.2.1
  · exact h.2.2.1
  · exact h.2.2.2
theorem mint_read {t1 t2 t3 t4 : Int} {T : List Int} (h : okT t1 t2 t3 t4 = true) (hT : T.length = 32) :
    okR (bodyL t1 t2 t3 t4 ++ T) = true ∧ rf (bodyL t1 t2 t3 t4 ++ T) 0 = t1 ∧ rf (bodyL t1 t2 t3 t4 ++ T) 1 = t2 ∧ rg (bodyL t1 t2 t3 t4 ++ T) 2 10 = t3 ∧ rg (bodyL t1 t2 t3 t4 ++ T) 10 18 = t4 ∧ (bodyL t1 t2 t3 t4 ++ T).drop 18 = T ∧ (bodyL t1 t2 t3 t4 ++ T).take 18 = bodyL t1 t2 t3 t4 := by
  have ho := h
  unfold okT at ho
  have ho := of_decide_eq_true ho
  have hl := bodyL_len t1 t2 t3 t4
  have e0 : rf (bodyL t1 t2 t3 t4 ++ T) 0 = t1 := by
    show wrap64 (t1 % 256) = t1
    rw [w64 (by omega) (by omega)]; omega
  have e1 : rf (bodyL t1 t2 t3 t4 ++ T) 1 = t2 := by
    show wrap64 (t2 % 256) = t2
    rw [w64 (by omega) (by omega)]; omega
  have l3 := bePut_len (IntKind.u64.wrap t3) 8
  have l4 := bePut_len (IntKind.u64.wrap t4) 8
  have hx : bodyL t1 t2 t3 t4 ++ T = [t1 % 256, t2 % 256] ++ (bePut (IntKind.u64.wrap t3) 8 ++ (bePut (IntKind.u64.wrap t4) 8 ++ T)) := by simp [bodyL]
  have g1 : ((bodyL t1 t2 t3 t4 ++ T).take 10).drop 2 = bePut (IntKind.u64.wrap t3) 8 := by
    rw [hx]
    show ((t1 % 256) :: (t2 % 256) :: (bePut (IntKind.u64.wrap t3) 8 ++ (bePut (IntKind.u64.wrap t4) 8 ++ T)).take 8).drop 2 = _
    rw [List.take_append_of_le_length (by omega), List.take_of_length_le (by omega)]
    rfl
  have g2 : ((bodyL t1 t2 t3 t4 ++ T).take 18).drop 10 = bePut (IntKind.u64.wrap t4) 8 := by
    rw [List.take_append_of_le_length (by omega), List.take_of_length_le (by omega)]
    show (([t1 % 256, t2 % 256] ++ bePut (IntKind.u64.wrap t3) 8) ++ bePut (IntKind.u64.wrap t4) 8).drop 10 = _
    rw [List.drop_append_of_le_length (by simp [l3]), List.drop_of_length_le (by simp [l3])]
    rfl
  have e2 : rg (bodyL t1 t2 t3 t4 ++ T) 2 10 = t3 := by
    unfold rg
    rw [g1, beGet_put8, wu64, w64 (by omega) (by omega)]
    omega
  have e3 : rg (bodyL t1 t2 t3 t4 ++ T) 10 18 = t4 := by
    unfold rg
    rw [g2, beGet_put8, wu64, w64 (by omega) (by omega)]
    omega
  refine ⟨?_, e0, e1, e2, e3, ?_, ?_⟩
  · unfold okR
    rw [e0, e1, e2, e3, h, decide_eq_true (by rw [List.length_append]; omega)]
    rfl
  · rw [List.drop_append_of_le_length (by omega), List.drop_of_length_le (by omega)]
    rfl
  · rw [List.take_append_of_le_length (by omega), List.take_of_length_le (by omega)]
theorem judge_minted {key : List Int} {t1 t2 t3 t4 : Int} {T : List Int} (h : okT t1 t2 t3 t4 = true) (hT : T.length = 32) (right now : Int) :
    judgeV key (bodyL t1 t2 t3 t4 ++ T) t1 right now t4 = token_judge.code t2 t3 t4 right now t4 (decide (T = tagL key (bodyL t1 t2 t3 t4))) := by
  obtain ⟨h0, h1, h2, h3, h4, h5, h6⟩ := mint_read h hT
  unfold judgeV
  rw [if_pos h0, h1, if_pos rfl, h2, h3, h4, h5, h6]
end Go.Proofs.Ytgkaklpgccjmpaa.Pk
