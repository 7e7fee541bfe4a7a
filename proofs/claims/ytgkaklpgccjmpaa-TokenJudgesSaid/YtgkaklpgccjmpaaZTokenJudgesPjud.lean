/- Lemmas for TokenJudges; a slim copy of this session's texts (slim.py). -/
import Derived.Test.YtgkaklpgccjmpaaZTokenJudgesQ16
import Derived.Test.YtgkaklpgccjmpaaZTokenJudgesQ7
import Derived.Test.YtgkaklpgccjmpaaZTokenJudgesPnum
import Derived.Test.YtgkaklpgccjmpaaZTokenJudgesPnumref
import Derived.Test.YtgkaklpgccjmpaaZTokenJudgesPhmac
import Derived.Test.YtgkaklpgccjmpaaZTokenJudgesPhref
import Derived.Test.YtgkaklpgccjmpaaZTokenJudgesPsame
import Derived.Test.YtgkaklpgccjmpaaZTokenJudgesPver
import Derived.Test.YtgkaklpgccjmpaaZTokenJudgesPtok
namespace Go.Proofs.Ytgkaklpgccjmpaa.Pk
open Go.RowKit Go.Proofs.Ytgkaklpgccjmpaa.Q Go.Proofs.YtgkaklpgccjmpaaW.PrintWords Go.Proofs.YtgkaklpgccjmpaaW.PrintLast Go.Proofs.YtgkaklpgccjmpaaW.PrintMore Go.Proofs.Ytgkaklpgccjmpaa.Ph Go.Proofs.Ytgkaklpgccjmpaa.Pn
set_option linter.unusedVariables false
set_option linter.unusedSimpArgs false
def judgeV (key b : List Int) (a2 a3 a4 a5 : Int) : Int := if okR b = true then (if rf b 0 = a2 then token_judge.code (rf b 1) (rg b 2 10) (rg b 10 18) a3 a4 a5 (decide (b.drop 18 = tagL key (b.take 18))) else 2) else 1
theorem token_Judge_ev (key b : List Int) (hk : Byt key) (hkl : key.length ≤ 100000000) (hb : Byt b) (a2 a3 a4 a5 : Int) : Ev (fun k => token_Judge.f k key b a2 a3 a4 a5) (judgeV key b a2 a3 a4 a5) := by
  unfold token_Judge.f token_judge.f judgeV
  refine Ev.bind (token_Read_ev b hb) ?_
  unfold readV
  by_cases h : okR b = true
  · have hl := okR_len h
    simp only [if_pos h, if_true, eq_true (show 18 ≤ b.length by omega)]
    by_cases h1 : rf b 0 = a2
    · simp only [if_pos h1]
      refine Ev.bind (verify_ev key (b.drop 18) (b.take 18) hk hkl (hb.take 18) (by rw [List.length_take]; omega)) ?_
      exact Ev.now _
    · simp only [if_neg h1]
      exact Ev.now _
  · simp only [if_neg h]
    exact Ev.now _
theorem rverify_ev (key t text : List Int) (hb : Byt key) (hl : key.length ≤ 100000000) (hbt : Byt t) (ht : Byt text) (htl : text.length ≤ 100000000) : Ev (fun k => fairleadref08_Verify.f k key t text) (decide (t = tagL key text)) := by
  unfold fairleadref08_Verify.f
  refine Ev.bind (ref_Tag_ev key text hb hl ht htl) ?_
  simp only [Same_f (tagL_byt _ _) hbt, Option.bind_some]
  rw [decide_eq_decide.2 (show t = tagL key text ↔ tagL key text = t from ⟨Eq.symm, Eq.symm⟩)]
  exact Ev.now _
theorem and_nn : ∀ n : Fin 256, 0 ≤ Go.bits .and .i64 (n.val : Int) 1 ∧ 0 ≤ Go.bits .and .i64 (n.val : Int) 2 ∧ 0 ≤ Go.bits .and .i64 (n.val : Int) 4 ∧ 0 ≤ Go.bits .and .i64 (n.val : Int) 8 := by decide +kernel
theorem and_pos {t r : Int} (h0 : 0 ≤ t) (h1 : t ≤ 255) (hr : r = 1 ∨ r = 2 ∨ r = 4 ∨ r = 8) : 0 ≤ Go.bits .and .i64 t r := by
  obtain ⟨n, rfl⟩ := Int.eq_ofNat_of_zero_le h0
  have h := and_nn ⟨n, by omega⟩
  rcases hr with rfl | rfl | rfl | rfl
  · exact h.1
  · exact h.2.1
  · exact h.2.2.1
  · exact h.2.2.2
theorem rj_code (t1 t2 t3 a3 a4 a5 : Int) (v known : Bool) (hk : known = decide (a3 = 1 ∨ a3 = 2 ∨ a3 = 4 ∨ a3 = 8)) (h0 : 0 ≤ t1) (h1 : t1 ≤ 255) :
    (if v = true then (if a4 > t2 then (some 4) else (if t3 = a5 then (if known = true then (if (Go.bits .and .i64 t1 a3) = 0 then (some 6) else (some 0)) else (some 6)) else (some 5))) else (some 3)) = some (token_judge.code t1 t2 t3 a3 a4 a5 v) := by
  unfold token_judge.code
  cases v
  · rfl
  · simp only [if_true]
    by_cases c1 : t2 < a4
    · rw [if_pos c1, if_pos c1]
    · rw [if_neg c1, if_neg c1]
      by_cases c2 : t3 = a5
      · rw [if_pos c2, if_pos c2]
        by_cases c3 : a3 = 1 ∨ a3 = 2 ∨ a3 = 4 ∨ a3 = 8
        · have := and_pos h0 h1 c3
          rw [if_pos (by rw [hk]; exact decide_eq_true c3)]
          by_cases c4 : Go.bits .and .i64 t1 a3 = 0
          · rw [if_pos c4, if_neg (by omega)]
          · rw [if_neg c4, if_pos ⟨c3, by omega⟩]
        · rw [if_neg (by rw [hk, decide_eq_false c3]; simp), if_neg (fun h => c3 h.1)]
      · rw [if_neg c2, if_neg c2]
theorem rj0_ev (key b : List Int) (hk : Byt key) (hkl : key.length ≤ 100000000) (hb : Byt b) (a2 a3 a4 a5 : Int) (known : Bool) (hkn : known = decide (a3 = 1 ∨ a3 = 2 ∨ a3 = 4 ∨ a3 = 8)) :
    Ev (fun k => fairleadref25_Judge.j0 k key b a2 a3 a4 a5 (readV b).2.2.2.2.1 (readV b).2.2.2.2.2 known (readV b).1 (readV b).2.1 (readV b).2.2.1 (readV b).2.2.2.1) (judgeV key b a2 a3 a4 a5) := by
  refine Ev.step (fun k => by rw [fairleadref25_Judge.j0]) ?_
  unfold readV judgeV
  by_cases h : okR b = true
  · have hl := okR_len h
    have ho := h
    unfold okR at ho
    rw [Bool.and_eq_true] at ho
    have ho := of_decide_eq_true (show decide _ = true from ho.2)
    simp only [if_pos h, if_true, eq_true (show (18 : Int) ≤ (b.length : Int) by omega)]
    by_cases h1 : rf b 0 = a2
    · simp only [if_pos h1]
      refine Ev.bind (rverify_ev key (b.drop 18) (b.take 18) hk hkl (hb.drop 18) (hb.take 18) (by rw [List.length_take]; omega)) ?_
      refine Ev.congr (fun k => rj_code _ _ _ _ _ _ _ _ hkn (by omega) (by omega)) (Ev.now _)
    · simp only [if_neg h1]
      exact Ev.now _
  · simp only [if_neg h]
    exact Ev.now _
theorem ref_Judge_ev (key b : List Int) (hk : Byt key) (hkl : key.length ≤ 100000000) (hb : Byt b) (a2 a3 a4 a5 : Int) : Ev (fun k => fairleadref25_Judge.f k key b a2 a3 a4 a5) (judgeV key b a2 a3 a4 a5) := by
  unfold fairleadref25_Judge.f
  refine Ev.bind (ref_Read_ev b hb) ?_
  by_cases c1 : a3 = 1
  · simp only [if_pos c1]
    exact rj0_ev key b hk hkl hb a2 a3 a4 a5 true (by simp [c1])
  · simp only [if_neg c1]
    by_cases c2 : a3 = 2
    · simp only [if_pos c2]
      exact rj0_ev key b hk hkl hb a2 a3 a4 a5 true (by simp [c2])
    · simp only [if_neg c2]
      by_cases c4 : a3 = 4
      · simp only [if_pos c4]
        exact rj0_ev key b hk hkl hb a2 a3 a4 a5 true (by simp [c4])
      · simp only [if_neg c4]
        refine rj0_ev key b hk hkl hb a2 a3 a4 a5 _ ?_
        by_cases c8 : a3 = 8
        · simp [c8]
        · rw [decide_eq_false (by omega)]; simpa using c8
end Go.Proofs.Ytgkaklpgccjmpaa.Pk
