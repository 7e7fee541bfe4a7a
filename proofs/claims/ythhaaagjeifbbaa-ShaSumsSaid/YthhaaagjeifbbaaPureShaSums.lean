/- ShaSums returns true for every input: sha.Sum of two parts is the reference's Sum of the text, for every two parts of at most 2000 bytes; no condition. -/
import Derived.Test.YthhaaagjeifbbaaQ10
import Derived.Test.YthhaaagjeifbbaaPnum
import Derived.Test.YthhaaagjeifbbaaPsha
import Derived.Test.YthhaaagjeifbbaaPsum
namespace Go.Proofs.Ythhaaagjeifbbaa.Pure
open Go.RowKit Go.Proofs.Ythhaaagjeifbbaa.Q Go.Proofs.YthhaaagjeifbbaaW.PrintWords Go.Proofs.YthhaaagjeifbbaaW.PrintLast Go.Proofs.YthhaaagjeifbbaaW.PrintMore Go.Proofs.Ythhaaagjeifbbaa.Pn
set_option linter.unusedVariables false
set_option linter.unusedSimpArgs false
theorem ShaSums : fairleadlaw07_ShaSums.Pure := by
  intro l0 l1 _ _ hw0 _ _ hw1
  refine Ev.rounds ?_
  have hT : Ev (fun k => fairleadlaw07_ShaSums.j0 k l0 l1 true) true := by
    refine Ev.step (f := fun _ => some true) (fun k => ?_) (Ev.now _)
    rw [fairleadlaw07_ShaSums.j0]
    rfl
  by_cases h0 : (l0.length : Int) > 2000
  · exact Ev.congr (fun k => by simp only [fairleadlaw07_ShaSums.f]; rw [if_pos h0]) hT
  · by_cases h1 : (l1.length : Int) > 2000
    · exact Ev.congr (fun k => by simp only [fairleadlaw07_ShaSums.f]; rw [if_neg h0, decide_eq_true h1]) hT
    · have hb0 := u8_byt hw0
      have hb1 := u8_byt hw1
      have hs := sha_Sum_ev [l0, l1] (by simp) (by intro p hp; simp at hp; rcases hp with rfl | rfl <;> assumption) (by simp; omega)
      have hr := ref_Sum_ev (l0 ++ l1) (hb0.app hb1) (by rw [List.length_append]; omega)
      rw [show [l0, l1].flatten = l0 ++ l1 by simp] at hs
      refine Ev.congr (f := fun k => fairleadlaw07_ShaSums.j0 k l0 l1 false) (fun k => by simp only [fairleadlaw07_ShaSums.f]; rw [if_neg h0, decide_eq_false h1]) ?_
      refine Ev.step (f := fun k => (sha_Sum.f k [l0, l1]).bind fun t => (fairleadref07_Sum.f k (l0 ++ l1)).bind fun u => (fairleadref01_Same.f t u).bind fun v => if v = true then (fairleadlaw07_heads.f).bind fun z => some z else some false) (fun k => ?_) (Ev.bind hs (Ev.bind hr ?_))
      · rw [fairleadlaw07_ShaSums.j0]
        simp only [Option.bind_some, List.nil_append, List.length_nil, Nat.zero_add]
        rw [if_neg (by decide)]
        simp only [eq_true (show l0.length < 140737488355328 by omega), eq_true (show l0.length + l1.length < 140737488355328 by omega), if_true]
      · rw [Same_self]
        exact Ev.now _
end Go.Proofs.Ythhaaagjeifbbaa.Pure
