/- Lemmas for TokenJudges; a slim copy of this session's texts (slim.py). -/
import Derived.Test.YtgkaklpgccjmpaaZTokenJudgesQ16
import Derived.Test.YtgkaklpgccjmpaaZTokenJudgesPnum
import Derived.Test.YtgkaklpgccjmpaaZTokenJudgesPsum
import Derived.Test.YtgkaklpgccjmpaaZTokenJudgesPhmac
import Derived.Test.YtgkaklpgccjmpaaZTokenJudgesPtok
import Derived.Test.YtgkaklpgccjmpaaZTokenJudgesPjud
namespace Go.Proofs.Ytgkaklpgccjmpaa.Pure
open Go.RowKit Go.Proofs.Ytgkaklpgccjmpaa.Q Go.Proofs.YtgkaklpgccjmpaaW.PrintWords Go.Proofs.YtgkaklpgccjmpaaW.PrintLast Go.Proofs.YtgkaklpgccjmpaaW.PrintMore Go.Proofs.Ytgkaklpgccjmpaa.Ph Go.Proofs.Ytgkaklpgccjmpaa.Pk Go.Proofs.Ytgkaklpgccjmpaa.Pn
set_option linter.unusedVariables false
set_option linter.unusedSimpArgs false
theorem TokenJudges : fairleadlaw25_TokenJudges.Pure := by
  intro l0 l1 a2 a3 a4 a5 _ _ hw0 _ _ hw1 _ _ _ _
  refine Ev.rounds ?_
  have hb0 := u8_byt hw0
  have hb1 := u8_byt hw1
  by_cases hs : (l0.length : Int) > 200
  · simp only [fairleadlaw25_TokenJudges.f, if_pos hs, fairleadlaw25_heads.f, Option.bind_some]
    exact Ev.now _
  · simp only [fairleadlaw25_TokenJudges.f, if_neg hs, fairleadlaw25_heads.f]
    refine Ev.bind (token_Judge_ev l0 l1 hb0 (by omega) hb1 a2 a3 a4 a5) (Ev.bind (ref_Judge_ev l0 l1 hb0 (by omega) hb1 a2 a3 a4 a5) ?_)
    simp only [if_true, Option.bind_some]
    exact Ev.now _
end Go.Proofs.Ytgkaklpgccjmpaa.Pure
