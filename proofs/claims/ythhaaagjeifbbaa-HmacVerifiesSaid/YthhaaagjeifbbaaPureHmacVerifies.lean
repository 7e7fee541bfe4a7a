/- HmacVerifies returns true for every input: a tag is accepted exactly when it is the recomputed one, for every key and text of at most 2000 bytes and every tag; no condition. -/
import Derived.Test.YthhaaagjeifbbaaQ14
import Derived.Test.YthhaaagjeifbbaaPnum
import Derived.Test.YthhaaagjeifbbaaPsum
import Derived.Test.YthhaaagjeifbbaaPref
import Derived.Test.YthhaaagjeifbbaaPhmac
import Derived.Test.YthhaaagjeifbbaaPhref
import Derived.Test.YthhaaagjeifbbaaPhlaw
namespace Go.Proofs.Ythhaaagjeifbbaa.Pure
open Go.RowKit Go.Proofs.Ythhaaagjeifbbaa.Q Go.Proofs.YthhaaagjeifbbaaW.PrintWords Go.Proofs.YthhaaagjeifbbaaW.PrintLast Go.Proofs.YthhaaagjeifbbaaW.PrintMore Go.Proofs.Ythhaaagjeifbbaa.Ph Go.Proofs.Ythhaaagjeifbbaa.Pn
set_option linter.unusedVariables false
set_option linter.unusedSimpArgs false
theorem HmacVerifies : fairleadlaw08_HmacVerifies.Pure := by
  intro l0 l1 l2 _ _ hw0 _ _ hw1 _ _ hw2
  refine Ev.rounds ?_
  have hb0 := u8_byt hw0
  have hb1 := u8_byt hw1
  have hb2 := u8_byt hw2
  by_cases hs : l0.length ≤ 2000 ∧ l1.length ≤ 2000
  · simp only [fairleadlaw08_HmacVerifies.f, small_f, decide_eq_true hs, Option.bind_some, if_true]
    refine Ev.bind (hmac_Tag1_ev l0 l1 hb0 (by omega) hb1 (by omega)) (Ev.bind (verify_ev l0 l2 l1 hb0 (by omega) hb1 (by omega)) (Ev.bind (ref_Tag_ev l0 l1 hb0 (by omega) hb1 (by omega)) ?_))
    simp only [Same_f hb2 (tagL_byt l0 l1), Option.bind_some, beq_self_eq_true, if_true]
    refine Ev.bind (verify_ev l0 (tagL l0 l1) l1 hb0 (by omega) hb1 (by omega)) ?_
    simp only [decide_true, if_true]
    exact Ev.now _
  · simp only [fairleadlaw08_HmacVerifies.f, small_f, decide_eq_false hs, Option.bind_some]
    exact Ev.now _
end Go.Proofs.Ythhaaagjeifbbaa.Pure
