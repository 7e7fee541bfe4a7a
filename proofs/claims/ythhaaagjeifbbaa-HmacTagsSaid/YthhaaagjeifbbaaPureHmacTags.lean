/- HmacTags returns true for every input: keys' blocks, tags and chains of the program are the reference's, for every key and text of at most 2000 bytes each; no condition. -/
import Derived.Test.YthhaaagjeifbbaaQ19
import Derived.Test.YthhaaagjeifbbaaPnum
import Derived.Test.YthhaaagjeifbbaaPsum
import Derived.Test.YthhaaagjeifbbaaPref
import Derived.Test.YthhaaagjeifbbaaPhmac
import Derived.Test.YthhaaagjeifbbaaPhref
import Derived.Test.YthhaaagjeifbbaaPhlaw
namespace Go.Proofs.Ythhaaagjeifbbaa.Pure
open Go.RowKit Go.Proofs.Ythhaaagjeifbbaa.Q Go.Proofs.YthhaaagjeifbbaaW.PrintWords Go.Proofs.YthhaaagjeifbbaaW.PrintLast Go.Proofs.YthhaaagjeifbbaaW.PrintMore Go.Proofs.Ythhaaagjeifbbaa.Ph Go.Proofs.Ythhaaagjeifbbaa.Pn
set_option linter.unusedVariables false
set_option linter.unusedSimpArgs false
theorem HmacTags : fairleadlaw08_HmacTags.Pure := by
  intro l0 l1 _ _ hw0 _ _ hw1
  refine Ev.rounds ?_
  have hb0 := u8_byt hw0
  have hb1 := u8_byt hw1
  by_cases hs : l0.length ≤ 2000 ∧ l1.length ≤ 2000
  · simp only [fairleadlaw08_HmacTags.f, small_f, decide_eq_true hs, Option.bind_some, if_true]
    refine Ev.bind (hmac_Key_ev l0 hb0 (by omega)) (Ev.bind (ref_Key_ev l0 hb0 (by omega)) ?_)
    simp only [Same_self, Option.bind_some, if_true]
    refine Ev.bind (hmac_Tag1_ev l0 l1 hb0 (by omega) hb1 (by omega)) (Ev.bind (ref_Tag_ev l0 l1 hb0 (by omega) hb1 (by omega)) ?_)
    simp only [Same_self, Option.bind_some, if_true]
    have hc := sha_Sum_ev [l0, l1] (by simp) (by intro p hp; simp at hp; rcases hp with rfl | rfl <;> assumption) (by simp; omega)
    have hr := ref_Sum_ev (l0 ++ l1) (hb0.app hb1) (by rw [List.length_append]; omega)
    rw [show [l0, l1].flatten = l0 ++ l1 by simp] at hc
    simp only [hmac_Chain.f, fairleadref08_Chain.f, Option.bind_some, List.nil_append, List.length_nil, Nat.zero_add, eq_true (show l0.length < 140737488355328 by omega), eq_true (show l0.length + l1.length < 140737488355328 by omega), if_true]
    refine Ev.bind (Ev.bind hc (Ev.now _)) (Ev.bind (Ev.bind hr (Ev.now _)) ?_)
    simp only [Same_self, Option.bind_some, if_true]
    exact Ev.now _
  · simp only [fairleadlaw08_HmacTags.f, small_f, decide_eq_false hs, Option.bind_some]
    exact Ev.now _
end Go.Proofs.Ythhaaagjeifbbaa.Pure
