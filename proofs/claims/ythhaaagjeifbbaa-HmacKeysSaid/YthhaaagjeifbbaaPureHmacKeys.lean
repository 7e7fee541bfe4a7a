/- HmacKeys returns true for every input: noughts behind a short key do not matter, nor how a text is cut, for every key of at most 64 bytes and text of at most 2000; no condition. -/
import Derived.Test.YthhaaagjeifbbaaQ16
import Derived.Test.YthhaaagjeifbbaaPnum
import Derived.Test.YthhaaagjeifbbaaPsum
import Derived.Test.YthhaaagjeifbbaaPhmac
import Derived.Test.YthhaaagjeifbbaaPhlaw
namespace Go.Proofs.Ythhaaagjeifbbaa.Pure
open Go.RowKit Go.Proofs.Ythhaaagjeifbbaa.Q Go.Proofs.YthhaaagjeifbbaaW.PrintWords Go.Proofs.YthhaaagjeifbbaaW.PrintLast Go.Proofs.YthhaaagjeifbbaaW.PrintMore Go.Proofs.Ythhaaagjeifbbaa.Ph Go.Proofs.Ythhaaagjeifbbaa.Pn
set_option linter.unusedVariables false
set_option linter.unusedSimpArgs false
theorem keyL_zeros (l : List Int) (m : Nat) (h : l.length + m ≤ 64) : keyL (l ++ List.replicate m 0) = keyL l := by
  unfold keyL
  rw [if_neg (by simp; omega), if_neg (by omega), hmac_fill, hmac_fill, List.take_of_length_le (by simp; omega), List.take_of_length_le (by omega), List.length_append, List.length_replicate, List.append_assoc, List.replicate_append_replicate]
  rw [show m + (64 - (l.length + m)) = 64 - l.length by omega]
theorem HmacKeys : fairleadlaw08_HmacKeys.Pure := by
  intro l0 l1 a2 a3 _ _ hw0 _ _ hw1 _ _
  refine Ev.rounds ?_
  have hb0 := u8_byt hw0
  have hb1 := u8_byt hw1
  have hT : Ev (fun k => fairleadlaw08_HmacKeys.j0 k l0 l1 a2 a3 true) true := by
    refine Ev.step (f := fun _ => some true) (fun k => ?_) (Ev.now _)
    rw [fairleadlaw08_HmacKeys.j0]
    rfl
  by_cases h0 : (l0.length : Int) > 64
  · exact Ev.congr (fun k => by rw [fairleadlaw08_HmacKeys.f, if_pos h0]) hT
  have hw : wrap64 (64 - (l0.length : Int)) = 64 - (l0.length : Int) := w64 (by omega) (by omega)
  by_cases h1 : a2 < 0
  · exact Ev.congr (fun k => by rw [fairleadlaw08_HmacKeys.f, if_neg h0, if_pos h1]) hT
  by_cases h2 : a2 > wrap64 (64 - (l0.length : Int))
  · exact Ev.congr (fun k => by rw [fairleadlaw08_HmacKeys.f, if_neg h0, if_neg h1, if_pos h2]) hT
  by_cases h3 : a3 < 0
  · exact Ev.congr (fun k => by rw [fairleadlaw08_HmacKeys.f, if_neg h0, if_neg h1, if_neg h2, if_pos h3]) hT
  by_cases h4 : a3 > (l1.length : Int)
  · exact Ev.congr (fun k => by rw [fairleadlaw08_HmacKeys.f, if_neg h0, if_neg h1, if_neg h2, if_neg h3, if_pos h4]) hT
  by_cases h5 : (l1.length : Int) > 2000
  · exact Ev.congr (fun k => by rw [fairleadlaw08_HmacKeys.f, if_neg h0, if_neg h1, if_neg h2, if_neg h3, if_neg h4, decide_eq_true h5]) hT
  refine Ev.congr (f := fun k => fairleadlaw08_HmacKeys.j0 k l0 l1 a2 a3 false) (fun k => by rw [fairleadlaw08_HmacKeys.f, if_neg h0, if_neg h1, if_neg h2, if_neg h3, if_neg h4, decide_eq_false h5]) ?_
  have e1 := hmac_Tag1_ev l0 l1 hb0 (by omega) hb1 (by omega)
  have e2 := hmac_Tag1_ev (l0 ++ List.replicate a2.toNat 0) l1 (hb0.app (rep0_byt _)) (by simp; omega) hb1 (by omega)
  rw [show tagL (l0 ++ List.replicate a2.toNat 0) l1 = tagL l0 l1 by rw [tagL, tagL, keyL_zeros _ _ (by omega)]] at e2
  have e3 := hmac_Tag_ev l0 [l1.take a3.toNat, l1.drop a3.toNat] hb0 (by omega) (by simp) (by intro p hp; simp at hp; rcases hp with rfl | rfl; exact hb1.take _; exact hb1.drop _) (by simp; omega)
  rw [show [l1.take a3.toNat, l1.drop a3.toNat].flatten = l1 by simp] at e3
  refine Ev.step (f := fun k => (hmac_Tag.f k l0 [l1]).bind fun t => (hmac_Tag.f k (l0 ++ List.replicate a2.toNat 0) [l1]).bind fun u => (fairleadref01_Same.f u t).bind fun v => if v = true then (hmac_Tag.f k l0 [l1.take a3.toNat, l1.drop a3.toNat]).bind fun w => (fairleadref01_Same.f w t).bind fun z => if z = true then (fairleadlaw08_heads.f).bind fun y => some y else some false else some false) (fun k => ?_) (Ev.bind e1 (Ev.bind e2 ?_))
  · rw [fairleadlaw08_HmacKeys.j0]
    simp only [Bool.false_eq_true, if_false, Option.bind_some, List.nil_append, List.length_nil, Nat.zero_add, eq_true (show l0.length < 140737488355328 by omega), eq_true (show 0 ≤ a2 by omega), eq_true (show l0.length + a2.toNat < 140737488355328 by omega), eq_true (show 0 ≤ a3 by omega), eq_true (show a3 ≤ (l1.length : Int) by omega), if_true]
  · simp only [Same_self, Option.bind_some, if_true]
    refine Ev.bind e3 ?_
    simp only [Same_self, Option.bind_some, if_true]
    exact Ev.now _
end Go.Proofs.Ythhaaagjeifbbaa.Pure
