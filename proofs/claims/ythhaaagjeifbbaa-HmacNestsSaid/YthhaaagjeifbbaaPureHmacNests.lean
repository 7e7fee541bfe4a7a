/- HmacNests returns true for every input: a tag is a digest of a digest by the reference's Sum, and a chain the digest of both, for every key of at most 64 bytes and text of at most 2000; no condition. -/
import Derived.Test.YthhaaagjeifbbaaQ18
import Derived.Test.YthhaaagjeifbbaaPnum
import Derived.Test.YthhaaagjeifbbaaPsum
import Derived.Test.YthhaaagjeifbbaaPref
import Derived.Test.YthhaaagjeifbbaaPhmac
import Derived.Test.YthhaaagjeifbbaaPhlaw
namespace Go.Proofs.Ythhaaagjeifbbaa.Pure
open Go.RowKit Go.Proofs.Ythhaaagjeifbbaa.Q Go.Proofs.YthhaaagjeifbbaaW.PrintWords Go.Proofs.YthhaaagjeifbbaaW.PrintLast Go.Proofs.YthhaaagjeifbbaaW.PrintMore Go.Proofs.Ythhaaagjeifbbaa.Ph Go.Proofs.Ythhaaagjeifbbaa.Pn
set_option linter.unusedVariables false
set_option linter.unusedSimpArgs false
theorem xorL_snoc (c : Int) (l : List Int) (x : Int) : xorL c l ++ [Go.bits .xor .u8 x c] = xorL c (l ++ [x]) := by simp [xorL]
theorem nests_ev (l0 l1 : List Int) (hb0 : Byt l0) (hb1 : Byt l1) (h0 : l0.length ≤ 64) (h1 : l1.length ≤ 2000) : ∀ (m i : Nat), i + m = 64 → Ev (fun k => fairleadlaw08_HmacNests.l0 k l0 l1 (xorL 54 ((hmac_fill l0).take i)) (xorL 92 ((hmac_fill l0).take i)) (i : Int)) true
  | 0, i, h => by
    have hf := fill_len l0
    have hK : keyL l0 = hmac_fill l0 := by rw [keyL, if_neg (by omega)]
    have hkb := fill_byt hb0
    rw [List.take_of_length_le (by omega)]
    have h54 : Byt (xorL 54 (hmac_fill l0)) := xorL_byt (by decide) (by decide) hkb
    have h92 : Byt (xorL 92 (hmac_fill l0)) := xorL_byt (by decide) (by decide) hkb
    have l54 := xorL_len 54 (hmac_fill l0)
    have l92 := xorL_len 92 (hmac_fill l0)
    have s1 := ref_Sum_ev (xorL 54 (hmac_fill l0) ++ l1) (h54.app hb1) (by rw [List.length_append]; omega)
    have hs1 := shaL_len (xorL 54 (hmac_fill l0) ++ l1)
    have s2 := ref_Sum_ev (xorL 92 (hmac_fill l0) ++ shaL (xorL 54 (hmac_fill l0) ++ l1)) (h92.app (shaL_byt _)) (by rw [List.length_append]; omega)
    have e1 := hmac_Tag1_ev l0 l1 hb0 (by omega) hb1 (by omega)
    rw [tagL, hK] at e1
    have hc := sha_Sum_ev [l0, l1] (by simp) (by intro p hp; simp at hp; rcases hp with rfl | rfl <;> assumption) (by simp; omega)
    have hr := ref_Sum_ev (l0 ++ l1) (hb0.app hb1) (by rw [List.length_append]; omega)
    rw [show [l0, l1].flatten = l0 ++ l1 by simp] at hc
    refine Ev.step (f := fun k => (fairleadref07_Sum.f k (xorL 54 (hmac_fill l0) ++ l1)).bind fun t => if (xorL 92 (hmac_fill l0)).length + t.length < 140737488355328 then (fairleadref07_Sum.f k (xorL 92 (hmac_fill l0) ++ t)).bind fun u => (hmac_Tag.f k l0 [l1]).bind fun v => (fairleadref01_Same.f v u).bind fun w => if w = true then ((sha_Sum.f k [l0, l1]).bind fun z => some z).bind fun p => (fairleadref07_Sum.f k (l0 ++ l1)).bind fun q => (fairleadref01_Same.f p q).bind fun r => if r = true then (fairleadlaw08_heads.f).bind fun y => some y else some false else some false else none) (fun k => ?_) (Ev.bind s1 ?_)
    · rw [fairleadlaw08_HmacNests.l0, if_neg (by omega)]
      simp only [hmac_Chain.f, Option.bind_some, List.nil_append, List.length_nil, Nat.zero_add, eq_true (show (xorL 54 (hmac_fill l0)).length + l1.length < 140737488355328 by omega), eq_true (show l0.length < 140737488355328 by omega), eq_true (show l0.length + l1.length < 140737488355328 by omega), if_true]
    · simp only [eq_true (show (xorL 92 (hmac_fill l0)).length + (shaL (xorL 54 (hmac_fill l0) ++ l1)).length < 140737488355328 by omega), if_true]
      refine Ev.bind s2 (Ev.bind e1 ?_)
      simp only [Same_self, Option.bind_some, if_true]
      refine Ev.bind (Ev.bind hc (Ev.now _)) (Ev.bind hr ?_)
      simp only [Same_self, Option.bind_some, if_true]
      exact Ev.now _
  | m + 1, i, h => by
    have hf := fill_len l0
    have hi : i < (hmac_fill l0).length := by omega
    have hv := nests_ev l0 l1 hb0 hb1 h0 h1 m (i + 1) (by omega)
    rw [List.take_add_one, List.getElem?_eq_getElem hi] at hv
    simp only [Option.toList_some] at hv
    rw [← xorL_snoc, ← xorL_snoc] at hv
    have hl5 := xorL_len 54 ((hmac_fill l0).take i)
    have hl6 := xorL_len 92 ((hmac_fill l0).take i)
    have htk : ((hmac_fill l0).take i).length ≤ 64 := by rw [List.length_take]; omega
    refine Ev.step (fun k => ?_) hv
    rw [fairleadlaw08_HmacNests.l0, if_pos (by omega)]
    rw [show wrap64 ((i : Int) + 1) = ((i + 1 : Nat) : Int) by rw [w64 (by omega) (by omega)]; rfl]
    by_cases hlt : (i : Int) < (l0.length : Int)
    · have hii : i < l0.length := by omega
      rw [if_pos hlt, if_pos (by omega), if_pos (by omega), if_pos (by omega), rd_cons (List.drop_eq_getElem_cons hii)]
      rw [show (hmac_fill l0)[i] = l0[i] by simp [hmac_fill, List.getElem_append, hii, h0] <;> omega]
    · rw [if_neg hlt, if_pos (by omega), if_pos (by omega)]
      rw [show (hmac_fill l0)[i] = 0 by simp [hmac_fill, List.getElem_append] <;> omega]
theorem HmacNests : fairleadlaw08_HmacNests.Pure := by
  intro l0 l1 _ _ hw0 _ _ hw1
  refine Ev.rounds ?_
  have hb0 := u8_byt hw0
  have hb1 := u8_byt hw1
  have hT : Ev (fun k => fairleadlaw08_HmacNests.j0 k l0 l1 true) true := by
    refine Ev.step (f := fun _ => some true) (fun k => ?_) (Ev.now _)
    rw [fairleadlaw08_HmacNests.j0]
    rfl
  by_cases h0 : (l0.length : Int) > 64
  · exact Ev.congr (fun k => by rw [fairleadlaw08_HmacNests.f, if_pos h0]) hT
  by_cases h1 : (l1.length : Int) > 2000
  · exact Ev.congr (fun k => by rw [fairleadlaw08_HmacNests.f, if_neg h0, decide_eq_true h1]) hT
  refine Ev.congr (f := fun k => fairleadlaw08_HmacNests.j0 k l0 l1 false) (fun k => by rw [fairleadlaw08_HmacNests.f, if_neg h0, decide_eq_false h1]) ?_
  have := nests_ev l0 l1 hb0 hb1 (by omega) (by omega) 64 0 rfl
  refine Ev.step (f := fun k => fairleadlaw08_HmacNests.l0 k l0 l1 [] [] 0) (fun k => ?_) this
  rw [fairleadlaw08_HmacNests.j0]
  simp only [Bool.false_eq_true, if_false]
end Go.Proofs.Ythhaaagjeifbbaa.Pure
