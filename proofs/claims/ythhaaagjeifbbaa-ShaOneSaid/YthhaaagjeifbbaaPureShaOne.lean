/- ShaOne returns true for every input: the digest of a text of at most 55 bytes is that of its one block; no condition. -/
import Derived.Test.YthhaaagjeifbbaaQ6
import Derived.Test.YthhaaagjeifbbaaPnum
import Derived.Test.YthhaaagjeifbbaaPsha
import Derived.Test.YthhaaagjeifbbaaPsum
namespace Go.Proofs.Ythhaaagjeifbbaa.Pure
open Go.RowKit Go.Proofs.Ythhaaagjeifbbaa.Q Go.Proofs.YthhaaagjeifbbaaW.PrintWords Go.Proofs.YthhaaagjeifbbaaW.PrintLast Go.Proofs.YthhaaagjeifbbaaW.PrintMore Go.Proofs.Ythhaaagjeifbbaa.Pn
set_option linter.unusedVariables false
set_option linter.unusedSimpArgs false
theorem outW_at : ∀ (w : List Int) (i : Nat), i < w.length → ((outW w).take (4 * i + 4)).drop (4 * i) = bePut (w.getD i 0) 4
  | [], i, h => by simp at h
  | x :: w, 0, h => by
    rw [outW, List.take_append_of_le_length (by rw [bePut_len]; omega), List.take_of_length_le (by rw [bePut_len]; omega)]
    rfl
  | x :: w, i + 1, h => by
    have ih := outW_at w i (by simpa using h)
    have e : (outW (x :: w)).drop 4 = outW w := by rw [outW, List.drop_append_of_le_length (by rw [bePut_len]; omega), List.drop_of_length_le (by rw [bePut_len]; omega), List.nil_append]
    have e2 : ((outW (x :: w)).take (4 * (i + 1) + 4)).drop (4 * (i + 1)) = ((outW w).take (4 * i + 4)).drop (4 * i) := by
      rw [← e, List.take_drop, List.drop_drop, show 4 * (i + 1) + 4 = 4 + (4 * i + 4) by omega, show 4 * (i + 1) = 4 + 4 * i by omega]
    rw [e2, ih]
    rfl
theorem beGet_put4 {x : Int} (h0 : 0 ≤ x) (h1 : x < 4294967296) : beGet 0 (bePut x 4) = x := by
  have h := beGet_put x 4 0
  have hl := beGet_lt (bePut x 4) 0 (by decide) (by decide)
  rw [Int.emod_eq_of_lt hl.1 hl.2] at h
  rw [h]
  omega
theorem one0_ev (w d : List Int) (h8 : w.length = 8) (hw : W32 w) (hd : d = outW w) : ∀ (m i : Nat), m + i = 8 → Ev (fun k => fairleadlaw07_ShaOne.l0 k w d (i : Int)) true
  | 0, i, h => by
    refine Ev.step (f := fun _ => some true) (fun k => ?_) (Ev.now _)
    rw [fairleadlaw07_ShaOne.l0, if_neg (by omega)]
    rfl
  | m + 1, i, h => by
    have hv := one0_ev w d h8 hw hd m (i + 1) (by omega)
    have hdl : d.length = 32 := by rw [hd, outW_len, h8]
    have e1 : wrap64 (4 * (i : Int)) = ((4 * i : Nat) : Int) := by rw [w64 (by omega) (by omega)]; omega
    have e2 : wrap64 (((4 * i : Nat) : Int) + 4) = ((4 * i + 4 : Nat) : Int) := by rw [w64 (by omega) (by omega)]; omega
    have hc : 0 ≤ w.getD i 0 ∧ w.getD i 0 < 4294967296 := by
      have hi : i < w.length := by omega
      refine hw _ ?_
      rw [List.getD_eq_getElem?_getD, List.getElem?_eq_getElem hi]
      exact List.getElem_mem hi
    have hg := ref_Get_ev (l := bePut (w.getD i 0) 4) (bePut_byt _ _) (by rw [bePut_len]; decide)
    rw [beGet_put4 hc.1 hc.2] at hg
    have hr : rd w (i : Int) = w.getD i 0 := by simp [rd]
    refine Ev.step (f := fun k => (fairleadref01_Get.f k (bePut (w.getD i 0) 4)).bind fun t => if t = w.getD i 0 then fairleadlaw07_ShaOne.l0 k w d ((i + 1 : Nat) : Int) else some false) (fun k => ?_) (Ev.bind hg ?_)
    · rw [fairleadlaw07_ShaOne.l0, e1, e2, if_pos (by omega), if_pos (by omega), if_pos (by omega), if_pos (by omega), Int.toNat_natCast, Int.toNat_natCast]
      rw [show (d.take (4 * i + 4)).drop (4 * i) = bePut (w.getD i 0) 4 by rw [hd]; exact outW_at w i (by omega)]
      simp only [eq_true (show (0 : Int) ≤ (i : Int) by omega), eq_true (show (i : Int) < (w.length : Int) by omega), if_true, hr, wu64_id hc.1 (show w.getD i 0 < 18446744073709551616 by omega), w64 (show -9223372036854775808 ≤ (i : Int) + 1 by omega) (show (i : Int) + 1 ≤ 9223372036854775807 by omega)]
      rfl
    · simp only [if_true]
      exact hv
theorem ShaOne : fairleadlaw07_ShaOne.Pure := by
  intro l0 _ _ hw0
  refine Ev.rounds ?_
  have hb := u8_byt hw0
  by_cases h0 : (l0.length : Int) > 55
  · refine Ev.congr (f := fun _ => some true) (fun k => ?_) (Ev.now _)
    simp only [fairleadlaw07_ShaOne.f]
    rw [if_pos h0]
    rfl
  · have hz : l0.length + (padL l0.length).length = 64 := by rw [padL_len]; unfold padZ; omega
    have e1 : [l0].flatten = l0 := by simp
    have s1 := sha_Sum_ev [l0] (by simp) (by intro p hp; simp at hp; rw [hp]; exact hb) (by rw [e1]; omega)
    rw [e1] at s1
    have hs : shaL l0 = outW (sha_block shaFirst (l0 ++ padL l0.length)) := by
      unfold shaL
      rw [hz, show (64 : Nat) / 64 = 0 + 1 from rfl]
      simp only [sumM]
      rw [List.take_of_length_le (by rw [List.length_append]; omega)]
    have eB : sha_Block.f shaFirst (l0 ++ padL l0.length) = some (sha_block shaFirst (l0 ++ padL l0.length)) := by
      unfold sha_Block.f
      rw [if_pos ⟨rfl, by rw [List.length_append]; omega⟩]
    have hv := one0_ev (sha_block shaFirst (l0 ++ padL l0.length)) (shaL l0) (sha_block_len _ _) (sha_block_w32 _ _) hs 8 0 rfl
    have hj : Ev (fun k => fairleadlaw07_ShaOne.j0 k (sha_block shaFirst (l0 ++ padL l0.length)) (shaL l0) false) true := by
      refine Ev.step (fun k => ?_) hv
      rw [fairleadlaw07_ShaOne.j0]
      rfl
    refine Ev.congr (f := fun k => (sha_Pad.f k (l0.length : Int)).bind fun t => if l0.length + t.length < 140737488355328 then ((sha_Block.f shaFirst (l0 ++ t)).bind fun u => (sha_Sum.f k [l0]).bind fun v => if (u.length : Int) = 8 then fairleadlaw07_ShaOne.j0 k u v ((v.length : Int) != 32) else fairleadlaw07_ShaOne.j0 k u v true) else none) (fun k => ?_) (Ev.bind (sha_Pad_ev l0.length (by omega)) ?_)
    · have e : fairleadref07_First.f = some shaFirst := rfl
      simp only [fairleadlaw07_ShaOne.f, e, Option.bind_some, List.nil_append, List.length_nil, Nat.zero_add]
      rw [if_neg h0, if_pos (by omega)]
    · simp only [eq_true (show l0.length + (padL l0.length).length < 140737488355328 by omega), if_true, eB, Option.bind_some]
      refine Ev.bind s1 ?_
      simp only [sha_block_len, shaL_len]
      exact hj
end Go.Proofs.Ythhaaagjeifbbaa.Pure
