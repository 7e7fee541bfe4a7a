/- ShaPads returns true for every n: a text of n bytes and what sha.Pad puts behind it are whole blocks, the fewest; no condition. -/
import Derived.Test.YthhaaagjeifbbaaQ12
import Derived.Test.YthhaaagjeifbbaaPnum
namespace Go.Proofs.Ythhaaagjeifbbaa.Pure
open Go.RowKit Go.Proofs.Ythhaaagjeifbbaa.Q Go.Proofs.YthhaaagjeifbbaaW.PrintWords Go.Proofs.YthhaaagjeifbbaaW.PrintLast Go.Proofs.YthhaaagjeifbbaaW.PrintMore Go.Proofs.Ythhaaagjeifbbaa.Pn
set_option linter.unusedVariables false
set_option linter.unusedSimpArgs false
theorem i64_wf {n : Int} (h : (Lit.int .i64 n).wf = true) : -9223372036854775808 ≤ n ∧ n ≤ 9223372036854775807 := by
  simp [Lit.wf, IntKind.min, IntKind.max, IntKind.bits, IntKind.signed] at h
  omega
theorem sha_Pad_neg {n : Int} (h : n < 0) (k : Nat) : sha_Pad.f k n = some [] := by
  simp only [sha_Pad.f]
  rw [if_pos h]
theorem ShaPads : fairleadlaw07_ShaPads.Pure := by
  intro a0 hw
  have hb := i64_wf hw
  refine Ev.rounds ?_
  by_cases h0 : a0 < 0
  · refine Ev.congr (f := fun k => fairleadlaw07_ShaPads.j0 k a0 true) (fun k => by simp only [fairleadlaw07_ShaPads.f]; rw [if_pos h0]) ?_
    refine Ev.step (f := fun _ => some true) (fun k => ?_) (Ev.now _)
    simp only [fairleadlaw07_ShaPads.j0, if_true]
    rw [if_neg (by omega), sha_Pad_neg h0]
    rfl
  · by_cases h1 : a0 > 1099511627776
    · refine Ev.congr (f := fun k => fairleadlaw07_ShaPads.j0 k a0 true) (fun k => by simp only [fairleadlaw07_ShaPads.f]; rw [if_neg h0, decide_eq_true h1]) ?_
      refine Ev.step (f := fun _ => some true) (fun k => ?_) (Ev.now _)
      simp only [fairleadlaw07_ShaPads.j0, if_true]
      rw [if_pos (by omega)]
      rfl
    · refine Ev.congr (f := fun k => fairleadlaw07_ShaPads.j0 k a0 false) (fun k => by simp only [fairleadlaw07_ShaPads.f]; rw [if_neg h0, decide_eq_false h1]) ?_
      obtain ⟨n, rfl⟩ := Int.eq_ofNat_of_zero_le (by omega : 0 ≤ a0)
      have hn : n ≤ 1099511627776 := by omega
      have hz : padZ n < 64 := by unfold padZ; omega
      have hl := padL_len n
      have hw2 := pad_whole n
      have hg := ref_Get_ev (l := (padL n).drop (1 + padZ n)) ((padL_byt n).drop _) (by rw [List.length_drop, hl]; omega)
      have hd : (padL n).drop (1 + padZ n) = bePut ((n : Int) * 8) 8 := by
        unfold padL
        rw [List.drop_append_of_le_length (by simp; omega), List.drop_of_length_le (by simp; omega), List.nil_append]
      rw [hd, beGet_put8] at hg
      have e1 : Int.tmod (wrap64 ((n : Int) + ((padL n).length : Int))) 64 = 0 := by
        rw [w64 (by omega) (by omega), Int.tmod_eq_emod_of_nonneg (by omega)]; omega
      have e2 : wrap64 (((padL n).length : Int) - 8) = ((1 + padZ n : Nat) : Int) := by rw [w64 (by omega) (by omega)]; omega
      have e3 : IntKind.u64.wrap (8 * IntKind.u64.wrap (n : Int)) = (n : Int) * 8 % 18446744073709551616 := by rw [wu64_id (x := (n : Int)) (by omega) (by omega), wu64]; omega
      have e4 : rd (padL n) 0 = 128 := rfl
      refine Ev.step (fun k => ?_) (Ev.bind (f := fun k t => if Int.tmod (wrap64 ((n : Int) + (t.length : Int))) 64 = 0 then (if (t.length : Int) ≥ 9 then (if (t.length : Int) ≤ 72 then (if 0 < (t.length : Int) then (if rd t 0 = 128 then (if 0 ≤ wrap64 ((t.length : Int) - 8) then (if wrap64 ((t.length : Int) - 8) ≤ (t.length : Int) then ((fairleadref01_Get.f k (t.drop (wrap64 ((t.length : Int) - 8)).toNat)).bind fun u => if u = IntKind.u64.wrap (8 * IntKind.u64.wrap (n : Int)) then (fairleadlaw07_heads.f.bind fun v => some v) else some false) else none) else none) else some false) else none) else some false) else some false) else some false) (sha_Pad_ev n hn) ?_)
      · simp only [fairleadlaw07_ShaPads.j0]
        rfl
      · simp only [e1, e2, e3, e4, Int.toNat_natCast, hd, if_true]
        simp only [eq_true (show ((padL n).length : Int) ≥ 9 by omega), eq_true (show ((padL n).length : Int) ≤ 72 by omega), eq_true (show 0 < ((padL n).length : Int) by omega), eq_true (show (0 : Int) ≤ ((1 + padZ n : Nat) : Int) by omega), eq_true (show ((1 + padZ n : Nat) : Int) ≤ ((padL n).length : Int) by omega), if_true]
        refine Ev.bind hg ?_
        simp only [if_true]
        exact Ev.now _
end Go.Proofs.Ythhaaagjeifbbaa.Pure
