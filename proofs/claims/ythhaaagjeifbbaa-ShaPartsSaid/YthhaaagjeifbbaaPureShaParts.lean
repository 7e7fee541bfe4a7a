/- ShaParts returns true for every input: it does not matter how a text of at most 2000 bytes is cut for sha.Sum; no condition. -/
import Derived.Test.YthhaaagjeifbbaaQ11
import Derived.Test.YthhaaagjeifbbaaPnum
import Derived.Test.YthhaaagjeifbbaaPsum
namespace Go.Proofs.Ythhaaagjeifbbaa.Pure
open Go.RowKit Go.Proofs.Ythhaaagjeifbbaa.Q Go.Proofs.YthhaaagjeifbbaaW.PrintWords Go.Proofs.YthhaaagjeifbbaaW.PrintLast Go.Proofs.YthhaaagjeifbbaaW.PrintMore Go.Proofs.Ythhaaagjeifbbaa.Pn
set_option linter.unusedVariables false
set_option linter.unusedSimpArgs false
theorem ShaParts : fairleadlaw07_ShaParts.Pure := by
  intro l0 a1 a2 _ _ hw0 _ _
  refine Ev.rounds ?_
  have hT : Ev (fun k => fairleadlaw07_ShaParts.j0 k l0 a1 a2 true) true := by
    refine Ev.step (f := fun _ => some true) (fun k => ?_) (Ev.now _)
    rw [fairleadlaw07_ShaParts.j0]
    rfl
  by_cases h0 : (l0.length : Int) > 2000
  · exact Ev.congr (fun k => by simp only [fairleadlaw07_ShaParts.f]; rw [if_pos h0]) hT
  by_cases h1 : a1 < 0
  · exact Ev.congr (fun k => by simp only [fairleadlaw07_ShaParts.f]; rw [if_neg h0, if_pos h1]) hT
  by_cases h2 : a2 < a1
  · exact Ev.congr (fun k => by simp only [fairleadlaw07_ShaParts.f]; rw [if_neg h0, if_neg h1, if_pos h2]) hT
  by_cases h3 : a2 > (l0.length : Int)
  · exact Ev.congr (fun k => by simp only [fairleadlaw07_ShaParts.f]; rw [if_neg h0, if_neg h1, if_neg h2, decide_eq_true h3]) hT
  have hb := u8_byt hw0
  obtain ⟨x, rfl⟩ := Int.eq_ofNat_of_zero_le (by omega : 0 ≤ a1)
  obtain ⟨y, rfl⟩ := Int.eq_ofNat_of_zero_le (by omega : 0 ≤ a2)
  have e1 : [l0].flatten = l0 := by simp
  have e2 : [l0.take x, (l0.take y).drop x, l0.drop y].flatten = l0 := by
    have : l0.take x = (l0.take y).take x := by rw [List.take_take, Nat.min_eq_left (by omega)]
    simp only [List.flatten_cons, List.flatten_nil, List.append_nil]
    rw [this, ← List.append_assoc, List.take_append_drop, List.take_append_drop]
  have e3 : [l0, []].flatten = l0 := by simp
  have s1 := sha_Sum_ev [l0] (by simp) (by intro p hp; simp at hp; rw [hp]; exact hb) (by rw [e1]; omega)
  have s2 := sha_Sum_ev [l0.take x, (l0.take y).drop x, l0.drop y] (by simp) (by intro p hp; simp only [List.mem_cons, List.not_mem_nil, or_false] at hp; rcases hp with rfl | rfl | rfl; (exact hb.take _); (exact (hb.take _).drop _); (exact hb.drop _)) (by rw [e2]; omega)
  have s3 := sha_Sum_ev [l0, []] (by simp) (by intro p hp; simp only [List.mem_cons, List.not_mem_nil, or_false] at hp; rcases hp with rfl | rfl; (exact hb); (exact Byt.nil)) (by rw [e3]; omega)
  rw [e1] at s1
  rw [e2] at s2
  rw [e3] at s3
  refine Ev.congr (f := fun k => fairleadlaw07_ShaParts.j0 k l0 x y false) (fun k => by simp only [fairleadlaw07_ShaParts.f]; rw [if_neg h0, if_neg h1, if_neg h2, decide_eq_false h3]) ?_
  refine Ev.step (f := fun k => (sha_Sum.f k [l0]).bind fun t => (sha_Sum.f k [l0.take x, (l0.take y).drop x, l0.drop y]).bind fun u => (fairleadref01_Same.f u t).bind fun v => if v = true then (sha_Sum.f k [l0, []]).bind fun w => (fairleadref01_Same.f w t).bind fun z => if z = true then (if (t.length : Int) = 32 then (fairleadlaw07_heads.f).bind fun z => some z else some false) else some false else some false) (fun k => ?_) (Ev.bind s1 (Ev.bind s2 ?_))
  · rw [fairleadlaw07_ShaParts.j0]
    simp only [Int.toNat_natCast]
    rw [if_neg (by decide)]
    simp only [eq_true (show (0 : Int) ≤ (x : Int) by omega), eq_true (show (x : Int) ≤ (l0.length : Int) by omega), eq_true (show (x : Int) ≤ (y : Int) by omega), eq_true (show (y : Int) ≤ (l0.length : Int) by omega), eq_true (show (0 : Int) ≤ (y : Int) by omega), if_true]
  · rw [Same_self]
    simp only [Option.bind_some, if_true]
    refine Ev.bind s3 ?_
    rw [Same_self]
    simp only [Option.bind_some, if_true, shaL_len]
    exact Ev.now _
end Go.Proofs.Ythhaaagjeifbbaa.Pure
