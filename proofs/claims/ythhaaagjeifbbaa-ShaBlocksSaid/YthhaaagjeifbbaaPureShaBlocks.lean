/- ShaBlocks returns true for every state, block and length: sha.Block and sha.Pad answer what the document's reference answers; no condition. -/
import Derived.Test.YthhaaagjeifbbaaQ10
import Derived.Test.YthhaaagjeifbbaaPnum
import Derived.Test.YthhaaagjeifbbaaPsha
namespace Go.Proofs.Ythhaaagjeifbbaa.Pure
open Go.RowKit Go.Proofs.Ythhaaagjeifbbaa.Q Go.Proofs.YthhaaagjeifbbaaW.PrintWords Go.Proofs.YthhaaagjeifbbaaW.PrintLast Go.Proofs.YthhaaagjeifbbaaW.PrintMore Go.Proofs.Ythhaaagjeifbbaa.Pn
set_option linter.unusedVariables false
set_option linter.unusedSimpArgs false
theorem ShaBlocks : fairleadlaw07_ShaBlocks.Pure := by
  intro l0 l1 a2 _ _ _ _ _ hw _
  refine Ev.rounds ?_
  by_cases h1 : a2 > 1099511627776
  · refine Ev.congr (f := fun _ => some true) (fun k => ?_) (Ev.now _)
    simp only [fairleadlaw07_ShaBlocks.f]
    rw [if_pos h1]
    rfl
  · obtain ⟨p, hp1, hp2⟩ := both_pads a2 (by omega)
    have hX : ∃ X, sha_Block.f l0 l1 = some X ∧ Ev (fun k => fairleadref07_Block.f k l0 l1) X ∧ X.length ≤ 8 := by
      by_cases h : l0.length = 8 ∧ l1.length = 64
      · exact ⟨sha_block l0 l1, by unfold sha_Block.f; rw [if_pos h], ref_Block_ev h.1 (u8_byt hw) h.2, by rw [sha_block_len]; exact Nat.le_refl _⟩
      · exact ⟨[], by unfold sha_Block.f; rw [if_neg h], ref_Block_no h, by simp⟩
    obtain ⟨X, hx, hr, hl⟩ := hX
    refine Ev.congr (f := fun k => (fairleadref07_Block.f k l0 l1).bind fun t => (fairleadref07_Words.f k X t).bind fun u => if u = true then (sha_Pad.f k a2).bind fun v => (fairleadref07_Pad.f k a2).bind fun x => (fairleadref01_Same.f v x).bind fun y => if y = true then (fairleadlaw07_heads.f).bind fun z => some z else some false else some false) (fun k => ?_) ?_
    · simp only [fairleadlaw07_ShaBlocks.f, hx, Option.bind_some]
      rw [if_neg h1]
    · refine Ev.bind hr (Ev.bind (Words_ev X (by omega)) ?_)
      simp only [if_true]
      refine Ev.bind hp1 (Ev.bind hp2 ?_)
      rw [Same_self]
      exact Ev.now _
end Go.Proofs.Ythhaaagjeifbbaa.Pure
