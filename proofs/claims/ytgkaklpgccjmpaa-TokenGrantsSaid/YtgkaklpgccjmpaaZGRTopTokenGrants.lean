/- Lemmas for GR; a slim copy of this session's texts (slim.py). -/
import Derived.Test.YtgkaklpgccjmpaaZGRQ5
import Derived.Test.YtgkaklpgccjmpaaZGRPnum
import Derived.Test.YtgkaklpgccjmpaaZGRPsum
import Derived.Test.YtgkaklpgccjmpaaZGRPhmac
import Derived.Test.YtgkaklpgccjmpaaZGRPsame
import Derived.Test.YtgkaklpgccjmpaaZGRPtok
import Derived.Test.YtgkaklpgccjmpaaZGRPjud
import Derived.Test.YtgkaklpgccjmpaaZGRWkGrantsA
import Derived.Test.YtgkaklpgccjmpaaZGRWkGrantsB
import Derived.Test.YtgkaklpgccjmpaaZGRWkGrantsC
namespace Go.Proofs.Ytgkaklpgccjmpaa.Top
open Go.RowKit Go.Proofs.Ytgkaklpgccjmpaa.Q Go.Proofs.YtgkaklpgccjmpaaW.PrintWords Go.Proofs.YtgkaklpgccjmpaaW.PrintLast Go.Proofs.YtgkaklpgccjmpaaW.PrintMore Go.Proofs.Ytgkaklpgccjmpaa.Ph Go.Proofs.Ytgkaklpgccjmpaa.Pk Go.Proofs.Ytgkaklpgccjmpaa.Pn Go.Proofs.Ytgkaklpgccjmpaa.Wk
set_option linter.unusedVariables false
set_option linter.unusedSimpArgs false
theorem code_zero (t2 t3 t4 a3 a4 a5 : Int) (v : Bool) (h0 : 0 ≤ t2) (h1 : t2 ≤ 255) : (token_judge.code t2 t3 t4 a3 a4 a5 v == 0) = (v && (t4 == a5) && decide (a4 ≤ t3) && (decide (a3 = 1 ∨ a3 = 2 ∨ a3 = 4 ∨ a3 = 8)) && (Go.bits .and .i64 t2 a3 != 0)) := by
  unfold token_judge.code
  cases v
  · simp
  · by_cases c1 : t3 < a4
    · simp [c1, Int.not_le.2 c1]
    · by_cases c2 : t4 = a5
      · by_cases c3 : a3 = 1 ∨ a3 = 2 ∨ a3 = 4 ∨ a3 = 8
        · have hp := and_pos h0 h1 c3
          rw [if_pos rfl, if_neg c1, if_pos c2, decide_eq_true c3, decide_eq_true (show a4 ≤ t3 by omega), beq_iff_eq.2 c2]
          by_cases c4 : 0 < Go.bits .and .i64 t2 a3
          · rw [if_pos ⟨c3, c4⟩, bne_iff_ne.2 (show Go.bits .and .i64 t2 a3 ≠ 0 by omega)]; rfl
          · rw [if_neg (fun h => c4 h.2), bne_eq_false_iff_eq.2 (show Go.bits .and .i64 t2 a3 = 0 by omega)]; rfl
        · rw [if_pos rfl, if_neg c1, if_pos c2, if_neg (fun h => c3 h.1), decide_eq_false c3]; simp
      · rw [if_pos rfl, if_neg c1, if_neg c2, beq_eq_false_iff_ne.2 c2]; rfl
theorem TokenGrants (w : World) (A0 : Option Addr) (c0 : Nat) (l0 : List Int) (hr0 : Kd.C (Kd.int .u8) w A0 l0.length l0) (hc0 : l0.length ≤ c0) (_ : l0.length ≤ maxLen) (hw0 : ∀ v ∈ l0, (Lit.int .u8 v).wf = true) (y0 : l0.length * 1 ≤ 140737488351232)
    (A1 : Option Addr) (c1 : Nat) (l1 : List Int) (hr1 : Kd.C (Kd.int .u8) w A1 l1.length l1) (hc1 : l1.length ≤ c1) (_ : l1.length ≤ maxLen) (hw1 : ∀ v ∈ l1, (Lit.int .u8 v).wf = true) (y1 : l1.length * 1 ≤ 140737488351232) (a2 : Int) (w2 : (Lit.int .i64 a2).wf = true) (a3 : Int) (w3 : (Lit.int .i64 a3).wf = true) (a4 : Int) (w4 : (Lit.int .i64 a4).wf = true) (a5 : Int) (w5 : (Lit.int .i64 a5).wf = true) :
    Calls Try.prog 6 #[.slice A0 l0.length c0, .slice A1 l1.length c1, .int .i64 a2, .int .i64 a3, .int .i64 a4, .int .i64 a5] w fun e w' => e = .returned (.bool true) ∧ Below w.heap.size w w' := by
  have hb0 := u8_byt hw0
  have hb1 := u8_byt hw1
  by_cases hs : 200 < (l0.length : Int)
  · exact Wk.grants_long A0 c0 l0 A1 c1 l1 a2 a3 a4 a5 w (decide_eq_true hs)
  · have hs' := decide_eq_false hs
    obtain ⟨k1, g1⟩ := token_Judge_ev l0 l1 hb0 (by omega) hb1 a2 a3 a4 a5
    obtain ⟨k2, g2⟩ := token_Read_ev l1 hb1
    unfold judgeV at g1
    unfold readV at g2
    by_cases ho : okR l1 = true
    · simp only [if_pos ho] at g1 g2
      have hok := ho
      unfold okR at hok
      rw [Bool.and_eq_true] at hok
      have hokT := hok.2
      have hok := of_decide_eq_true (show decide _ = true from hok.2)
      obtain ⟨k3, g3⟩ := token_Mint_ev l0 hb0 (by omega) (rf l1 0) (rf l1 1) (rg l1 2 10) (rg l1 10 18)
      unfold mintV at g3
      simp only [if_pos hokT, body_of_read hb1 ho] at g3
      have hS := Same_f hb1 ((hb1.take 18).app (tagL_byt l0 (l1.take 18)))
      have hv : decide (l1 = l1.take 18 ++ tagL l0 (l1.take 18)) = decide (l1.drop 18 = tagL l0 (l1.take 18)) := by
        rw [decide_eq_decide]
        constructor
        · intro h
          exact (List.append_cancel_left ((List.take_append_drop 18 l1).trans h))
        · intro h
          rw [← h, List.take_append_drop]
      rw [hv] at hS
      have hz := code_zero (rf l1 1) (rg l1 2 10) (rg l1 10 18) a3 a4 a5 (decide (l1.drop 18 = tagL l0 (l1.take 18))) hok.2.2.1 hok.2.2.2.1
      have J := g1 (k1 + k2 + k3) (by omega)
      have D := g2 (k1 + k2 + k3) (by omega)
      have M := g3 (k1 + k2 + k3) (by omega)
      have h21 : ((2 : Int) == 0) = false := rfl
      have hq5 : a3 = 1 ∨ a3 = 2 ∨ a3 = 4 ∨ a3 = 8 ∨ ((a3 == 1) = false ∧ (a3 == 2) = false ∧ (a3 == 4) = false ∧ (a3 == 8) = false) := by
        by_cases h1 : a3 = 1
        · exact .inl h1
        by_cases h2 : a3 = 2
        · exact .inr (.inl h2)
        by_cases h4 : a3 = 4
        · exact .inr (.inr (.inl h4))
        by_cases h8 : a3 = 8
        · exact .inr (.inr (.inr (.inl h8)))
        exact .inr (.inr (.inr (.inr ⟨beq_eq_false_iff_ne.2 h1, beq_eq_false_iff_ne.2 h2, beq_eq_false_iff_ne.2 h4, beq_eq_false_iff_ne.2 h8⟩)))
      have e0 : ((0 : Int) != 0) = false := rfl
      cases hsv : decide (l1.drop 18 = tagL l0 (l1.take 18)) with
      | false =>
        rw [hsv] at hS hz J
        refine Wk.grants_s _ A0 c0 l0 A1 c1 l1 a2 a3 a4 a5 w hr0 hc0 hr1 hc1 hs' _ J _ _ _ _ _ _ D e0 _ M hS hq5 ?_
        split
        · rw [hz]; rfl
        · rfl
      | true =>
        rw [hsv] at hS hz J
        by_cases p1 : rf l1 0 = a2
        · rw [if_pos p1] at J
          by_cases p2 : rg l1 10 18 = a5
          · by_cases p3 : a4 ≤ rg l1 2 10
            · rcases hq5 with h1 | h2 | h4 | h8 | ⟨q1, q2, q4, q8⟩
              rotate_left 4
              · refine Wk.grants_4 _ A0 c0 l0 A1 c1 l1 a2 a3 a4 a5 w hr0 hc0 hr1 hc1 hs' _ J _ _ _ _ _ _ D e0 _ M hS q1 q2 q4 q8 (beq_iff_eq.2 p1) (beq_iff_eq.2 p2) (decide_eq_true p3) ?_
                rw [hz, decide_eq_false (show ¬ (a3 = 1 ∨ a3 = 2 ∨ a3 = 4 ∨ a3 = 8) by
                  rintro (h | h | h | h)
                  · exact absurd h (beq_eq_false_iff_ne.1 q1)
                  · exact absurd h (beq_eq_false_iff_ne.1 q2)
                  · exact absurd h (beq_eq_false_iff_ne.1 q4)
                  · exact absurd h (beq_eq_false_iff_ne.1 q8))]
                simp
              all_goals
                have hq : a3 = 1 ∨ a3 = 2 ∨ a3 = 4 ∨ a3 = 8 := by omega
                rw [decide_eq_true hq, decide_eq_true p3, beq_iff_eq.2 p2] at hz
                cases h4 : (Go.bits .and .i64 (rf l1 1) a3 != 0) with
                | false => exact Wk.grants_5 _ A0 c0 l0 A1 c1 l1 a2 a3 a4 a5 w hr0 hc0 hr1 hc1 hs' _ J _ _ _ _ _ _ D e0 _ M hS hq (beq_iff_eq.2 p1) (beq_iff_eq.2 p2) (decide_eq_true p3) h4 (by rw [hz, h4]; rfl)
                | true => exact Wk.grants_6 _ A0 c0 l0 A1 c1 l1 a2 a3 a4 a5 w hr0 hc0 hr1 hc1 hs' _ J _ _ _ _ _ _ D e0 _ M hS hq (beq_iff_eq.2 p1) (beq_iff_eq.2 p2) (decide_eq_true p3) h4 (by rw [hz, h4]; rfl)
            · exact Wk.grants_3 _ A0 c0 l0 A1 c1 l1 a2 a3 a4 a5 w hr0 hc0 hr1 hc1 hs' _ J _ _ _ _ _ _ D e0 _ M hS hq5 (beq_iff_eq.2 p1) (beq_iff_eq.2 p2) (decide_eq_false p3) (by rw [hz, decide_eq_false p3]; simp)
          · exact Wk.grants_2 _ A0 c0 l0 A1 c1 l1 a2 a3 a4 a5 w hr0 hc0 hr1 hc1 hs' _ J _ _ _ _ _ _ D e0 _ M hS hq5 (beq_iff_eq.2 p1) (beq_eq_false_iff_ne.2 p2) (by rw [hz, beq_eq_false_iff_ne.2 p2]; rfl)
        · rw [if_neg p1] at J
          exact Wk.grants_1 _ A0 c0 l0 A1 c1 l1 a2 a3 a4 a5 w hr0 hc0 hr1 hc1 hs' _ J _ _ _ _ _ _ D e0 _ M hS hq5 (beq_eq_false_iff_ne.2 p1) rfl
    · simp only [if_neg ho] at g1 g2
      exact Wk.grants_none (k1 + k2) A0 c0 l0 A1 c1 l1 a2 a3 a4 a5 w hr0 hc0 hr1 hc1 hs' _ (g1 _ (by omega)) _ _ _ _ _ _ (g2 _ (by omega)) rfl rfl
end Go.Proofs.Ytgkaklpgccjmpaa.Top
