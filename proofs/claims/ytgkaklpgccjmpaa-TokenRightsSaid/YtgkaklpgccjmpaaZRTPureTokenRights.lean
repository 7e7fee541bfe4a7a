/- Lemmas for RT; a slim copy of this session's texts (slim.py). -/
import Derived.Test.YtgkaklpgccjmpaaZRTQ9
import Derived.Test.YtgkaklpgccjmpaaZRTPnum
import Derived.Test.YtgkaklpgccjmpaaZRTPsum
import Derived.Test.YtgkaklpgccjmpaaZRTPhmac
import Derived.Test.YtgkaklpgccjmpaaZRTPtok
import Derived.Test.YtgkaklpgccjmpaaZRTPjud
namespace Go.Proofs.Ytgkaklpgccjmpaa.Pure
open Go.RowKit Go.Proofs.Ytgkaklpgccjmpaa.Q Go.Proofs.YtgkaklpgccjmpaaW.PrintWords Go.Proofs.YtgkaklpgccjmpaaW.PrintLast Go.Proofs.YtgkaklpgccjmpaaW.PrintMore Go.Proofs.Ytgkaklpgccjmpaa.Ph Go.Proofs.Ytgkaklpgccjmpaa.Pk Go.Proofs.Ytgkaklpgccjmpaa.Pn
set_option linter.unusedVariables false
set_option linter.unusedSimpArgs false
theorem rights_ev (key : List Int) (t1 t2 t3 t4 now : Int) (hk : Byt key) (hl : key.length ≤ 200) (h : okT t1 t2 t3 t4 = true) :
    Ev (fun k => fairleadlaw25_TokenRights.l0 k key now (bodyL t1 t2 t3 t4 ++ tagL key (bodyL t1 t2 t3 t4)) 0 t1 t2 t3 t4) true := by
  have hT := tagL_len key (bodyL t1 t2 t3 t4)
  have hB : Byt (bodyL t1 t2 t3 t4 ++ tagL key (bodyL t1 t2 t3 t4)) := (bodyL_byt _ _ _ _).app (tagL_byt _ _)
  have ho := h
  unfold okT at ho
  have ho := of_decide_eq_true ho
  have main : ∀ (i r : Int) (K : Nat → Option Bool), (r = 1 ∨ r = 2 ∨ r = 4 ∨ r = 8) → Ev K true → Ev (fun k => (token_Judge.f k key (bodyL t1 t2 t3 t4 ++ tagL key (bodyL t1 t2 t3 t4)) t1 r now t4).bind fun t223 => (if now > t3 then (if t223 = 4 then K k else (some false)) else (if (Go.bits .and .i64 t2 r) = 0 then (if t223 = 6 then K k else (some false)) else (if t223 = 0 then K k else (some false))))) true := by
    intro i r K hr hK
    refine Ev.bind (token_Judge_ev key _ hk (by omega) hB t1 r now t4) ?_
    rw [judge_minted h hT, decide_eq_true rfl]
    have hp := and_pos ho.2.2.1 ho.2.2.2.1 hr
    unfold token_judge.code
    by_cases c1 : t3 < now
    · simp only [if_true, if_pos c1, eq_true (show now > t3 from c1)]; exact hK
    · simp only [if_true, if_neg c1, eq_false (show ¬ now > t3 from c1), if_false]
      by_cases c2 : Go.bits .and .i64 t2 r = 0
      · simp only [c2, if_true, Int.lt_irrefl, and_false, if_false]; exact hK
      · simp only [if_neg c2, if_pos (show (r = 1 ∨ r = 2 ∨ r = 4 ∨ r = 8) ∧ 0 < Go.bits .and .i64 t2 r from ⟨hr, by omega⟩), if_true]; exact hK
  have step : ∀ (i : Nat) (r : Int), i < 4 → shl .i64 1 (IntKind.u64.wrap (i : Int)) = r → (r = 1 ∨ r = 2 ∨ r = 4 ∨ r = 8) → Ev (fun k => fairleadlaw25_TokenRights.l0 k key now (bodyL t1 t2 t3 t4 ++ tagL key (bodyL t1 t2 t3 t4)) ((i : Int) + 1) t1 t2 t3 t4) true → Ev (fun k => fairleadlaw25_TokenRights.l0 k key now (bodyL t1 t2 t3 t4 ++ tagL key (bodyL t1 t2 t3 t4)) (i : Int) t1 t2 t3 t4) true := by
    intro i r hi hs hr hK
    refine Ev.step (fun k => by rw [fairleadlaw25_TokenRights.l0]) ?_
    have e : wrap64 ((i : Int) + 1) = (i : Int) + 1 := w64 (by omega) (by omega)
    have e0 : (0 : Int) ≤ IntKind.u64.wrap (i : Int) := by rw [wu64]; omega
    simp only [if_pos (show (i : Int) < 4 by omega), if_pos e0, hs, e]
    exact main i r _ hr hK
  refine step 0 1 (by omega) (by decide) (by omega) (step 1 2 (by omega) (by decide) (by omega) (step 2 4 (by omega) (by decide) (by omega) (step 3 8 (by omega) (by decide) (by omega) ?_)))
  refine Ev.step (fun k => by rw [fairleadlaw25_TokenRights.l0]) ?_
  simp only [if_neg (show ¬ ((3 : Nat) : Int) + 1 < 4 by omega), fairleadlaw25_heads.f, Option.bind_some]
  exact Ev.now _
theorem TokenRights (l0 : List Int) (t1 t2 t3 t4 now : Int) (hw0 : ∀ x ∈ l0, (Lit.int .u8 x).wf = true) (hl : l0.length * 1 ≤ 140737488351232) : ∃ k, fairleadlaw25_TokenRights.f k l0 t1 t2 t3 t4 now = some true := by
  refine Ev.rounds ?_
  have hb0 := u8_byt hw0
  have hd : Ev (fun k => fairleadlaw25_TokenRights.j0 k l0 now ([] : List Int) true t1 t2 t3 t4) true := by
    refine Ev.step (fun k => by rw [fairleadlaw25_TokenRights.j0]) ?_
    simp only [if_true, fairleadlaw25_heads.f, Option.bind_some]
    exact Ev.now _
  unfold fairleadlaw25_TokenRights.f
  refine Ev.bind (token_Mint_ev l0 hb0 (by omega) t1 t2 t3 t4) ?_
  unfold mintV
  by_cases h : okT t1 t2 t3 t4 = true
  · simp only [if_pos h, if_true]
    refine Ev.step (fun k => by rw [fairleadlaw25_TokenRights.j0]) ?_
    by_cases hs : (l0.length : Int) > 200
    · simp only [decide_eq_true hs, if_true, fairleadlaw25_heads.f, Option.bind_some]
      exact Ev.now _
    · simp only [decide_eq_false hs, Bool.false_eq_true, if_false]
      exact rights_ev l0 t1 t2 t3 t4 now hb0 (by omega) h
  · simp only [if_neg h]
    exact hd
end Go.Proofs.Ytgkaklpgccjmpaa.Pure
