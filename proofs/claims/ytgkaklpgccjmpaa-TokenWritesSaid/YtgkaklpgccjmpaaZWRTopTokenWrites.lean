/- Lemmas for WR; a slim copy of this session's texts (slim.py). -/
import Derived.Test.YtgkaklpgccjmpaaZWRQ5
import Derived.Test.YtgkaklpgccjmpaaZWRPnum
import Derived.Test.YtgkaklpgccjmpaaZWRPsum
import Derived.Test.YtgkaklpgccjmpaaZWRPhmac
import Derived.Test.YtgkaklpgccjmpaaZWRPtok
import Derived.Test.YtgkaklpgccjmpaaZWRWkTokenWrites
namespace Go.Proofs.Ytgkaklpgccjmpaa.Top
open Go.RowKit Go.Proofs.Ytgkaklpgccjmpaa.Q Go.Proofs.YtgkaklpgccjmpaaW.PrintWords Go.Proofs.YtgkaklpgccjmpaaW.PrintLast Go.Proofs.YtgkaklpgccjmpaaW.PrintMore Go.Proofs.Ytgkaklpgccjmpaa.Ph Go.Proofs.Ytgkaklpgccjmpaa.Pk Go.Proofs.Ytgkaklpgccjmpaa.Pn Go.Proofs.Ytgkaklpgccjmpaa.Wk
set_option linter.unusedVariables false
set_option linter.unusedSimpArgs false
theorem TokenWrites (w : World) (A0 : Option Addr) (c0 : Nat) (l0 : List Int) (hr0 : Kd.C (Kd.int .u8) w A0 l0.length l0) (hc0 : l0.length ≤ c0) (_ : l0.length ≤ maxLen) (hw0 : ∀ v ∈ l0, (Lit.int .u8 v).wf = true) (y0 : l0.length * 1 ≤ 140737488351232)
    (cs : Array Value) (x : S24) (hk : k24.K w x cs.toList) (hG : (Lit.int .i64 x.f0).wf = true ∧ (Lit.int .i64 x.f1).wf = true ∧ (Lit.int .i64 x.f2).wf = true ∧ (Lit.int .i64 x.f3).wf = true)
    (A2 : Option Addr) (c2 : Nat) (l2 : List Int) (hr2 : Kd.C (Kd.int .u8) w A2 l2.length l2) (hc2 : l2.length ≤ c2) (_ : l2.length ≤ maxLen) (hw2 : ∀ v ∈ l2, (Lit.int .u8 v).wf = true) (y2 : l2.length * 1 ≤ 140737488351232) :
    Calls Try.prog 4 #[.slice A0 l0.length c0, .agg cs, .slice A2 l2.length c2] w fun e w' => e = .returned (.bool true) ∧ Below w.heap.size w w' := by
  have e := k24_open hk
  obtain rfl : cs = #[.int .i64 x.f0, .int .i64 x.f1, .int .i64 x.f2, .int .i64 x.f3] := Array.toList_inj.1 e
  have hb0 := u8_byt hw0
  have hb2 := u8_byt hw2
  by_cases hs : 200 < (l0.length : Int)
  · exact Wk.writes_long A0 c0 l0 _ _ _ _ A2 c2 l2 w (decide_eq_true hs)
  · obtain ⟨k1, g1⟩ := token_Mint_ev l0 hb0 (by omega) x.f0 x.f1 x.f2 x.f3
    obtain ⟨k2, g2⟩ := ref_Mint_ev l0 hb0 (by omega) x.f0 x.f1 x.f2 x.f3
    obtain ⟨k3, g3⟩ := token_Body_ev x.f0 x.f1 x.f2 x.f3
    obtain ⟨k4, g4⟩ := ref_Body_ev x.f0 x.f1 x.f2 x.f3
    obtain ⟨k5, g5⟩ := token_Read_ev l2 hb2
    obtain ⟨k6, g6⟩ := ref_Read_ev l2 hb2
    exact Wk.TokenWrites (k1 + k2 + k3 + k4 + k5 + k6) _ _ l0 _ _ _ _ _ _ l2 w hr0 hc0 hr2 hc2 (decide_eq_false hs) _ _ _ _ _ _ _ _ _ _ (g1 _ (by omega)) (g2 _ (by omega)) (g3 _ (by omega)) (g4 _ (by omega)) (g5 _ (by omega)) (g6 _ (by omega))
end Go.Proofs.Ytgkaklpgccjmpaa.Top
