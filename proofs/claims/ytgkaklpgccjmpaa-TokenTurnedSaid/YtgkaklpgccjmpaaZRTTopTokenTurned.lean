/- Lemmas for RT; a slim copy of this session's texts (slim.py). -/
import Derived.Test.YtgkaklpgccjmpaaZRTQ17
import Derived.Test.YtgkaklpgccjmpaaZRTPnum
import Derived.Test.YtgkaklpgccjmpaaZRTPsum
import Derived.Test.YtgkaklpgccjmpaaZRTPhmac
import Derived.Test.YtgkaklpgccjmpaaZRTPtok
import Derived.Test.YtgkaklpgccjmpaaZRTPjud
import Derived.Test.YtgkaklpgccjmpaaZRTPureTokenTurned
namespace Go.Proofs.Ytgkaklpgccjmpaa.Top
open Go.RowKit Go.Proofs.Ytgkaklpgccjmpaa.Q Go.Proofs.YtgkaklpgccjmpaaW.PrintWords Go.Proofs.YtgkaklpgccjmpaaW.PrintLast Go.Proofs.YtgkaklpgccjmpaaW.PrintMore Go.Proofs.Ytgkaklpgccjmpaa.Ph Go.Proofs.Ytgkaklpgccjmpaa.Pk Go.Proofs.Ytgkaklpgccjmpaa.Pn Go.Proofs.Ytgkaklpgccjmpaa.Pure
set_option linter.unusedVariables false
set_option linter.unusedSimpArgs false
theorem TokenTurned (w : World) (A0 : Option Addr) (c0 : Nat) (l0 : List Int) (hr0 : Kd.C (Kd.int .u8) w A0 l0.length l0) (hc0 : l0.length ≤ c0) (_ : l0.length ≤ maxLen) (hw0 : ∀ v ∈ l0, (Lit.int .u8 v).wf = true) (y0 : l0.length * 1 ≤ 140737488351232)
    (cs : Array Value) (x : S24) (hk : k24.K w x cs.toList) (hG : (Lit.int .i64 x.f0).wf = true ∧ (Lit.int .i64 x.f1).wf = true ∧ (Lit.int .i64 x.f2).wf = true ∧ (Lit.int .i64 x.f3).wf = true) (a2 : Int) (w2 : (Lit.int .i64 a2).wf = true) (a3 : Int) (w3 : (Lit.int .i64 a3).wf = true) :
    Calls Try.prog 7 #[.slice A0 l0.length c0, .agg cs, .int .i64 a2, .int .i64 a3] w fun e w' => e = .returned (.bool true) ∧ Below w.heap.size w w' := by
  have e := k24_open hk
  obtain rfl : cs = #[.int .i64 x.f0, .int .i64 x.f1, .int .i64 x.f2, .int .i64 x.f3] := Array.toList_inj.1 e
  obtain ⟨k, h⟩ := Pure.TokenTurned l0 x.f0 x.f1 x.f2 x.f3 a2 a3 hw0 y0
  exact fairleadlaw25_TokenTurned.calls k _ _ l0 _ _ _ _ _ _ true _ hr0 hc0 h
end Go.Proofs.Ytgkaklpgccjmpaa.Top
