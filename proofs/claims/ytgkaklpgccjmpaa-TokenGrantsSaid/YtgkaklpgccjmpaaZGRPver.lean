/- Lemmas for GR; a slim copy of this session's texts (slim.py). -/
import Derived.Test.YtgkaklpgccjmpaaZGRQ7
import Derived.Test.YtgkaklpgccjmpaaZGRPnum
import Derived.Test.YtgkaklpgccjmpaaZGRPsum
import Derived.Test.YtgkaklpgccjmpaaZGRPhmac
namespace Go.Proofs.Ytgkaklpgccjmpaa.Ph
open Go.RowKit Go.Proofs.Ytgkaklpgccjmpaa.Q Go.Proofs.YtgkaklpgccjmpaaW.PrintWords Go.Proofs.YtgkaklpgccjmpaaW.PrintLast Go.Proofs.YtgkaklpgccjmpaaW.PrintMore Go.Proofs.Ytgkaklpgccjmpaa.Pn
set_option linter.unusedVariables false
set_option linter.unusedSimpArgs false
theorem verify_ev (key t text : List Int) (hb : Byt key) (hl : key.length ≤ 140737488355000) (ht : Byt text) (htl : text.length ≤ 100000000) : Ev (fun k => hmac_Verify.f k key t [text]) (decide (t = tagL key text)) := by
  by_cases h : t.length = 32
  · refine Ev.congr (f := fun k => (hmac_Tag.f k key [text]).bind fun u => if 32 ≤ u.length then some (decide (t = u.take 32)) else none) (fun k => by rw [hmac_Verify.f, if_pos h]) (Ev.bind (hmac_Tag1_ev key text hb hl ht htl) ?_)
    have h32 := tagL_len key text
    simp only [eq_true (show 32 ≤ (tagL key text).length by omega), if_true, List.take_of_length_le (show (tagL key text).length ≤ 32 by omega)]
    exact Ev.now _
  · refine Ev.congr (f := fun _ => some false) (fun k => by rw [hmac_Verify.f, if_neg h]) ?_
    rw [decide_eq_false (fun e => h (by rw [e, tagL_len]))]
    exact Ev.now _
end Go.Proofs.Ytgkaklpgccjmpaa.Ph
