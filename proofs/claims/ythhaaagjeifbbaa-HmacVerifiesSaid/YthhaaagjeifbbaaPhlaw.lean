/- Lemmas of layer 8's laws: small, Same, Verify. No claim. -/
import Derived.Test.YthhaaagjeifbbaaQ1
import Derived.Test.YthhaaagjeifbbaaQ2
import Derived.Test.YthhaaagjeifbbaaQ7
import Derived.Test.YthhaaagjeifbbaaPnum
import Derived.Test.YthhaaagjeifbbaaPsum
import Derived.Test.YthhaaagjeifbbaaPhmac
import Derived.Lib.Bytes
namespace Go.Proofs.Ythhaaagjeifbbaa.Ph
open Go.RowKit Go.Proofs.Ythhaaagjeifbbaa.Q Go.Proofs.YthhaaagjeifbbaaW.PrintWords Go.Proofs.YthhaaagjeifbbaaW.PrintLast Go.Proofs.YthhaaagjeifbbaaW.PrintMore Go.Proofs.Ythhaaagjeifbbaa.Pn
set_option linter.unusedVariables false
set_option linter.unusedSimpArgs false
theorem small_f (a b : List Int) : fairleadlaw08_small.f a b = some (decide (a.length ≤ 2000 ∧ b.length ≤ 2000)) := by
  unfold fairleadlaw08_small.f
  by_cases h0 : (a.length : Int) ≤ 2000
  · rw [if_pos h0, decide_eq_decide.2 (show (b.length : Int) ≤ 2000 ↔ a.length ≤ 2000 ∧ b.length ≤ 2000 by omega)]
  · rw [if_neg h0, decide_eq_false (by omega)]
def byL (l : List Int) : List UInt8 := l.map fun n => UInt8.ofNat n.toNat
theorem bytes_inj : ∀ {a b : List Int}, Byt a → Byt b → byL a = byL b → a = b
  | [], [], _, _, _ => rfl
  | [], y :: b, _, _, h => by simp [byL] at h
  | x :: a, [], _, _, h => by simp [byL] at h
  | x :: a, y :: b, ha, hb, h => by
    have hx := ha x List.mem_cons_self
    have hy := hb y List.mem_cons_self
    simp only [byL, List.map_cons, List.cons.injEq] at h
    have ht : a = b := bytes_inj (fun z hz => ha z (List.mem_cons_of_mem _ hz)) (fun z hz => hb z (List.mem_cons_of_mem _ hz)) h.2
    have hh := congrArg UInt8.toNat h.1
    simp only [UInt8.toNat_ofNat'] at hh
    rw [ht, show x = y by omega]
theorem Same_f {a b : List Int} (ha : Byt a) (hb : Byt b) : fairleadref01_Same.f a b = some (decide (a = b)) := by
  unfold fairleadref01_Same.f
  rw [show (strOfNums a).toList = byL a from Go.Lib.strOfNums_toList a, show (strOfNums b).toList = byL b from Go.Lib.strOfNums_toList b]
  by_cases h : a = b
  · rw [h, beq_self_eq_true, decide_eq_true rfl]
  · rw [decide_eq_false h]
    congr 1
    simp only [beq_eq_false_iff_ne, ne_eq]
    exact fun e => h (bytes_inj ha hb e)
theorem verify_ev (key t text : List Int) (hb : Byt key) (hl : key.length ≤ 100000000) (ht : Byt text) (htl : text.length ≤ 100000000) : Ev (fun k => hmac_Verify.f k key t [text]) (decide (t = tagL key text)) := by
  by_cases h : t.length = 32
  · refine Ev.congr (f := fun k => (hmac_Tag.f k key [text]).bind fun u => if 32 ≤ u.length then some (decide (t = u.take 32)) else none) (fun k => by rw [hmac_Verify.f, if_pos h]) (Ev.bind (hmac_Tag1_ev key text hb hl ht htl) ?_)
    have h32 := tagL_len key text
    simp only [eq_true (show 32 ≤ (tagL key text).length by omega), if_true, List.take_of_length_le (show (tagL key text).length ≤ 32 by omega)]
    exact Ev.now _
  · refine Ev.congr (f := fun _ => some false) (fun k => by rw [hmac_Verify.f, if_neg h]) ?_
    rw [decide_eq_false (fun e => h (by rw [e, tagL_len]))]
    exact Ev.now _
end Go.Proofs.Ythhaaagjeifbbaa.Ph
