/- Lemmas for RT; a slim copy of this session's texts (slim.py). -/
import Derived.Test.YtejheopcipgmaaaZRTQ2
import Derived.Test.YtejheopcipgmaaaZRTPnum
import Derived.Lib.Bytes
namespace Go.Proofs.Ytejheopcipgmaaa.Pn
open Go.RowKit Go.Proofs.Ytejheopcipgmaaa.Q Go.Proofs.YtejheopcipgmaaaW.PrintWords Go.Proofs.YtejheopcipgmaaaW.PrintLast Go.Proofs.YtejheopcipgmaaaW.PrintMore
set_option linter.unusedVariables false
set_option linter.unusedSimpArgs false
def byL (l : List Int) : List UInt8 := l.map fun n => UInt8.ofNat n.toNat
theorem bytes_inj : ∀ {a b : List Int}, Byt a → Byt b → byL a = byL b → a = b
  | [], [], _, _, _ => rfl
  | [], y :: b, _, _, h => by simp [byL] at h
  | x :: a, [], _, _, h => by simp [byL] at h
  | x :: a, y :: b, ha, hb, h => by
    have hx := ha x List.mem_cons_self
    have hy := hb y List.mem_cons_self
    simp only [byL, List.map_cons, List.cons.injEq] at h
    have ht : a = b := bytes_inj (fun z hz => ha z (List.mem_cons_of_mem _ hz)) (fun z hz => hb z (List.mem_cons_of_mem _ hz)) h.2
    have hh := congrArg UInt8.toNat h.1
    simp only [UInt8.toNat_ofNat'] at hh
    rw [ht, show x = y by omega]
theorem Same_f {a b : List Int} (ha : Byt a) (hb : Byt b) : fairleadref01_Same.f a b = some (decide (a = b)) := by
  unfold fairleadref01_Same.f
  rw [show (strOfNums a).toList = byL a from Go.Lib.strOfNums_toList a, show (strOfNums b).toList = byL b from Go.Lib.strOfNums_toList b]
  by_cases h : a = b
  · rw [h, beq_self_eq_true, decide_eq_true rfl]
  · rw [decide_eq_false h]
    congr 1
    simp only [beq_eq_false_iff_ne, ne_eq]
    exact fun e => h (bytes_inj ha hb e)
end Go.Proofs.Ytejheopcipgmaaa.Pn
