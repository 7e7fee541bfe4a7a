/- Lemmas for RB; a slim copy of this session's texts (slim.py). -/
import Derived.Test.YtejheopcipgmaaaZRBQ10
import Derived.Test.YtejheopcipgmaaaZRBPnum
import Derived.Test.YtejheopcipgmaaaZRBPnumref
import Derived.Test.YtejheopcipgmaaaZRBPsame
import Derived.Test.YtejheopcipgmaaaZRBPcrc
import Derived.Test.YtejheopcipgmaaaZRBPrec
import Derived.Test.YtejheopcipgmaaaZRBPscan
import Derived.Test.YtejheopcipgmaaaZRBWkRecordReads
namespace Go.Proofs.Ytejheopcipgmaaa.Top
open Go.RowKit Go.Proofs.Ytejheopcipgmaaa.Q Go.Proofs.YtejheopcipgmaaaW.PrintWords Go.Proofs.YtejheopcipgmaaaW.PrintLast Go.Proofs.YtejheopcipgmaaaW.PrintMore Go.Proofs.Ytejheopcipgmaaa.Pc Go.Proofs.Ytejheopcipgmaaa.Pn Go.Proofs.Ytejheopcipgmaaa.Pr Go.Proofs.Ytejheopcipgmaaa.Wk
set_option linter.unusedVariables false
set_option linter.unusedSimpArgs false
theorem scan_len (salt : Int) (b : List Int) : ∀ (m : Nat) (acc : List S25) (i : Nat), acc.length ≤ i → i ≤ b.length → (scanN salt b m acc i).1.length ≤ b.length
  | 0, acc, i, h, hi => Nat.le_trans h hi
  | m + 1, acc, i, h, hi => by
    unfold scanN
    split
    · rename_i h0
      obtain ⟨n, hn, n7, nl⟩ := next_ok h0
      rw [List.length_drop] at nl
      rw [hn, Int.toNat_natCast]
      exact scan_len salt b m _ (i + n) (by rw [List.length_append, List.length_singleton]; omega) (by omega)
    · exact Nat.le_trans h hi
theorem RecordReads (w : World) (a0 : Int) (w0 : (Lit.int .u64 a0).wf = true) (A1 : Option Addr) (c1 : Nat) (l1 : List Int) (hr1 : Kd.C (Kd.int .u8) w A1 l1.length l1) (hc1 : l1.length ≤ c1) (_ : l1.length ≤ maxLen) (hw1 : ∀ v ∈ l1, (Lit.int .u8 v).wf = true) (y1 : l1.length * 1 ≤ 140737488351232) :
    Calls Try.prog 10 #[.int .u64 a0, .slice A1 l1.length c1] w fun e w' => e = .returned (.bool true) ∧ Below w.heap.size w w' := by
  have hb : Byt l1 := Byt.of_wf hw1
  obtain ⟨k0, g0⟩ := heads_ev
  by_cases hs : 20000 < (l1.length : Int)
  · exact Wk.reads_long k0 a0 A1 c1 l1 w (decide_eq_true hs) (g0 _ (Nat.le_refl _))
  · obtain ⟨k1, g1⟩ := next_ev a0 hb (by omega)
    obtain ⟨k2, g2⟩ := ref_next_ev a0 hb (by omega)
    obtain ⟨k3, g3⟩ := Scan_ev a0 hb (by omega)
    obtain ⟨k4, g4⟩ := ref_Scan_ev a0 hb (by omega)
    obtain ⟨k5, g5⟩ := RSame_ev [⟨(nextV a0 l1).1, (nextV a0 l1).2.1⟩] (by simp)
    obtain ⟨k6, g6⟩ := RSame_ev (scanV a0 l1).1 (by have := scan_len a0 l1 (l1.length + 1) [] 0 (by simp) (by omega); unfold scanV; omega)
    exact Wk.RecordReads (k0 + k1 + k2 + k3 + k4 + k5 + k6) a0 A1 c1 l1 w hr1 hc1 (decide_eq_false hs) _ _ _ _ _ _ (g1 _ (by omega)) (g2 _ (by omega)) (g3 _ (by omega)) (g4 _ (by omega)) (g5 _ (by omega)) (g6 _ (by omega)) (g0 _ (by omega))
end Go.Proofs.Ytejheopcipgmaaa.Top
