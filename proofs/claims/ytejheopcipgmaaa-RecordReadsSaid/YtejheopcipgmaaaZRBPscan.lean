/- Lemmas for RB; a slim copy of this session's texts (slim.py). -/
import Derived.Test.YtejheopcipgmaaaZRBQ12
import Derived.Test.YtejheopcipgmaaaZRBQ4
import Derived.Test.YtejheopcipgmaaaZRBQ8
import Derived.Test.YtejheopcipgmaaaZRBPnum
import Derived.Test.YtejheopcipgmaaaZRBPnumref
import Derived.Test.YtejheopcipgmaaaZRBPsame
import Derived.Test.YtejheopcipgmaaaZRBPcrc
import Derived.Test.YtejheopcipgmaaaZRBPrec
namespace Go.Proofs.Ytejheopcipgmaaa.Pr
open Go.RowKit Go.Proofs.Ytejheopcipgmaaa.Q Go.Proofs.YtejheopcipgmaaaW.PrintWords Go.Proofs.YtejheopcipgmaaaW.PrintLast Go.Proofs.YtejheopcipgmaaaW.PrintMore Go.Proofs.Ytejheopcipgmaaa.Pc Go.Proofs.Ytejheopcipgmaaa.Pn
set_option linter.unusedVariables false
set_option linter.unusedSimpArgs false
def scanN (salt : Int) (b : List Int) : Nat → List S25 → Nat → List S25 × Int
  | 0, acc, i => (acc, (i : Int))
  | m + 1, acc, i => if (nextV salt (b.drop i)).2.2.2 = 0 then scanN salt b m (acc ++ [⟨(nextV salt (b.drop i)).1, (nextV salt (b.drop i)).2.1⟩]) (i + (nextV salt (b.drop i)).2.2.1.toNat) else (acc, (i : Int))
theorem next_ok {salt : Int} {b : List Int} (h : (nextV salt b).2.2.2 = 0) : ∃ n : Nat, (nextV salt b).2.2.1 = (n : Int) ∧ 7 ≤ n ∧ n ≤ b.length := by
  unfold nextV at h ⊢
  split at h
  · exact absurd h (by decide)
  · rename_i h1
    rw [if_neg h1]
    split at h
    · exact absurd h (by decide)
    · rename_i h2
      rw [if_neg h2]
      split at h
      · exact absurd h (by decide)
      · rename_i h3
        rw [if_neg h3]
        split at h
        · rename_i h4
          rw [if_pos h4]
          exact ⟨lenB b + 7, rfl, by omega, by omega⟩
        · exact absurd h (by decide)
theorem scan_ev (salt : Int) (b : List Int) (hb : Byt b) (hl : b.length ≤ 1000000000) : ∀ (m : Nat) (acc : List S25) (i : Nat), b.length - i < m → i ≤ b.length → acc.length ≤ i → Ev (fun k => record_Scan.l0 k salt b acc (i : Int)) (scanN salt b m acc i)
  | 0, _, _, h, _, _ => absurd h (by omega)
  | m + 1, acc, i, h, hi, ha => by
    refine Ev.step (fun k => by rw [record_Scan.l0]) ?_
    simp only [eq_true (show (0 : Int) ≤ (i : Int) by omega), eq_true (show (i : Int) ≤ (b.length : Int) by omega), if_true, Int.toNat_natCast]
    refine Ev.bind (next_ev salt (hb.drop i) (by rw [List.length_drop]; omega)) ?_
    unfold scanN
    by_cases h0 : (nextV salt (b.drop i)).2.2.2 = 0
    · obtain ⟨n, hn, n7, nl⟩ := next_ok h0
      rw [List.length_drop] at nl
      simp only [if_pos h0, eq_true (show acc.length < 4398046511104 by omega), if_true, hn, Int.toNat_natCast]
      have e : wrap64 ((i : Int) + (n : Int)) = ((i + n : Nat) : Int) := by rw [w64 (by omega) (by omega)]; omega
      rw [e]
      exact scan_ev salt b hb hl m _ (i + n) (by omega) (by omega) (by rw [List.length_append, List.length_singleton]; omega)
    · simp only [if_neg h0]
      exact Ev.now _
theorem ref_scan_ev (salt : Int) (b : List Int) (hb : Byt b) (hl : b.length ≤ 1000000000) : ∀ (m : Nat) (acc : List S25) (i : Nat), b.length - i < m → i ≤ b.length → acc.length ≤ i → Ev (fun k => fairleadref14_Scan.l0 k salt b acc (i : Int)) (scanN salt b m acc i)
  | 0, _, _, h, _, _ => absurd h (by omega)
  | m + 1, acc, i, h, hi, ha => by
    refine Ev.step (fun k => by rw [fairleadref14_Scan.l0]) ?_
    simp only [eq_true (show (0 : Int) ≤ (i : Int) by omega), eq_true (show (i : Int) ≤ (b.length : Int) by omega), if_true, Int.toNat_natCast]
    refine Ev.bind (ref_next_ev salt (hb.drop i) (by rw [List.length_drop]; omega)) ?_
    unfold scanN
    by_cases h0 : (nextV salt (b.drop i)).2.2.2 = 0
    · obtain ⟨n, hn, n7, nl⟩ := next_ok h0
      rw [List.length_drop] at nl
      simp only [if_pos h0, eq_true (show acc.length < 4398046511104 by omega), if_true, hn, Int.toNat_natCast]
      have e : wrap64 ((i : Int) + (n : Int)) = ((i + n : Nat) : Int) := by rw [w64 (by omega) (by omega)]; omega
      rw [e]
      exact ref_scan_ev salt b hb hl m _ (i + n) (by omega) (by omega) (by rw [List.length_append, List.length_singleton]; omega)
    · simp only [if_neg h0]
      exact Ev.now _
def scanV (salt : Int) (b : List Int) : List S25 × Int := scanN salt b (b.length + 1) [] 0
theorem Scan_ev (salt : Int) {b : List Int} (hb : Byt b) (hl : b.length ≤ 1000000000) : Ev (fun k => record_Scan.f k salt b) (scanV salt b) := scan_ev salt b hb hl (b.length + 1) [] 0 (by omega) (by omega) (by simp)
theorem ref_Scan_ev (salt : Int) {b : List Int} (hb : Byt b) (hl : b.length ≤ 1000000000) : Ev (fun k => fairleadref14_Scan.f k salt b) (scanV salt b) := ref_scan_ev salt b hb hl (b.length + 1) [] 0 (by omega) (by omega) (by simp)
theorem rsame_ev (l : List S25) (hl : l.length ≤ 1000000000) : ∀ (m i : Nat), m + i = l.length → Ev (fun k => fairleadref14_Same.l0 k l l (i : Int)) true
  | 0, i, h => by
    refine Ev.step (f := fun _ => some true) (fun k => ?_) (Ev.now _)
    rw [fairleadref14_Same.l0, if_neg (by omega)]
  | m + 1, i, h => by
    refine Ev.step (fun k => ?_) (rsame_ev l hl m (i + 1) (by omega))
    rw [fairleadref14_Same.l0, if_pos (by omega), if_pos (by omega), if_pos (by omega), if_pos rfl, Same_self, Option.bind_some, if_pos rfl, w64 (by omega) (by omega)]
    rfl
theorem RSame_ev (l : List S25) (hl : l.length ≤ 1000000000) : Ev (fun k => fairleadref14_Same.f k l l) true := by
  unfold fairleadref14_Same.f
  simp only [if_true]
  exact rsame_ev l hl l.length 0 (by omega)
theorem heads_ev : Ev (fun k => fairleadlaw14_heads.f k) true := Ev.of (fun k => fairleadlaw14_heads.mono k) (k := 300) (by kernel_rfl)
end Go.Proofs.Ytejheopcipgmaaa.Pr
