/- Lemmas for RT; a slim copy of this session's texts (slim.py). -/
import Derived.Test.YtejheopcipgmaaaZRTQ10
import Derived.Test.YtejheopcipgmaaaZRTQ2
import Derived.Test.YtejheopcipgmaaaZRTPnum
import Derived.Test.YtejheopcipgmaaaZRTQ0
import Derived.Test.YtejheopcipgmaaaZRTPsame
import Derived.Test.YtejheopcipgmaaaZRTPcrc
import Derived.Test.YtejheopcipgmaaaZRTPrec
import Derived.Test.YtejheopcipgmaaaZRTPscan
import Derived.Test.YtejheopcipgmaaaZRTPturn
import Derived.Test.YtejheopcipgmaaaZRTWkRecordTurned
namespace Go.Proofs.Ytejheopcipgmaaa.Top
open Go.RowKit Go.Proofs.Ytejheopcipgmaaa.Q Go.Proofs.YtejheopcipgmaaaW.PrintWords Go.Proofs.YtejheopcipgmaaaW.PrintLast Go.Proofs.YtejheopcipgmaaaW.PrintMore Go.Proofs.Ytejheopcipgmaaa.Pc Go.Proofs.Ytejheopcipgmaaa.Pn Go.Proofs.Ytejheopcipgmaaa.Pr Go.Proofs.Ytejheopcipgmaaa.Wk
set_option linter.unusedVariables false
set_option linter.unusedSimpArgs false
theorem RecordTurned (w : World) (a0 : Int) (w0 : (Lit.int .u64 a0).wf = true) (cs : Array Value) (x : S25) (hk : k25.K w x cs.toList) (hG : (Lit.int .i64 x.f0).wf = true ∧ (x.f1.length ≤ maxLen ∧ ∀ v ∈ x.f1, (Lit.int .u8 v).wf = true)) (bit : Int) (w2 : (Lit.int .i64 bit).wf = true) :
    Calls Try.prog 11 #[.int .u64 a0, .agg cs, .int .i64 bit] w fun e w' => e = .returned (.bool true) ∧ Below w.heap.size w w' := by
  obtain ⟨A, c, e, hc, hC⟩ := k25_open hk
  obtain rfl : cs = #[.int .i64 x.f0, .slice A x.f1.length c] := Array.toList_inj.1 e
  have hd : Byt x.f1 := Byt.of_wf hG.2.2
  obtain ⟨k0, g0⟩ := heads_ev
  obtain ⟨k1, g1⟩ := Frame_ev a0 x.f0 hd
  unfold frameV at g1
  by_cases hok : okRec x.f0 x.f1 = true
  · simp only [if_pos hok] at g1
    have hfl := frL_len a0 x.f0 x.f1
    have hfb := frL_byt (salt := a0) (t := x.f0) hd
    have e0 : ((0 : Int) != 0) = false := rfl
    by_cases h2 : 300 < (x.f1.length : Int)
    · exact Wk.turned_d (k0 + k1) a0 x.f0 A c x.f1 bit w hC hc _ _ (g1 _ (by omega)) (g0 _ (by omega)) e0 (decide_eq_true h2)
    · by_cases h3 : bit < 0
      · exact Wk.turned_n (k0 + k1) a0 x.f0 A c x.f1 bit w hC hc _ _ (g1 _ (by omega)) (g0 _ (by omega)) e0 (decide_eq_false h2) (decide_eq_true h3)
      · by_cases h4 : 8 * ((frL a0 x.f0 x.f1).length : Int) ≤ bit
        · exact Wk.turned_g (k0 + k1) a0 x.f0 A c x.f1 bit w hC hc _ _ (g1 _ (by omega)) (g0 _ (by omega)) e0 (decide_eq_false h2) (decide_eq_false h3) (decide_eq_true h4) (by omega)
        · have hj : (bit / 8).toNat < (frL a0 x.f0 x.f1).length := by omega
          have hrd : rd (frL a0 x.f0 x.f1) (bit / 8) = (frL a0 x.f0 x.f1)[(bit / 8).toNat] := by
            unfold rd
            rw [List.getD_eq_getElem?_getD, List.getElem?_eq_getElem hj, Option.getD_some]
          have hxb := hfb _ (List.getElem_mem hj)
          obtain ⟨hne, hv0, hv1⟩ := flip_ne ((frL a0 x.f0 x.f1)[(bit / 8).toNat]) (bit % 8).toNat hxb.1 hxb.2 (by omega)
          rw [← hrd] at hne hv0 hv1
          generalize hv : Go.bits .xor .u8 (rd (frL a0 x.f0 x.f1) (bit / 8)) (2 ^ (bit % 8).toNat % 256) = v at hne hv0 hv1
          have hbb : Byt ((frL a0 x.f0 x.f1).set (bit / 8).toNat v) := fun y hy => (List.mem_or_eq_of_mem_set hy).elim (hfb y) (fun e => e ▸ ⟨hv0, hv1⟩)
          have hl' : ((frL a0 x.f0 x.f1).set (bit / 8).toNat v).length = x.f1.length + 7 := by rw [List.length_set, hfl]
          obtain ⟨k2, g2⟩ := next_ev a0 hbb (by omega)
          unfold okRec at hok
          have ho := of_decide_eq_true hok
          by_cases hz : (nextV a0 ((frL a0 x.f0 x.f1).set (bit / 8).toNat v)).2.2.2 = 0
          · have hn := turned_len hd (bit / 8).toNat v hj (by rw [← hrd]; exact hne) ⟨hv0, hv1⟩ hz
            obtain ⟨n1, n2, n3, n4⟩ := next_good hz
            obtain ⟨k3, g3⟩ := same_no (t := x.f0) (s1 := (nextV a0 ((frL a0 x.f0 x.f1).set (bit / 8).toNat v)).1) hd (s2 := (nextV a0 ((frL a0 x.f0 x.f1).set (bit / 8).toNat v)).2.1) (by rw [n4]; exact (hbb.take _).drop _) (.inr (fun h => hn (by rw [← n1, ← h])))
            refine Wk.turned_y (k0 + k1 + k2 + k3) a0 x.f0 A c x.f1 bit w hC hc _ _ (g1 _ (by omega)) (g0 _ (by omega)) e0 (decide_eq_false h2) (decide_eq_false h3) (decide_eq_false h4) (by omega) (by omega) (by omega) (by omega) _ (nextV a0 ((frL a0 x.f0 x.f1).set (bit / 8).toNat v)).2.2.1 _ _ (by rw [hv]; exact g2 _ (by omega)) (g3 _ (by omega)) (bne_eq_false_iff_eq.2 hz) ?_
            rw [hv, n2, hl']
            exact decide_eq_true (by omega)
          · obtain ⟨n1, n2, n3⟩ := next_bad hz
            obtain ⟨k3, g3⟩ := same_no (t := x.f0) (s1 := (nextV a0 ((frL a0 x.f0 x.f1).set (bit / 8).toNat v)).1) hd (s2 := (nextV a0 ((frL a0 x.f0 x.f1).set (bit / 8).toNat v)).2.1) (by rw [n2]; exact Byt.nil) (.inl (by rw [n1]; omega))
            exact Wk.turned_x (k0 + k1 + k2 + k3) a0 x.f0 A c x.f1 bit w hC hc _ _ (g1 _ (by omega)) (g0 _ (by omega)) e0 (decide_eq_false h2) (decide_eq_false h3) (decide_eq_false h4) (by omega) (by omega) (by omega) (by omega) _ (nextV a0 ((frL a0 x.f0 x.f1).set (bit / 8).toNat v)).2.2.1 _ _ (by rw [hv]; exact g2 _ (by omega)) (g3 _ (by omega)) (bne_iff_ne.2 hz) (by rw [n3]; rfl)
  · simp only [if_neg hok] at g1
    exact Wk.turned_e (k0 + k1) a0 x.f0 A c x.f1 bit w hC hc _ _ (g1 _ (by omega)) (g0 _ (by omega)) rfl
end Go.Proofs.Ytejheopcipgmaaa.Top
