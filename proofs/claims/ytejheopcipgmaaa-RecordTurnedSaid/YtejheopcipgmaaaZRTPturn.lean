/- Lemmas for RT; a slim copy of this session's texts (slim.py). -/
import Derived.Test.YtejheopcipgmaaaZRTQ8
import Derived.Test.YtejheopcipgmaaaZRTPnum
import Derived.Test.YtejheopcipgmaaaZRTQ10
import Derived.Test.YtejheopcipgmaaaZRTQ0
import Derived.Test.YtejheopcipgmaaaZRTPsame
import Derived.Test.YtejheopcipgmaaaZRTPcrc
import Derived.Test.YtejheopcipgmaaaZRTPrec
import Derived.Test.YtejheopcipgmaaaZRTPscan
namespace Go.Proofs.Ytejheopcipgmaaa.Pr
open Go.RowKit Go.Proofs.Ytejheopcipgmaaa.Q Go.Proofs.YtejheopcipgmaaaW.PrintWords Go.Proofs.YtejheopcipgmaaaW.PrintLast Go.Proofs.YtejheopcipgmaaaW.PrintMore Go.Proofs.Ytejheopcipgmaaa.Pc Go.Proofs.Ytejheopcipgmaaa.Pn
set_option linter.unusedVariables false
set_option linter.unusedSimpArgs false
theorem flip_fin : ∀ x : Fin 256, ∀ b : Fin 8, Go.bits .xor .u8 ((x.val : Nat) : Int) ((2 : Int) ^ b.val % 256) ≠ ((x.val : Nat) : Int) ∧ 0 ≤ Go.bits .xor .u8 ((x.val : Nat) : Int) ((2 : Int) ^ b.val % 256) ∧ Go.bits .xor .u8 ((x.val : Nat) : Int) ((2 : Int) ^ b.val % 256) < 256 := by decide +kernel
theorem flip_ne (x : Int) (b : Nat) (h0 : 0 ≤ x) (h1 : x < 256) (hb : b < 8) : Go.bits .xor .u8 x (2 ^ b % 256) ≠ x ∧ 0 ≤ Go.bits .xor .u8 x (2 ^ b % 256) ∧ Go.bits .xor .u8 x (2 ^ b % 256) < 256 := by
  have := flip_fin ⟨x.toNat, by omega⟩ ⟨b, hb⟩
  simpa only [Int.toNat_of_nonneg h0] using this
theorem set_split {l : List Int} {j : Nat} (h : j < l.length) (v : Int) : l.set j v = l.take j ++ v :: l.drop (j + 1) ∧ l = l.take j ++ l[j] :: l.drop (j + 1) := by
  refine ⟨by rw [List.set_eq_take_append_cons_drop, if_pos h], ?_⟩
  rw [← List.drop_eq_getElem_cons h, List.take_append_drop]
theorem turned_len {salt t : Int} {d : List Int} (hd : Byt d) (j : Nat) (v : Int) (hj : j < (frL salt t d).length) (hv : v ≠ (frL salt t d)[j]) (hvb : 0 ≤ v ∧ v < 256) (h0 : (nextV salt ((frL salt t d).set j v)).2.2.2 = 0) : lenB ((frL salt t d).set j v) ≠ d.length := by
  intro hl
  have hp := preL_len t d
  have hpb := preL_byt (t := t) hd
  have hsl := sumB_len (bePut salt 8 ++ preL t d)
  have hs : sumB (bePut salt 8 ++ ((frL salt t d).set j v).take (3 + d.length)) = (((frL salt t d).set j v).take (3 + d.length + 4)).drop (3 + d.length) := by
    unfold nextV at h0
    rw [hl] at h0
    split at h0
    · exact absurd h0 (by decide)
    · split at h0
      · exact absurd h0 (by decide)
      · split at h0
        · exact absurd h0 (by decide)
        · split at h0
          · assumption
          · exact absurd h0 (by decide)
  have hf : frL salt t d = preL t d ++ sumB (bePut salt 8 ++ preL t d) := rfl
  rcases Nat.lt_or_ge j (3 + d.length) with h1 | h1
  · have e : (frL salt t d).set j v = (preL t d).set j v ++ sumB (bePut salt 8 ++ preL t d) := by rw [hf, List.set_append_left _ _ (by omega)]
    have t1 : ((frL salt t d).set j v).take (3 + d.length) = (preL t d).set j v := by
      rw [e, List.take_append_of_le_length (by rw [List.length_set]; omega), List.take_of_length_le (by rw [List.length_set]; omega)]
    have t2 : (((frL salt t d).set j v).take (3 + d.length + 4)).drop (3 + d.length) = sumB (bePut salt 8 ++ preL t d) := by
      rw [e, List.take_of_length_le (by rw [List.length_append, List.length_set]; omega), List.drop_append_of_le_length (by rw [List.length_set]; omega), List.drop_of_length_le (by rw [List.length_set]; omega), List.nil_append]
    rw [t1, t2] at hs
    obtain ⟨s1, s2⟩ := set_split (l := preL t d) (j := j) (by omega) v
    have hx : (frL salt t d)[j] = (preL t d)[j]'(by omega) := by
      simp only [hf]
      rw [List.getElem_append_left]
    have hxb := hpb _ (List.getElem_mem (l := preL t d) (n := j) (by omega))
    have hc := sumB_inj (salted_byt (by
      rw [s1]
      refine (hpb.take _).app (fun y hy => ?_)
      rcases List.mem_cons.1 hy with rfl | hy
      · exact hvb
      · exact hpb.drop _ y hy)) (salted_byt hpb) hs
    rw [s1] at hc
    conv at hc => rhs; rw [s2]
    rw [← List.append_assoc, ← List.append_assoc] at hc
    exact hv ((crcL_flip (salted_byt (hpb.take _)) (hpb.drop _) hvb hxb hc).trans hx.symm)
  · have e : (frL salt t d).set j v = preL t d ++ (sumB (bePut salt 8 ++ preL t d)).set (j - (3 + d.length)) v := by rw [hf, List.set_append_right _ _ (by omega), hp]
    have t1 : ((frL salt t d).set j v).take (3 + d.length) = preL t d := by
      rw [e, List.take_append_of_le_length (by omega), List.take_of_length_le (by omega)]
    have t2 : (((frL salt t d).set j v).take (3 + d.length + 4)).drop (3 + d.length) = (sumB (bePut salt 8 ++ preL t d)).set (j - (3 + d.length)) v := by
      rw [e, List.take_of_length_le (by rw [List.length_append, List.length_set]; omega), List.drop_append_of_le_length (by omega), List.drop_of_length_le (by omega), List.nil_append]
    rw [t1, t2] at hs
    have hjl : j - (3 + d.length) < (sumB (bePut salt 8 ++ preL t d)).length := by rw [frL_len] at hj; omega
    have h2 : ((sumB (bePut salt 8 ++ preL t d)).set (j - (3 + d.length)) v)[j - (3 + d.length)]? = some v := by rw [List.getElem?_set_self hjl]
    rw [← hs, List.getElem?_eq_getElem hjl, Option.some.injEq] at h2
    have h3 : (frL salt t d)[j] = (sumB (bePut salt 8 ++ preL t d))[j - (3 + d.length)] := by
      simp only [hf]
      rw [List.getElem_append_right (by omega)]
      simp only [hp]
    exact hv (by rw [h3, h2])
theorem next_bad {salt : Int} {b : List Int} (h : (nextV salt b).2.2.2 ≠ 0) : (nextV salt b).1 = 0 ∧ (nextV salt b).2.1 = [] ∧ (nextV salt b).2.2.1 = 0 := by
  unfold nextV at h ⊢
  split
  · exact ⟨rfl, rfl, rfl⟩
  · split
    · exact ⟨rfl, rfl, rfl⟩
    · split
      · exact ⟨rfl, rfl, rfl⟩
      · split
        · rename_i h1 h2 h3 h4
          rw [if_neg h1, if_neg h2, if_neg h3, if_pos h4] at h
          exact absurd rfl h
        · exact ⟨rfl, rfl, rfl⟩
theorem next_good {salt : Int} {b : List Int} (h : (nextV salt b).2.2.2 = 0) : (nextV salt b).2.1.length = lenB b ∧ (nextV salt b).2.2.1 = ((lenB b + 7 : Nat) : Int) ∧ lenB b + 7 ≤ b.length ∧ (nextV salt b).2.1 = (b.take (3 + lenB b)).drop 3 := by
  unfold nextV at h ⊢
  split at h
  · exact absurd h (by decide)
  · rename_i h1
    rw [if_neg h1]
    split at h
    · exact absurd h (by decide)
    · rename_i h2
      rw [if_neg h2]
      split at h
      · exact absurd h (by decide)
      · rename_i h3
        rw [if_neg h3]
        split at h
        · rename_i h4
          rw [if_pos h4]
          refine ⟨?_, rfl, by omega, rfl⟩
          show ((b.take (3 + lenB b)).drop 3).length = _
          rw [List.length_drop, List.length_take]
          omega
        · exact absurd h (by decide)
theorem same_no {t s1 : Int} {d s2 : List Int} (hd : Byt d) (hs : Byt s2) (h : t ≠ s1 ∨ d ≠ s2) : Ev (fun k => fairleadref14_Same.f k [⟨t, d⟩] [⟨s1, s2⟩]) false := by
  unfold fairleadref14_Same.f
  simp only [List.length_cons, List.length_nil, if_true]
  refine Ev.step (fun k => by rw [fairleadref14_Same.l0]) ?_
  simp only [List.length_cons, List.length_nil, eq_true (show (0 : Int) < ((0 + 1 : Nat) : Int) by decide), Int.le_refl, if_true]
  show Ev (fun k => if t = s1 then ((fairleadref01_Same.f d s2).bind fun t216 => (if t216 = true then (fairleadref14_Same.l0 k [⟨t, d⟩] [⟨s1, s2⟩] (wrap64 (0 + 1))) else (some false))) else (some false)) false
  by_cases h1 : t = s1
  · simp only [if_pos h1, Same_f hd hs, decide_eq_false (h.resolve_left (fun hn => hn h1)), Option.bind_some, Bool.false_eq_true, if_false]
    exact Ev.now _
  · simp only [if_neg h1]
    exact Ev.now _
end Go.Proofs.Ytejheopcipgmaaa.Pr
