/- Lemmas for RB; a slim copy of this session's texts (slim.py). -/
import Derived.Test.YtejheopcipgmaaaZRBQ1
import Derived.Test.YtejheopcipgmaaaZRBQ10
import Derived.Test.YtejheopcipgmaaaZRBQ11
import Derived.Test.YtejheopcipgmaaaZRBQ2
import Derived.Test.YtejheopcipgmaaaZRBQ3
import Derived.Test.YtejheopcipgmaaaZRBQ5
import Derived.Test.YtejheopcipgmaaaZRBQ6
import Derived.Test.YtejheopcipgmaaaZRBPnum
import Derived.Test.YtejheopcipgmaaaZRBPnumref
import Derived.Test.YtejheopcipgmaaaZRBPsame
import Derived.Test.YtejheopcipgmaaaZRBPcrc
namespace Go.Proofs.Ytejheopcipgmaaa.Pr
open Go.RowKit Go.Proofs.Ytejheopcipgmaaa.Q Go.Proofs.YtejheopcipgmaaaW.PrintWords Go.Proofs.YtejheopcipgmaaaW.PrintLast Go.Proofs.YtejheopcipgmaaaW.PrintMore Go.Proofs.Ytejheopcipgmaaa.Pc Go.Proofs.Ytejheopcipgmaaa.Pn
set_option linter.unusedVariables false
set_option linter.unusedSimpArgs false
theorem Same_self (a : List Int) : fairleadref01_Same.f a a = some true := by
  unfold fairleadref01_Same.f
  rw [beq_self_eq_true]
theorem Equal_f {a b : List Int} (ha : Byt a) (hb : Byt b) : bytes_Equal.f a b = some (decide (a = b)) := Same_f ha hb
def okRec (t : Int) (d : List Int) : Bool := decide (1 ≤ t ∧ t ≤ 255 ∧ d.length ≤ 8192)
def preL (t : Int) (d : List Int) : List Int := bePut (d.length : Int) 2 ++ [t % 256] ++ d
def frL (salt t : Int) (d : List Int) : List Int := preL t d ++ sumB (bePut salt 8 ++ preL t d)
def frameV (salt t : Int) (d : List Int) : List Int × Int := if okRec t d = true then (frL salt t d, 0) else ([], 140)
theorem preL_len (t : Int) (d : List Int) : (preL t d).length = 3 + d.length := by simp [preL, bePut_len]; omega
theorem frL_len (salt t : Int) (d : List Int) : (frL salt t d).length = d.length + 7 := by simp [frL, preL_len, sumB_len]; omega
theorem preL_byt {t : Int} {d : List Int} (hd : Byt d) : Byt (preL t d) := by
  refine (Byt.app (bePut_byt _ _) ?_).app hd
  intro x hx
  rw [List.mem_singleton.1 hx]
  omega
theorem salted_byt {salt : Int} {l : List Int} (h : Byt l) : Byt (bePut salt 8 ++ l) := (bePut_byt _ _).app h
theorem frL_byt {salt t : Int} {d : List Int} (hd : Byt d) : Byt (frL salt t d) := (preL_byt hd).app (sumB_byt _)
theorem size_f (t : Int) (d : List Int) : record_Size.f t d = some (if okRec t d = true then ((d.length : Int) + 7) else 0) := by
  unfold record_Size.f okRec
  by_cases h1 : t < 1
  · rw [if_pos h1, if_neg (by rw [decide_eq_false (by omega)]; simp)]
  by_cases h2 : t > 255
  · rw [if_neg h1, if_pos h2, if_neg (by rw [decide_eq_false (by omega)]; simp)]
  by_cases h3 : (d.length : Int) > 8192
  · rw [if_neg h1, if_neg h2, if_pos h3, if_neg (by rw [decide_eq_false (by omega)]; simp)]
  · rw [if_neg h1, if_neg h2, if_neg h3, if_pos (by rw [decide_eq_true (by omega)]), w64 (x := 3 + _) (by omega) (by omega), w64 (by omega) (by omega)]
    congr 1; omega
theorem right_f (t : Int) (d : List Int) : fairleadref14_right.f t d = some (okRec t d) := by
  unfold fairleadref14_right.f okRec
  by_cases h1 : t ≥ 1
  · by_cases h2 : t ≤ 255
    · rw [if_pos h1, if_pos h2, decide_eq_decide.2 (show (d.length : Int) ≤ 8192 ↔ 1 ≤ t ∧ t ≤ 255 ∧ d.length ≤ 8192 by omega)]
    · rw [if_pos h1, if_neg h2, decide_eq_false (by omega)]
  · rw [if_neg h1, decide_eq_false (by omega)]
theorem seal_ev {l : List Int} (salt : Int) (hb : Byt l) (hl : l.length ≤ 1000000000) : Ev (fun k => record_seal.f k salt l) (sumB (bePut salt 8 ++ l)) := by
  unfold record_seal.f
  refine Ev.bind (num_Put_ev salt 8 (by omega) (by omega)) ?_
  simp only [bePut_len, eq_true (show 8 + l.length < 140737488355328 by omega), if_true]
  exact Ev.bind (crc_Bytes_ev (salted_byt hb) (by rw [List.length_append, bePut_len]; omega)) (Ev.now _)
theorem wu_len {n : Nat} (h : n ≤ 1000000000) : IntKind.u64.wrap (n : Int) = (n : Int) := wu64_id (by omega) (by omega)
theorem Frame_ev (salt t : Int) {d : List Int} (hd : Byt d) : Ev (fun k => record_Frame.f k salt t d) (frameV salt t d) := by
  unfold record_Frame.f frameV
  simp only [size_f t d, Option.bind_some]
  by_cases h : okRec t d = true
  · have ho := h
    unfold okRec at ho
    have ho := of_decide_eq_true ho
    simp only [if_pos h, eq_false (show ¬ ((d.length : Int) + 7 = 0) by omega), if_false, wu_len (show d.length ≤ 1000000000 by omega)]
    refine Ev.bind (num_Put_ev (d.length : Int) 2 (by omega) (by omega)) ?_
    simp only [bePut_len, List.length_append, List.length_cons, List.length_nil, Nat.reduceAdd, Nat.reduceLT, if_true, eq_true (show 3 + d.length < 140737488355328 by omega)]
    refine Ev.bind (seal_ev salt (preL_byt (t := t) hd) (by show (preL t d).length ≤ _; rw [preL_len]; omega)) ?_
    simp only [sumB_len, eq_true (show 3 + d.length + 4 < 140737488355328 by omega), if_true]
    exact Ev.now _
  · simp only [if_neg h, if_true]
    exact Ev.now _
theorem ref_Frame_ev (salt t : Int) {d : List Int} (hd : Byt d) : Ev (fun k => fairleadref14_Frame.f k salt t d) (frameV salt t d) := by
  unfold fairleadref14_Frame.f frameV
  simp only [right_f, Option.bind_some]
  by_cases h : okRec t d = true
  · have ho := h
    unfold okRec at ho
    have ho := of_decide_eq_true ho
    simp only [if_pos h, wu_len (show d.length ≤ 1000000000 by omega)]
    refine Ev.bind (ref_Put_ev (d.length : Int) 2 (by omega) (by omega)) ?_
    simp only [bePut_len, List.length_append, List.length_cons, List.length_nil, Nat.reduceAdd, Nat.reduceLT, if_true, eq_true (show 3 + d.length < 140737488355328 by omega)]
    refine Ev.bind (ref_Put_ev salt 8 (by omega) (by omega)) ?_
    simp only [bePut_len, List.length_append, List.length_cons, List.length_nil, eq_true (show 8 + (2 + 1 + d.length) < 140737488355328 by omega), eq_true (show 8 + (2 + (0 + 1) + d.length) < 140737488355328 by omega), eq_true (show 8 + (3 + d.length) < 140737488355328 by omega), if_true]
    refine Ev.bind (ref_Bytes_ev (salted_byt (preL_byt (t := t) hd)) (by rw [List.length_append, bePut_len]; show 8 + (preL t d).length ≤ _; rw [preL_len]; omega)) ?_
    simp only [sumB_len, eq_true (show 3 + d.length + 4 < 140737488355328 by omega), if_true]
    exact Ev.now _
  · simp only [if_neg h]
    exact Ev.now _
def lenB (b : List Int) : Nat := (beGet 0 (b.take 2)).toNat
def nextV (salt : Int) (b : List Int) : Int × List Int × Int × Int :=
  if b.length < 3 then (0, [], 0, 30)
  else if rd b 2 = 0 ∨ 8192 < lenB b then (0, [], 0, 140)
  else if b.length < lenB b + 7 then (0, [], 0, 30)
  else if sumB (bePut salt 8 ++ b.take (3 + lenB b)) = (b.take (3 + lenB b + 4)).drop (3 + lenB b) then (rd b 2, (b.take (3 + lenB b)).drop 3, ((lenB b + 7 : Nat) : Int), 0)
  else (0, [], 0, 140)
theorem len2 {b : List Int} (hb : Byt b) (hl : 2 ≤ b.length) : 0 ≤ beGet 0 (b.take 2) ∧ beGet 0 (b.take 2) < 65536 ∧ beGet 0 (b.take 2) = ((lenB b : Nat) : Int) ∧ bePut ((lenB b : Nat) : Int) 2 = b.take 2 := by
  match b, hl with
  | c0 :: c1 :: rest, _ =>
    have b0 := hb c0 (by simp)
    have b1 := hb c1 (by simp)
    have e : beGet 0 ((c0 :: c1 :: rest).take 2) = c0 * 256 + c1 := by
      simp only [List.take_succ_cons, List.take_zero, beGet]
      omega
    have e2 : lenB (c0 :: c1 :: rest) = (c0 * 256 + c1).toNat := by unfold lenB; rw [e]
    rw [e, e2]
    refine ⟨by omega, by omega, by omega, ?_⟩
    rw [Int.toNat_of_nonneg (by omega)]
    simp only [bePut, Int.reducePow, List.take_succ_cons, List.take_zero, List.cons.injEq, and_true]
    constructor <;> omega
theorem rd2 {b : List Int} (hb : Byt b) (hl : 3 ≤ b.length) : 0 ≤ rd b 2 ∧ rd b 2 < 256 := by
  match b, hl with
  | c0 :: c1 :: c2 :: rest, _ => exact hb c2 (by simp)
theorem next_j (salt : Int) {b : List Int} (hb : Byt b) (hl : b.length ≤ 1000000000) (h3 : ¬ b.length < 3) (hx : ¬ (rd b 2 = 0 ∨ 8192 < lenB b)) : Ev (fun k => record_next.j0 k salt b ((3 + lenB b : Nat) : Int) false) (nextV salt b) := by
  have hn : lenB b ≤ 8192 := by omega
  have hr := rd2 hb (by omega)
  refine Ev.step (fun k => by rw [record_next.j0]) ?_
  unfold nextV
  rw [if_neg h3, if_neg hx]
  have e7 : wrap64 (((3 + lenB b : Nat) : Int) + 4) = ((3 + lenB b + 4 : Nat) : Int) := by rw [w64 (by omega) (by omega)]; omega
  simp only [Bool.false_eq_true, if_false, e7, Int.toNat_natCast]
  by_cases hs : b.length < lenB b + 7
  · simp only [if_pos hs, eq_true (show (b.length : Int) < ((3 + lenB b + 4 : Nat) : Int) by omega), if_true]
    exact Ev.now _
  · simp only [if_neg hs, eq_false (show ¬ (b.length : Int) < ((3 + lenB b + 4 : Nat) : Int) by omega), if_false, eq_true (show (0 : Int) ≤ ((3 + lenB b : Nat) : Int) by omega), eq_true (show ((3 + lenB b : Nat) : Int) ≤ (b.length : Int) by omega), eq_true (show ((3 + lenB b : Nat) : Int) ≤ ((3 + lenB b + 4 : Nat) : Int) by omega), eq_true (show ((3 + lenB b + 4 : Nat) : Int) ≤ (b.length : Int) by omega), if_true, eq_true (show (2 : Int) < (b.length : Int) by omega), eq_true (show (3 : Int) ≤ ((3 + lenB b : Nat) : Int) by omega)]
    refine Ev.bind (seal_ev salt (hb.take _) (by rw [List.length_take]; omega)) ?_
    simp only [Equal_f (sumB_byt _) ((hb.take _).drop _), Option.bind_some]
    by_cases he : sumB (bePut salt 8 ++ b.take (3 + lenB b)) = (b.take (3 + lenB b + 4)).drop (3 + lenB b)
    · simp only [decide_eq_true he, if_true, if_pos he, bytes_Clone.f, eq_true (show ((b.take (3 + lenB b)).drop 3).length < 140737488355328 by rw [List.length_drop, List.length_take]; omega), Option.bind_some]
      rw [w64 (x := rd b 2) (by omega) (by omega), show 3 + lenB b + 4 = lenB b + 7 by omega]
      exact Ev.now _
    · simp only [decide_eq_false he, Bool.false_eq_true, if_false, if_neg he]
      exact Ev.now _
theorem next_ev (salt : Int) {b : List Int} (hb : Byt b) (hl : b.length ≤ 1000000000) : Ev (fun k => record_next.f k salt b) (nextV salt b) := by
  unfold record_next.f
  by_cases h3 : b.length < 3
  · unfold nextV
    simp only [if_pos h3, eq_true (show (b.length : Int) < 3 by omega), if_true]
    exact Ev.now _
  · obtain ⟨l0, l1, l2, _⟩ := len2 hb (by omega)
    simp only [eq_false (show ¬ (b.length : Int) < 3 by omega), if_false, eq_true (show (2 : Int) ≤ (b.length : Int) by omega), eq_true (show (2 : Int) < (b.length : Int) by omega), if_true]
    refine Ev.bind (num_Get_ev (hb.take 2) (by rw [List.length_take]; omega)) ?_
    have e1 : wrap64 (beGet 0 (b.take 2)) = ((lenB b : Nat) : Int) := by rw [w64 (by omega) (by omega), l2]
    have e2 : wrap64 (3 + ((lenB b : Nat) : Int)) = ((3 + lenB b : Nat) : Int) := by rw [w64 (by omega) (by omega)]; omega
    simp only [e1, e2]
    have bad : ∀ x : Int, Ev (fun k => record_next.j0 k salt b x true) (0, [], 0, 140) := fun x => by
      refine Ev.step (fun k => by rw [record_next.j0]) ?_
      simp only [if_true]
      exact Ev.now _
    by_cases h2 : rd b 2 = 0
    · unfold nextV
      simp only [if_neg h3, if_pos h2, eq_true (show rd b 2 = 0 ∨ 8192 < lenB b from .inl h2), if_true]
      exact bad _
    · simp only [if_neg h2]
      by_cases h8 : 8192 < lenB b
      · unfold nextV
        simp only [if_neg h3, decide_eq_true (show ((lenB b : Nat) : Int) > 8192 by omega), eq_true (show rd b 2 = 0 ∨ 8192 < lenB b from .inr h8), if_true]
        exact bad _
      · simp only [decide_eq_false (show ¬ ((lenB b : Nat) : Int) > 8192 by omega)]
        exact next_j salt hb hl h3 (by omega)
theorem pre_of {b : List Int} (hb : Byt b) (hl : lenB b + 7 ≤ b.length) : preL (rd b 2) ((b.take (3 + lenB b)).drop 3) = b.take (3 + lenB b) := by
  obtain ⟨_, _, _, h2⟩ := len2 hb (by omega)
  have hr := rd2 hb (by omega)
  have hd : ((b.take (3 + lenB b)).drop 3).length = lenB b := by rw [List.length_drop, List.length_take]; omega
  unfold preL
  rw [hd, h2, Int.emod_eq_of_lt hr.1 hr.2]
  have h3 : b.take 2 ++ [rd b 2] = b.take 3 := by
    match b, (show 3 ≤ b.length by omega) with
    | c0 :: c1 :: c2 :: rest, _ => rfl
  rw [h3]
  have := List.take_append_drop 3 (b.take (3 + lenB b))
  rwa [List.take_take, Nat.min_eq_left (by omega)] at this
theorem rnext_j (salt : Int) {b : List Int} (hb : Byt b) (hl : b.length ≤ 1000000000) (h3 : ¬ b.length < 3) (hx : ¬ (rd b 2 = 0 ∨ 8192 < lenB b)) : Ev (fun k => fairleadref14_Next.j0 k salt b ((lenB b : Nat) : Int) false) (nextV salt b) := by
  have hn : lenB b ≤ 8192 := by omega
  have hr := rd2 hb (by omega)
  refine Ev.step (fun k => by rw [fairleadref14_Next.j0]) ?_
  unfold nextV
  rw [if_neg h3, if_neg hx]
  have e7 : wrap64 (((lenB b : Nat) : Int) + 7) = ((lenB b + 7 : Nat) : Int) := by rw [w64 (by omega) (by omega)]; omega
  have e3 : wrap64 (3 + ((lenB b : Nat) : Int)) = ((3 + lenB b : Nat) : Int) := by rw [w64 (by omega) (by omega)]; omega
  simp only [Bool.false_eq_true, if_false, e7, e3, Int.toNat_natCast]
  by_cases hs : b.length < lenB b + 7
  · simp only [if_pos hs, eq_true (show (b.length : Int) < ((lenB b + 7 : Nat) : Int) by omega), if_true]
    exact Ev.now _
  · have hd : ((b.take (3 + lenB b)).drop 3).length = lenB b := by rw [List.length_drop, List.length_take]; omega
    have hok : okRec (rd b 2) ((b.take (3 + lenB b)).drop 3) = true := by unfold okRec; rw [decide_eq_true (by omega)]
    simp only [if_neg hs, eq_false (show ¬ (b.length : Int) < ((lenB b + 7 : Nat) : Int) by omega), if_false, eq_true (show (2 : Int) < (b.length : Int) by omega), eq_true (show (3 : Int) ≤ ((3 + lenB b : Nat) : Int) by omega), eq_true (show ((3 + lenB b : Nat) : Int) ≤ (b.length : Int) by omega), if_true, Option.bind_some, List.length_nil, List.nil_append, hd, eq_true (show 0 + lenB b < 140737488355328 by omega), w64 (x := rd b 2) (by omega) (by omega)]
    refine Ev.bind (ref_Frame_ev salt (rd b 2) ((hb.take _).drop 3)) ?_
    have hc : (b.take (lenB b + 7)) = b.take (3 + lenB b) ++ (b.take (3 + lenB b + 4)).drop (3 + lenB b) := by
      have h := (List.take_append_drop (3 + lenB b) (b.take (3 + lenB b + 4))).symm
      rw [List.take_take, Nat.min_eq_left (by omega)] at h
      rw [show lenB b + 7 = 3 + lenB b + 4 by omega]
      exact h
    simp only [frameV, if_pos hok, eq_true (show (0 : Int) ≤ ((lenB b + 7 : Nat) : Int) by omega), eq_true (show ((lenB b + 7 : Nat) : Int) ≤ (b.length : Int) by omega), if_true, Same_f (frL_byt ((hb.take _).drop 3)) (hb.take _), Option.bind_some]
    have hiff : (frL salt (rd b 2) ((b.take (3 + lenB b)).drop 3) = b.take (lenB b + 7)) ↔ sumB (bePut salt 8 ++ b.take (3 + lenB b)) = (b.take (3 + lenB b + 4)).drop (3 + lenB b) := by
      unfold frL
      rw [pre_of hb (by omega), hc]
      exact ⟨fun h => List.append_cancel_left h, fun h => by rw [h]⟩
    by_cases he : sumB (bePut salt 8 ++ b.take (3 + lenB b)) = (b.take (3 + lenB b + 4)).drop (3 + lenB b)
    · simp only [decide_eq_true (hiff.2 he), if_true, if_pos he]
      exact Ev.now _
    · simp only [decide_eq_false (fun h => he (hiff.1 h)), Bool.false_eq_true, if_false, if_neg he]
      exact Ev.now _
theorem ref_next_ev (salt : Int) {b : List Int} (hb : Byt b) (hl : b.length ≤ 1000000000) : Ev (fun k => fairleadref14_Next.f k salt b) (nextV salt b) := by
  unfold fairleadref14_Next.f
  by_cases h3 : b.length < 3
  · unfold nextV
    simp only [if_pos h3, eq_true (show (b.length : Int) < 3 by omega), if_true]
    exact Ev.now _
  · obtain ⟨l0, l1, l2, _⟩ := len2 hb (by omega)
    simp only [eq_false (show ¬ (b.length : Int) < 3 by omega), if_false, eq_true (show (2 : Int) ≤ (b.length : Int) by omega), eq_true (show (2 : Int) < (b.length : Int) by omega), if_true]
    refine Ev.bind (ref_Get_ev (hb.take 2) (by rw [List.length_take]; omega)) ?_
    have e1 : wrap64 (beGet 0 (b.take 2)) = ((lenB b : Nat) : Int) := by rw [w64 (by omega) (by omega), l2]
    simp only [e1]
    have bad : ∀ x : Int, Ev (fun k => fairleadref14_Next.j0 k salt b x true) (0, [], 0, 140) := fun x => by
      refine Ev.step (fun k => by rw [fairleadref14_Next.j0]) ?_
      simp only [if_true]
      exact Ev.now _
    by_cases h2 : rd b 2 = 0
    · unfold nextV
      simp only [if_neg h3, if_pos h2, eq_true (show rd b 2 = 0 ∨ 8192 < lenB b from .inl h2), if_true]
      exact bad _
    · simp only [if_neg h2]
      by_cases h8 : 8192 < lenB b
      · unfold nextV
        simp only [if_neg h3, decide_eq_true (show ((lenB b : Nat) : Int) > 8192 by omega), eq_true (show rd b 2 = 0 ∨ 8192 < lenB b from .inr h8), if_true]
        exact bad _
      · simp only [decide_eq_false (show ¬ ((lenB b : Nat) : Int) > 8192 by omega)]
        exact rnext_j salt hb hl h3 (by omega)
end Go.Proofs.Ytejheopcipgmaaa.Pr
