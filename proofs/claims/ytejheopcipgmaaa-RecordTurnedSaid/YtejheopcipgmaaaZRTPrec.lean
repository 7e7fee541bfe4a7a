/- Lemmas for RT; a slim copy of this session's texts (slim.py). -/
import Derived.Test.YtejheopcipgmaaaZRTQ1
import Derived.Test.YtejheopcipgmaaaZRTQ10
import Derived.Test.YtejheopcipgmaaaZRTQ0
import Derived.Test.YtejheopcipgmaaaZRTQ2
import Derived.Test.YtejheopcipgmaaaZRTQ6
import Derived.Test.YtejheopcipgmaaaZRTQ3
import Derived.Test.YtejheopcipgmaaaZRTPnum
import Derived.Test.YtejheopcipgmaaaZRTPsame
import Derived.Test.YtejheopcipgmaaaZRTPcrc
namespace Go.Proofs.Ytejheopcipgmaaa.Pr
open Go.RowKit Go.Proofs.Ytejheopcipgmaaa.Q Go.Proofs.YtejheopcipgmaaaW.PrintWords Go.Proofs.YtejheopcipgmaaaW.PrintLast Go.Proofs.YtejheopcipgmaaaW.PrintMore Go.Proofs.Ytejheopcipgmaaa.Pc Go.Proofs.Ytejheopcipgmaaa.Pn
set_option linter.unusedVariables false
set_option linter.unusedSimpArgs false
theorem Equal_f {a b : List Int} (ha : Byt a) (hb : Byt b) : bytes_Equal.f a b = some (decide (a = b)) := Same_f ha hb
def okRec (t : Int) (d : List Int) : Bool := decide (1 ≤ t ∧ t ≤ 255 ∧ d.length ≤ 8192)
def preL (t : Int) (d : List Int) : List Int := bePut (d.length : Int) 2 ++ [t % 256] ++ d
def frL (salt t : Int) (d : List Int) : List Int := preL t d ++ sumB (bePut salt 8 ++ preL t d)
def frameV (salt t : Int) (d : List Int) : List Int × Int := if okRec t d = true then (frL salt t d, 0) else ([], 140)
theorem preL_len (t : Int) (d : List Int) : (preL t d).length = 3 + d.length := by simp [preL, bePut_len]; omega
theorem frL_len (salt t : Int) (d : List Int) : (frL salt t d).length = d.length + 7 := by simp [frL, preL_len, sumB_len]; omega
theorem preL_byt {t : Int} {d : List Int} (hd : Byt d) : Byt (preL t d) := by
  refine (Byt.app (bePut_byt _ _) ?_).app hd
  intro x hx
  rw [List.mem_singleton.1 hx]
  omega
theorem salted_byt {salt : Int} {l : List Int} (h : Byt l) : Byt (bePut salt 8 ++ l) := (bePut_byt _ _).app h
theorem frL_byt {salt t : Int} {d : List Int} (hd : Byt d) : Byt (frL salt t d) := (preL_byt hd).app (sumB_byt _)
theorem size_f (t : Int) (d : List Int) : record_Size.f t d = some (if okRec t d = true then ((d.length : Int) + 7) else 0) := by
  unfold record_Size.f okRec
  by_cases h1 : t < 1
  · rw [if_pos h1, if_neg (by rw [decide_eq_false (by omega)]; simp)]
  by_cases h2 : t > 255
  · rw [if_neg h1, if_pos h2, if_neg (by rw [decide_eq_false (by omega)]; simp)]
  by_cases h3 : (d.length : Int) > 8192
  · rw [if_neg h1, if_neg h2, if_pos h3, if_neg (by rw [decide_eq_false (by omega)]; simp)]
  · rw [if_neg h1, if_neg h2, if_neg h3, if_pos (by rw [decide_eq_true (by omega)]), w64 (x := 3 + _) (by omega) (by omega), w64 (by omega) (by omega)]
    congr 1; omega
theorem seal_ev {l : List Int} (salt : Int) (hb : Byt l) (hl : l.length ≤ 1000000000) : Ev (fun k => record_seal.f k salt l) (sumB (bePut salt 8 ++ l)) := by
  unfold record_seal.f
  refine Ev.bind (num_Put_ev salt 8 (by omega) (by omega)) ?_
  simp only [bePut_len, eq_true (show 8 + l.length < 140737488355328 by omega), if_true]
  exact Ev.bind (crc_Bytes_ev (salted_byt hb) (by rw [List.length_append, bePut_len]; omega)) (Ev.now _)
theorem wu_len {n : Nat} (h : n ≤ 1000000000) : IntKind.u64.wrap (n : Int) = (n : Int) := wu64_id (by omega) (by omega)
theorem Frame_ev (salt t : Int) {d : List Int} (hd : Byt d) : Ev (fun k => record_Frame.f k salt t d) (frameV salt t d) := by
  unfold record_Frame.f frameV
  simp only [size_f t d, Option.bind_some]
  by_cases h : okRec t d = true
  · have ho := h
    unfold okRec at ho
    have ho := of_decide_eq_true ho
    simp only [if_pos h, eq_false (show ¬ ((d.length : Int) + 7 = 0) by omega), if_false, wu_len (show d.length ≤ 1000000000 by omega)]
    refine Ev.bind (num_Put_ev (d.length : Int) 2 (by omega) (by omega)) ?_
    simp only [bePut_len, List.length_append, List.length_cons, List.length_nil, Nat.reduceAdd, Nat.reduceLT, if_true, eq_true (show 3 + d.length < 140737488355328 by omega)]
    refine Ev.bind (seal_ev salt (preL_byt (t := t) hd) (by show (preL t d).length ≤ _; rw [preL_len]; omega)) ?_
    simp only [sumB_len, eq_true (show 3 + d.length + 4 < 140737488355328 by omega), if_true]
    exact Ev.now _
  · simp only [if_neg h, if_true]
    exact Ev.now _
def lenB (b : List Int) : Nat := (beGet 0 (b.take 2)).toNat
def nextV (salt : Int) (b : List Int) : Int × List Int × Int × Int :=
  if b.length < 3 then (0, [], 0, 30)
  else if rd b 2 = 0 ∨ 8192 < lenB b then (0, [], 0, 140)
  else if b.length < lenB b + 7 then (0, [], 0, 30)
  else if sumB (bePut salt 8 ++ b.take (3 + lenB b)) = (b.take (3 + lenB b + 4)).drop (3 + lenB b) then (rd b 2, (b.take (3 + lenB b)).drop 3, ((lenB b + 7 : Nat) : Int), 0)
  else (0, [], 0, 140)
theorem len2 {b : List Int} (hb : Byt b) (hl : 2 ≤ b.length) : 0 ≤ beGet 0 (b.take 2) ∧ beGet 0 (b.take 2) < 65536 ∧ beGet 0 (b.take 2) = ((lenB b : Nat) : Int) ∧ bePut ((lenB b : Nat) : Int) 2 = b.take 2 := by
  match b, hl with
  | c0 :: c1 :: rest, _ =>
    have b0 := hb c0 (by simp)
    have b1 := hb c1 (by simp)
    have e : beGet 0 ((c0 :: c1 :: rest).take 2) = c0 * 256 + c1 := by
      simp only [List.take_succ_cons, List.take_zero, beGet]
      omega
    have e2 : lenB (c0 :: c1 :: rest) = (c0 * 256 + c1).toNat := by unfold lenB; rw [e]
    rw [e, e2]
    refine ⟨by omega, by omega, by omega, ?_⟩
    rw [Int.toNat_of_nonneg (by omega)]
    simp only [bePut, Int.reducePow, List.take_succ_cons, List.take_zero, List.cons.injEq, and_true]
    constructor <;> omega
theorem rd2 {b : List Int} (hb : Byt b) (hl : 3 ≤ b.length) : 0 ≤ rd b 2 ∧ rd b 2 < 256 := by
  match b, hl with
  | c0 :: c1 :: c2 :: rest, _ => exact hb c2 (by simp)
theorem next_j (salt : Int) {b : List Int} (hb : Byt b) (hl : b.length ≤ 1000000000) (h3 : ¬ b.length < 3) (hx : ¬ (rd b 2 = 0 ∨ 8192 < lenB b)) : Ev (fun k => record_next.j0 k salt b ((3 + lenB b : Nat) : Int) false) (nextV salt b) := by
  have hn : lenB b ≤ 8192 := by omega
  have hr := rd2 hb (by omega)
  refine Ev.step (fun k => by rw [record_next.j0]) ?_
  unfold nextV
  rw [if_neg h3, if_neg hx]
  have e7 : wrap64 (((3 + lenB b : Nat) : Int) + 4) = ((3 + lenB b + 4 : Nat) : Int) := by rw [w64 (by omega) (by omega)]; omega
  simp only [Bool.false_eq_true, if_false, e7, Int.toNat_natCast]
  by_cases hs : b.length < lenB b + 7
  · simp only [if_pos hs, eq_true (show (b.length : Int) < ((3 + lenB b + 4 : Nat) : Int) by omega), if_true]
    exact Ev.now _
  · simp only [if_neg hs, eq_false (show ¬ (b.length : Int) < ((3 + lenB b + 4 : Nat) : Int) by omega), if_false, eq_true (show (0 : Int) ≤ ((3 + lenB b : Nat) : Int) by omega), eq_true (show ((3 + lenB b : Nat) : Int) ≤ (b.length : Int) by omega), eq_true (show ((3 + lenB b : Nat) : Int) ≤ ((3 + lenB b + 4 : Nat) : Int) by omega), eq_true (show ((3 + lenB b + 4 : Nat) : Int) ≤ (b.length : Int) by omega), if_true, eq_true (show (2 : Int) < (b.length : Int) by omega), eq_true (show (3 : Int) ≤ ((3 + lenB b : Nat) : Int) by omega)]
    refine Ev.bind (seal_ev salt (hb.take _) (by rw [List.length_take]; omega)) ?_
    simp only [Equal_f (sumB_byt _) ((hb.take _).drop _), Option.bind_some]
    by_cases he : sumB (bePut salt 8 ++ b.take (3 + lenB b)) = (b.take (3 + lenB b + 4)).drop (3 + lenB b)
    · simp only [decide_eq_true he, if_true, if_pos he, bytes_Clone.f, eq_true (show ((b.take (3 + lenB b)).drop 3).length < 140737488355328 by rw [List.length_drop, List.length_take]; omega), Option.bind_some]
      rw [w64 (x := rd b 2) (by omega) (by omega), show 3 + lenB b + 4 = lenB b + 7 by omega]
      exact Ev.now _
    · simp only [decide_eq_false he, Bool.false_eq_true, if_false, if_neg he]
      exact Ev.now _
theorem next_ev (salt : Int) {b : List Int} (hb : Byt b) (hl : b.length ≤ 1000000000) : Ev (fun k => record_next.f k salt b) (nextV salt b) := by
  unfold record_next.f
  by_cases h3 : b.length < 3
  · unfold nextV
    simp only [if_pos h3, eq_true (show (b.length : Int) < 3 by omega), if_true]
    exact Ev.now _
  · obtain ⟨l0, l1, l2, _⟩ := len2 hb (by omega)
    simp only [eq_false (show ¬ (b.length : Int) < 3 by omega), if_false, eq_true (show (2 : Int) ≤ (b.length : Int) by omega), eq_true (show (2 : Int) < (b.length : Int) by omega), if_true]
    refine Ev.bind (num_Get_ev (hb.take 2) (by rw [List.length_take]; omega)) ?_
    have e1 : wrap64 (beGet 0 (b.take 2)) = ((lenB b : Nat) : Int) := by rw [w64 (by omega) (by omega), l2]
    have e2 : wrap64 (3 + ((lenB b : Nat) : Int)) = ((3 + lenB b : Nat) : Int) := by rw [w64 (by omega) (by omega)]; omega
    simp only [e1, e2]
    have bad : ∀ x : Int, Ev (fun k => record_next.j0 k salt b x true) (0, [], 0, 140) := fun x => by
      refine Ev.step (fun k => by rw [record_next.j0]) ?_
      simp only [if_true]
      exact Ev.now _
    by_cases h2 : rd b 2 = 0
    · unfold nextV
      simp only [if_neg h3, if_pos h2, eq_true (show rd b 2 = 0 ∨ 8192 < lenB b from .inl h2), if_true]
      exact bad _
    · simp only [if_neg h2]
      by_cases h8 : 8192 < lenB b
      · unfold nextV
        simp only [if_neg h3, decide_eq_true (show ((lenB b : Nat) : Int) > 8192 by omega), eq_true (show rd b 2 = 0 ∨ 8192 < lenB b from .inr h8), if_true]
        exact bad _
      · simp only [decide_eq_false (show ¬ ((lenB b : Nat) : Int) > 8192 by omega)]
        exact next_j salt hb hl h3 (by omega)
end Go.Proofs.Ytejheopcipgmaaa.Pr
