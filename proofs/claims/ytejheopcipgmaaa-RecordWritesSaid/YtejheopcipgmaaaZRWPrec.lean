/- Lemmas for RW; a slim copy of this session's texts (slim.py). -/
import Derived.Test.YtejheopcipgmaaaZRWQ1
import Derived.Test.YtejheopcipgmaaaZRWQ10
import Derived.Test.YtejheopcipgmaaaZRWQ0
import Derived.Test.YtejheopcipgmaaaZRWQ2
import Derived.Test.YtejheopcipgmaaaZRWQ6
import Derived.Test.YtejheopcipgmaaaZRWQ3
import Derived.Test.YtejheopcipgmaaaZRWQ5
import Derived.Test.YtejheopcipgmaaaZRWPnum
import Derived.Test.YtejheopcipgmaaaZRWPnumref
import Derived.Lib.Bytes
import Derived.Test.YtejheopcipgmaaaZRWPcrc
namespace Go.Proofs.Ytejheopcipgmaaa.Pr
open Go.RowKit Go.Proofs.Ytejheopcipgmaaa.Q Go.Proofs.YtejheopcipgmaaaW.PrintWords Go.Proofs.YtejheopcipgmaaaW.PrintLast Go.Proofs.YtejheopcipgmaaaW.PrintMore Go.Proofs.Ytejheopcipgmaaa.Pc Go.Proofs.Ytejheopcipgmaaa.Pn
set_option linter.unusedVariables false
set_option linter.unusedSimpArgs false
theorem Same_self (a : List Int) : fairleadref01_Same.f a a = some true := by
  unfold fairleadref01_Same.f
  rw [beq_self_eq_true]
def okRec (t : Int) (d : List Int) : Bool := decide (1 ≤ t ∧ t ≤ 255 ∧ d.length ≤ 8192)
def preL (t : Int) (d : List Int) : List Int := bePut (d.length : Int) 2 ++ [t % 256] ++ d
def frL (salt t : Int) (d : List Int) : List Int := preL t d ++ sumB (bePut salt 8 ++ preL t d)
def frameV (salt t : Int) (d : List Int) : List Int × Int := if okRec t d = true then (frL salt t d, 0) else ([], 140)
theorem preL_len (t : Int) (d : List Int) : (preL t d).length = 3 + d.length := by simp [preL, bePut_len]; omega
theorem preL_byt {t : Int} {d : List Int} (hd : Byt d) : Byt (preL t d) := by
  refine (Byt.app (bePut_byt _ _) ?_).app hd
  intro x hx
  rw [List.mem_singleton.1 hx]
  omega
theorem salted_byt {salt : Int} {l : List Int} (h : Byt l) : Byt (bePut salt 8 ++ l) := (bePut_byt _ _).app h
theorem size_f (t : Int) (d : List Int) (hd : d.length ≤ 140737488355328) : record_Size.f t d = some (if okRec t d = true then ((d.length : Int) + 7) else 0) := by
  unfold record_Size.f okRec
  by_cases h1 : t < 1
  · rw [if_pos h1, if_neg (by rw [decide_eq_false (by omega)]; simp)]
  by_cases h2 : t > 255
  · rw [if_neg h1, if_pos h2, if_neg (by rw [decide_eq_false (by omega)]; simp)]
  by_cases h3 : (d.length : Int) > 8192
  · rw [if_neg h1, if_neg h2, if_pos h3, if_neg (by rw [decide_eq_false (by omega)]; simp)]
  · rw [if_neg h1, if_neg h2, if_neg h3, if_pos (by rw [decide_eq_true (by omega)]), w64 (x := 3 + _) (by omega) (by omega), w64 (by omega) (by omega)]
    congr 1; omega
theorem right_f (t : Int) (d : List Int) : fairleadref14_right.f t d = some (okRec t d) := by
  unfold fairleadref14_right.f okRec
  by_cases h1 : t ≥ 1
  · by_cases h2 : t ≤ 255
    · rw [if_pos h1, if_pos h2, decide_eq_decide.2 (show (d.length : Int) ≤ 8192 ↔ 1 ≤ t ∧ t ≤ 255 ∧ d.length ≤ 8192 by omega)]
    · rw [if_pos h1, if_neg h2, decide_eq_false (by omega)]
  · rw [if_neg h1, decide_eq_false (by omega)]
theorem ref_size_f (t : Int) (d : List Int) (hd : d.length ≤ 140737488355328) : fairleadref14_Size.f t d = some (if okRec t d = true then ((d.length : Int) + 7) else 0) := by
  unfold fairleadref14_Size.f
  rw [right_f, Option.bind_some]
  split
  · rw [w64 (by omega) (by omega)]
  · rfl
theorem seal_ev {l : List Int} (salt : Int) (hb : Byt l) (hl : l.length ≤ 1000000000) : Ev (fun k => record_seal.f k salt l) (sumB (bePut salt 8 ++ l)) := by
  unfold record_seal.f
  refine Ev.bind (num_Put_ev salt 8 (by omega) (by omega)) ?_
  simp only [bePut_len, eq_true (show 8 + l.length < 140737488355328 by omega), if_true]
  exact Ev.bind (crc_Bytes_ev (salted_byt hb) (by rw [List.length_append, bePut_len]; omega)) (Ev.now _)
theorem wu_len {n : Nat} (h : n ≤ 1000000000) : IntKind.u64.wrap (n : Int) = (n : Int) := wu64_id (by omega) (by omega)
theorem Frame_ev (salt t : Int) {d : List Int} (hd : Byt d) (hl : d.length ≤ 1000000000) : Ev (fun k => record_Frame.f k salt t d) (frameV salt t d) := by
  unfold record_Frame.f frameV
  simp only [size_f t d (by omega), Option.bind_some]
  by_cases h : okRec t d = true
  · have ho := h
    unfold okRec at ho
    have ho := of_decide_eq_true ho
    simp only [if_pos h, eq_false (show ¬ ((d.length : Int) + 7 = 0) by omega), if_false, wu_len hl]
    refine Ev.bind (num_Put_ev (d.length : Int) 2 (by omega) (by omega)) ?_
    simp only [bePut_len, List.length_append, List.length_cons, List.length_nil, Nat.reduceAdd, Nat.reduceLT, if_true, eq_true (show 3 + d.length < 140737488355328 by omega)]
    refine Ev.bind (seal_ev salt (preL_byt (t := t) hd) (by show (preL t d).length ≤ _; rw [preL_len]; omega)) ?_
    simp only [sumB_len, eq_true (show 3 + d.length + 4 < 140737488355328 by omega), if_true]
    exact Ev.now _
  · simp only [if_neg h, if_true]
    exact Ev.now _
theorem ref_Frame_ev (salt t : Int) {d : List Int} (hd : Byt d) (hl : d.length ≤ 1000000000) : Ev (fun k => fairleadref14_Frame.f k salt t d) (frameV salt t d) := by
  unfold fairleadref14_Frame.f frameV
  simp only [right_f, Option.bind_some]
  by_cases h : okRec t d = true
  · have ho := h
    unfold okRec at ho
    have ho := of_decide_eq_true ho
    simp only [if_pos h, wu_len hl]
    refine Ev.bind (ref_Put_ev (d.length : Int) 2 (by omega) (by omega)) ?_
    simp only [bePut_len, List.length_append, List.length_cons, List.length_nil, Nat.reduceAdd, Nat.reduceLT, if_true, eq_true (show 3 + d.length < 140737488355328 by omega)]
    refine Ev.bind (ref_Put_ev salt 8 (by omega) (by omega)) ?_
    simp only [bePut_len, List.length_append, List.length_cons, List.length_nil, eq_true (show 8 + (2 + 1 + d.length) < 140737488355328 by omega), eq_true (show 8 + (2 + (0 + 1) + d.length) < 140737488355328 by omega), eq_true (show 8 + (3 + d.length) < 140737488355328 by omega), if_true]
    refine Ev.bind (ref_Bytes_ev (salted_byt (preL_byt (t := t) hd)) (by rw [List.length_append, bePut_len]; show 8 + (preL t d).length ≤ _; rw [preL_len]; omega)) ?_
    simp only [sumB_len, eq_true (show 3 + d.length + 4 < 140737488355328 by omega), if_true]
    exact Ev.now _
  · simp only [if_neg h]
    exact Ev.now _
end Go.Proofs.Ytejheopcipgmaaa.Pr
