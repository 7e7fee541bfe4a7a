/- Lemmas for RT; a slim copy of this session's texts (slim.py). -/
import Derived.Test.YtejheopcipgmaaaZRTQ1
import Derived.Test.YtejheopcipgmaaaZRTQ2
import Derived.Laws.BitsAllLaws
namespace Go.Proofs.Ytejheopcipgmaaa.Pn
open Go.RowKit Go.Proofs.Ytejheopcipgmaaa.Q Go.Proofs.YtejheopcipgmaaaW.PrintWords Go.Proofs.YtejheopcipgmaaaW.PrintLast Go.Proofs.YtejheopcipgmaaaW.PrintMore
set_option linter.unusedVariables false
set_option linter.unusedSimpArgs false
theorem w64 {x : Int} (h0 : -9223372036854775808 ≤ x) (h1 : x ≤ 9223372036854775807) : wrap64 x = x := by unfold wrap64; omega
theorem wu64 (x : Int) : IntKind.u64.wrap x = x % 18446744073709551616 := by simp [IntKind.wrap, IntKind.bits, IntKind.signed]
theorem wu64_id {x : Int} (h0 : 0 ≤ x) (h1 : x < 18446744073709551616) : IntKind.u64.wrap x = x := by rw [wu64]; omega
def Byt (l : List Int) : Prop := ∀ x ∈ l, 0 ≤ x ∧ x < 256
theorem Byt.nil : Byt [] := fun _ h => by cases h
theorem Byt.app {a b : List Int} (ha : Byt a) (hb : Byt b) : Byt (a ++ b) := fun x h => (List.mem_append.1 h).elim (ha x) (hb x)
theorem Byt.take {a : List Int} (ha : Byt a) (n : Nat) : Byt (a.take n) := fun x h => ha x (List.mem_of_mem_take h)
theorem Byt.drop {a : List Int} (ha : Byt a) (n : Nat) : Byt (a.drop n) := fun x h => ha x (List.mem_of_mem_drop h)
theorem Byt.of_wf {l : List Int} (h : ∀ x ∈ l, (Lit.int .u8 x).wf = true) : Byt l := fun x hx => by
  have := h x hx
  simp [Lit.wf, IntKind.min, IntKind.max, IntKind.bits, IntKind.signed] at this
  omega
theorem rd_cons {l : List Int} {i : Nat} {c : Int} {rest : List Int} (h : l.drop i = c :: rest) : rd l (i : Int) = c := by
  have h2 : l[i]? = some c := by
    have := congrArg (fun z => z[0]?) h
    simpa using this
  simp [rd, h2]
theorem lt_of_cons {l : List Int} {i : Nat} {c : Int} {rest : List Int} (h : l.drop i = c :: rest) : i < l.length := by
  by_cases hlt : i < l.length
  · exact hlt
  · rw [List.drop_of_length_le (by omega)] at h
    cases h
theorem drop_cons {l : List Int} {i : Nat} {c : Int} {rest : List Int} (h : l.drop i = c :: rest) : l.drop (i + 1) = rest := by
  rw [← List.drop_drop, h]; rfl
theorem ge_of_nil {l : List Int} {i : Nat} (h : l.drop i = []) : l.length ≤ i := by
  by_cases hlt : i < l.length
  · rw [List.drop_eq_getElem_cons hlt] at h
    cases h
  · omega
def beGet (a : Int) : List Int → Int
  | [] => a
  | c :: l => beGet ((a * 256 + c) % 18446744073709551616) l
theorem or_low (a c : Int) (h0 : 0 ≤ c) (h1 : c < 256) : Go.bits .or .u64 (IntKind.u64.wrap (a * 256)) (IntKind.u64.wrap c) = (a * 256 + c) % 18446744073709551616 := by
  obtain ⟨n, rfl⟩ := Int.eq_ofNat_of_zero_le h0
  have hn : n < 256 := by omega
  rw [wu64_id (x := (n : Int)) (by omega) (by omega), wu64]
  have hd : ∃ m : Nat, a * 256 % 18446744073709551616 = (m * 256 : Nat) ∧ m * 256 + n < 18446744073709551616 := by
    refine ⟨(a % 72057594037927936).toNat, ?_, ?_⟩ <;> omega
  obtain ⟨m, hm, hlt⟩ := hd
  have hs : (a * 256 + n) % 18446744073709551616 = ((m * 256 + n : Nat) : Int) := by omega
  rw [hm, hs]
  rw [u64_or_nat (m * 256) n (Nat.lt_of_le_of_lt (Nat.le_add_right _ n) hlt) (Nat.lt_of_lt_of_le hn (by decide))]
  have e3 : m * 256 ||| n = m * 256 + n := by
    have := Nat.two_pow_add_eq_or_of_lt (i := 8) (b := n) (by omega) m
    rw [Nat.mul_comm m 256]
    exact this.symm
  rw [e3]
theorem num_get_ev (l : List Int) (hb : Byt l) (hl : l.length ≤ 140737488355328) : ∀ (rest : List Int) (i : Nat) (a : Int), l.drop i = rest → Ev (fun k => num_Get.l0 k a l (l.length : Int) (i : Int)) (beGet a rest)
  | [], i, a, h => by
    have := ge_of_nil h
    refine Ev.step (f := fun _ => some a) (fun k => ?_) (Ev.now _)
    simp only [num_Get.l0]
    rw [if_neg (by omega)]
  | c :: rest, i, a, h => by
    have hlt := lt_of_cons h
    have hc := hb c (by have := List.mem_of_mem_drop (l := l) (i := i) (a := c) (by rw [h]; exact List.mem_cons_self); exact this)
    refine Ev.step (f := fun k => num_Get.l0 k ((a * 256 + c) % 18446744073709551616) l (l.length : Int) ((i + 1 : Nat) : Int)) (fun k => ?_) (num_get_ev l hb hl rest (i + 1) _ (drop_cons h))
    simp only [num_Get.l0]
    rw [if_pos (by omega), if_pos (by omega), if_pos (by omega), rd_cons h, or_low a c hc.1 hc.2, w64 (by omega) (by omega)]
    rfl
theorem num_Get_ev {l : List Int} (hb : Byt l) (hl : l.length ≤ 140737488355328) : Ev (fun k => num_Get.f k l) (beGet 0 l) := num_get_ev l hb hl l 0 0 rfl
def bePut (x : Int) : Nat → List Int
  | 0 => []
  | n + 1 => (x / 256 ^ n) % 256 :: bePut x n
theorem bePut_len (x : Int) (n : Nat) : (bePut x n).length = n := by
  induction n with
  | zero => rfl
  | succ n ih => simp [bePut, ih]
theorem bePut_byt (x : Int) (n : Nat) : Byt (bePut x n) := by
  induction n with
  | zero => exact Byt.nil
  | succ n ih =>
    intro y hy
    rcases List.mem_cons.1 hy with rfl | hy
    · omega
    · exact ih y hy
theorem shr_pow (x : Int) (i : Nat) (hi : i ≤ 8) : shr .u64 x ((8 * i : Nat) : Int) = x / 256 ^ i := by
  unfold shr
  have e : min ((8 * i : Nat) : Int).toNat IntKind.u64.bits = 8 * i := by simp [IntKind.bits]; omega
  rw [e, show (256 : Int) ^ i = 2 ^ (8 * i) from by rw [show (256 : Int) = 2 ^ 8 from rfl, ← Int.pow_mul]]
theorem put_set (L : List Int) (m : Nat) (v : Int) : (List.replicate (m + 1) (0 : Int) ++ L).set m v = List.replicate m 0 ++ v :: L := by
  rw [List.replicate_succ', List.append_assoc, List.set_append_right _ _ (by simp)]
  simp
theorem num_put_ev (x : Int) (n : Nat) (hn : n ≤ 8) : ∀ (m i : Nat), m + i = n → Ev (fun k => num_Put.l0 k x (List.replicate m 0 ++ bePut x i) (n : Int) (i : Int)) (bePut x n)
  | 0, i, h => by
    obtain rfl : i = n := by omega
    refine Ev.step (f := fun _ => some (bePut x i)) (fun k => ?_) (Ev.now _)
    simp only [num_Put.l0]
    rw [if_neg (by omega)]
    simp
  | m + 1, i, h => by
    have hl : (List.replicate (m + 1) (0 : Int) ++ bePut x i).length = n := by rw [List.length_append, List.length_replicate, bePut_len]; omega
    refine Ev.step (f := fun k => num_Put.l0 k x (List.replicate m 0 ++ bePut x (i + 1)) (n : Int) ((i + 1 : Nat) : Int)) (fun k => ?_) (num_put_ev x n hn m (i + 1) (by omega))
    simp only [num_Put.l0, hl]
    have e1 : wrap64 (8 * (i : Int)) = ((8 * i : Nat) : Int) := by rw [w64 (by omega) (by omega)]; omega
    have e2 : wrap64 (wrap64 ((n : Int) - 1) - (i : Int)) = (m : Int) := by
      rw [w64 (x := (n : Int) - 1) (by omega) (by omega), w64 (by omega) (by omega)]; omega
    rw [e1, e2, if_pos (by omega), if_pos (by omega), if_pos (by omega), if_pos (by omega), shr_pow x i (by omega), Int.toNat_natCast, put_set, w64 (by omega) (by omega)]
    rfl
theorem num_Put_ev (x : Int) (n : Nat) (h0 : 1 ≤ n) (hn : n ≤ 8) : Ev (fun k => num_Put.f k x (n : Int)) (bePut x n) := by
  refine Ev.congr (f := fun k => num_Put.l0 k x (List.replicate n 0 ++ bePut x 0) (n : Int) ((0 : Nat) : Int)) (fun k => ?_) (num_put_ev x n hn n 0 rfl)
  have em : mn (n : Int) 8 = (n : Int) := by unfold mn; split <;> omega
  simp only [num_Put.f, em, Int.toNat_natCast]
  rw [if_neg (by omega), if_pos (by omega), if_pos (by omega)]
  simp [bePut]
end Go.Proofs.Ytejheopcipgmaaa.Pn
