/- Lemmas on lists of bytes and numbers: bytes as a number, a number as bytes, what stands behind a text of n bytes. No claim. -/
import Derived.Test.YthhaaagjeifbbaaQ1
import Derived.Test.YthhaaagjeifbbaaQ3
import Derived.Test.YthhaaagjeifbbaaQ5
import Derived.Test.YthhaaagjeifbbaaQ9
import Derived.Laws.BitsAllLaws
namespace Go.Proofs.Ythhaaagjeifbbaa.Pn
open Go.RowKit Go.Proofs.Ythhaaagjeifbbaa.Q Go.Proofs.YthhaaagjeifbbaaW.PrintWords Go.Proofs.YthhaaagjeifbbaaW.PrintLast Go.Proofs.YthhaaagjeifbbaaW.PrintMore
set_option linter.unusedVariables false
set_option linter.unusedSimpArgs false
theorem w64 {x : Int} (h0 : -9223372036854775808 ≤ x) (h1 : x ≤ 9223372036854775807) : wrap64 x = x := by unfold wrap64; omega
theorem wu64 (x : Int) : IntKind.u64.wrap x = x % 18446744073709551616 := by simp [IntKind.wrap, IntKind.bits, IntKind.signed]
theorem wu64_id {x : Int} (h0 : 0 ≤ x) (h1 : x < 18446744073709551616) : IntKind.u64.wrap x = x := by rw [wu64]; omega
def Byt (l : List Int) : Prop := ∀ x ∈ l, 0 ≤ x ∧ x < 256
theorem Byt.nil : Byt [] := fun _ h => by cases h
theorem Byt.app {a b : List Int} (ha : Byt a) (hb : Byt b) : Byt (a ++ b) := fun x h => (List.mem_append.1 h).elim (ha x) (hb x)
theorem Byt.take {a : List Int} (ha : Byt a) (n : Nat) : Byt (a.take n) := fun x h => ha x (List.mem_of_mem_take h)
theorem Byt.drop {a : List Int} (ha : Byt a) (n : Nat) : Byt (a.drop n) := fun x h => ha x (List.mem_of_mem_drop h)
theorem Byt.of_wf {l : List Int} (h : ∀ x ∈ l, (Lit.int .u8 x).wf = true) : Byt l := fun x hx => by
  have := h x hx
  simp [Lit.wf, IntKind.min, IntKind.max, IntKind.bits, IntKind.signed] at this
  omega
theorem rd_cons {l : List Int} {i : Nat} {c : Int} {rest : List Int} (h : l.drop i = c :: rest) : rd l (i : Int) = c := by
  have h2 : l[i]? = some c := by
    have := congrArg (fun z => z[0]?) h
    simpa using this
  simp [rd, h2]
theorem lt_of_cons {l : List Int} {i : Nat} {c : Int} {rest : List Int} (h : l.drop i = c :: rest) : i < l.length := by
  by_cases hlt : i < l.length
  · exact hlt
  · rw [List.drop_of_length_le (by omega)] at h
    cases h
theorem drop_cons {l : List Int} {i : Nat} {c : Int} {rest : List Int} (h : l.drop i = c :: rest) : l.drop (i + 1) = rest := by
  rw [← List.drop_drop, h]; rfl
theorem ge_of_nil {l : List Int} {i : Nat} (h : l.drop i = []) : l.length ≤ i := by
  by_cases hlt : i < l.length
  · rw [List.drop_eq_getElem_cons hlt] at h
    cases h
  · omega
/-- Bytes as a number, the greatest first. -/
def beGet (a : Int) : List Int → Int
  | [] => a
  | c :: l => beGet ((a * 256 + c) % 18446744073709551616) l
theorem or_low (a c : Int) (h0 : 0 ≤ c) (h1 : c < 256) : Go.bits .or .u64 (IntKind.u64.wrap (a * 256)) (IntKind.u64.wrap c) = (a * 256 + c) % 18446744073709551616 := by
  obtain ⟨n, rfl⟩ := Int.eq_ofNat_of_zero_le h0
  have hn : n < 256 := by omega
  rw [wu64_id (x := (n : Int)) (by omega) (by omega), wu64]
  have hd : ∃ m : Nat, a * 256 % 18446744073709551616 = (m * 256 : Nat) ∧ m * 256 + n < 18446744073709551616 := by
    refine ⟨(a % 72057594037927936).toNat, ?_, ?_⟩ <;> omega
  obtain ⟨m, hm, hlt⟩ := hd
  have hs : (a * 256 + n) % 18446744073709551616 = ((m * 256 + n : Nat) : Int) := by omega
  rw [hm, hs]
  rw [u64_or_nat (m * 256) n (Nat.lt_of_le_of_lt (Nat.le_add_right _ n) hlt) (Nat.lt_of_lt_of_le hn (by decide))]
  have e3 : m * 256 ||| n = m * 256 + n := by
    have := Nat.two_pow_add_eq_or_of_lt (i := 8) (b := n) (by omega) m
    rw [Nat.mul_comm m 256]
    exact this.symm
  rw [e3]
theorem num_get_ev (l : List Int) (hb : Byt l) (hl : l.length ≤ 140737488355328) : ∀ (rest : List Int) (i : Nat) (a : Int), l.drop i = rest → Ev (fun k => num_Get.l0 k a l (l.length : Int) (i : Int)) (beGet a rest)
  | [], i, a, h => by
    have := ge_of_nil h
    refine Ev.step (f := fun _ => some a) (fun k => ?_) (Ev.now _)
    simp only [num_Get.l0]
    rw [if_neg (by omega)]
  | c :: rest, i, a, h => by
    have hlt := lt_of_cons h
    have hc := hb c (by have := List.mem_of_mem_drop (l := l) (i := i) (a := c) (by rw [h]; exact List.mem_cons_self); exact this)
    refine Ev.step (f := fun k => num_Get.l0 k ((a * 256 + c) % 18446744073709551616) l (l.length : Int) ((i + 1 : Nat) : Int)) (fun k => ?_) (num_get_ev l hb hl rest (i + 1) _ (drop_cons h))
    simp only [num_Get.l0]
    rw [if_pos (by omega), if_pos (by omega), if_pos (by omega), rd_cons h, or_low a c hc.1 hc.2, w64 (by omega) (by omega)]
    rfl
theorem num_Get_ev {l : List Int} (hb : Byt l) (hl : l.length ≤ 140737488355328) : Ev (fun k => num_Get.f k l) (beGet 0 l) := num_get_ev l hb hl l 0 0 rfl
theorem ref_get_ev (l : List Int) (hb : Byt l) (hl : l.length ≤ 140737488355328) : ∀ (rest : List Int) (i : Nat) (a : Int), l.drop i = rest → Ev (fun k => fairleadref01_Get.l0 k l a (i : Int)) (beGet a rest)
  | [], i, a, h => by
    have := ge_of_nil h
    refine Ev.step (f := fun _ => some a) (fun k => ?_) (Ev.now _)
    simp only [fairleadref01_Get.l0]
    rw [if_neg (by omega)]
  | c :: rest, i, a, h => by
    have hlt := lt_of_cons h
    have hc := hb c (by have := List.mem_of_mem_drop (l := l) (i := i) (a := c) (by rw [h]; exact List.mem_cons_self); exact this)
    refine Ev.step (f := fun k => fairleadref01_Get.l0 k l ((a * 256 + c) % 18446744073709551616) ((i + 1 : Nat) : Int)) (fun k => ?_) (ref_get_ev l hb hl rest (i + 1) _ (drop_cons h))
    simp only [fairleadref01_Get.l0]
    rw [if_pos (by omega), if_pos (by omega), rd_cons h, w64 (by omega) (by omega)]
    simp only [wu64]
    rw [show (a * 256 % 18446744073709551616 + c % 18446744073709551616) % 18446744073709551616 = (a * 256 + c) % 18446744073709551616 by omega]
    rfl
theorem ref_Get_ev {l : List Int} (hb : Byt l) (hl : l.length ≤ 140737488355328) : Ev (fun k => fairleadref01_Get.f k l) (beGet 0 l) := ref_get_ev l hb hl l 0 0 rfl
/-- A number's bytes, the greatest first. -/
def bePut (x : Int) : Nat → List Int
  | 0 => []
  | n + 1 => (x / 256 ^ n) % 256 :: bePut x n
theorem bePut_len (x : Int) (n : Nat) : (bePut x n).length = n := by
  induction n with
  | zero => rfl
  | succ n ih => simp [bePut, ih]
theorem bePut_byt (x : Int) (n : Nat) : Byt (bePut x n) := by
  induction n with
  | zero => exact Byt.nil
  | succ n ih =>
    intro y hy
    rcases List.mem_cons.1 hy with rfl | hy
    · omega
    · exact ih y hy
theorem shr_pow (x : Int) (i : Nat) (hi : i ≤ 8) : shr .u64 x ((8 * i : Nat) : Int) = x / 256 ^ i := by
  unfold shr
  have e : min ((8 * i : Nat) : Int).toNat IntKind.u64.bits = 8 * i := by simp [IntKind.bits]; omega
  rw [e, show (256 : Int) ^ i = 2 ^ (8 * i) from by rw [show (256 : Int) = 2 ^ 8 from rfl, ← Int.pow_mul]]
theorem put_set (L : List Int) (m : Nat) (v : Int) : (List.replicate (m + 1) (0 : Int) ++ L).set m v = List.replicate m 0 ++ v :: L := by
  rw [List.replicate_succ', List.append_assoc, List.set_append_right _ _ (by simp)]
  simp
theorem num_put_ev (x : Int) (n : Nat) (hn : n ≤ 8) : ∀ (m i : Nat), m + i = n → Ev (fun k => num_Put.l0 k x (List.replicate m 0 ++ bePut x i) (n : Int) (i : Int)) (bePut x n)
  | 0, i, h => by
    obtain rfl : i = n := by omega
    refine Ev.step (f := fun _ => some (bePut x i)) (fun k => ?_) (Ev.now _)
    simp only [num_Put.l0]
    rw [if_neg (by omega)]
    simp
  | m + 1, i, h => by
    have hl : (List.replicate (m + 1) (0 : Int) ++ bePut x i).length = n := by rw [List.length_append, List.length_replicate, bePut_len]; omega
    refine Ev.step (f := fun k => num_Put.l0 k x (List.replicate m 0 ++ bePut x (i + 1)) (n : Int) ((i + 1 : Nat) : Int)) (fun k => ?_) (num_put_ev x n hn m (i + 1) (by omega))
    simp only [num_Put.l0, hl]
    have e1 : wrap64 (8 * (i : Int)) = ((8 * i : Nat) : Int) := by rw [w64 (by omega) (by omega)]; omega
    have e2 : wrap64 (wrap64 ((n : Int) - 1) - (i : Int)) = (m : Int) := by
      rw [w64 (x := (n : Int) - 1) (by omega) (by omega), w64 (by omega) (by omega)]; omega
    rw [e1, e2, if_pos (by omega), if_pos (by omega), if_pos (by omega), if_pos (by omega), shr_pow x i (by omega), Int.toNat_natCast, put_set, w64 (by omega) (by omega)]
    rfl
theorem num_Put_ev (x : Int) (n : Nat) (h0 : 1 ≤ n) (hn : n ≤ 8) : Ev (fun k => num_Put.f k x (n : Int)) (bePut x n) := by
  refine Ev.congr (f := fun k => num_Put.l0 k x (List.replicate n 0 ++ bePut x 0) (n : Int) ((0 : Nat) : Int)) (fun k => ?_) (num_put_ev x n hn n 0 rfl)
  have em : mn (n : Int) 8 = (n : Int) := by unfold mn; split <;> omega
  simp only [num_Put.f, em, Int.toNat_natCast]
  rw [if_neg (by omega), if_pos (by omega), if_pos (by omega)]
  simp [bePut]
theorem ref_put_ev (x : Int) : ∀ (i : Nat) (acc : List Int), i ≤ 8 → acc.length + i < 140737488355328 → Ev (fun k => fairleadref01_Put.l0 k x acc ((i : Int) - 1)) (acc ++ bePut x i)
  | 0, acc, _, _ => by
    refine Ev.step (f := fun _ => some (acc ++ bePut x 0)) (fun k => ?_) (Ev.now _)
    simp only [fairleadref01_Put.l0]
    rw [if_neg (by omega)]
    simp [bePut]
  | i + 1, acc, hi, ha => by
    have hv := ref_put_ev x i (acc ++ [(x / 256 ^ i) % 256]) (by omega) (by rw [List.length_append, List.length_singleton]; omega)
    rw [List.append_assoc] at hv
    refine Ev.step (fun k => ?_) hv
    simp only [fairleadref01_Put.l0]
    have e0 : ((i + 1 : Nat) : Int) - 1 = (i : Int) := by omega
    have e1 : IntKind.u64.wrap (wrap64 (8 * (i : Int))) = ((8 * i : Nat) : Int) := by rw [w64 (by omega) (by omega), wu64_id (by omega) (by omega)]; omega
    rw [e0, e1, if_pos (by omega), if_pos (by omega), if_pos (by omega), shr_pow x i (by omega), w64 (by omega) (by omega)]
theorem ref_Put_ev (x : Int) (n : Nat) (h0 : 1 ≤ n) (hn : n ≤ 8) : Ev (fun k => fairleadref01_Put.f k x (n : Int)) (bePut x n) := by
  have h := ref_put_ev x n [] hn (by simp; omega)
  refine Ev.congr (f := fun k => fairleadref01_Put.j0 k x (n : Int) []) (fun k => ?_) (Ev.step (fun k => ?_) h)
  · simp only [fairleadref01_Put.f]
    rw [if_neg (by omega)]
    by_cases h8 : (n : Int) > 8
    · omega
    · rw [if_neg h8]
  · simp only [fairleadref01_Put.j0]
    rw [w64 (by omega) (by omega)]
theorem beGet_put (x : Int) : ∀ (n : Nat) (a : Int), beGet a (bePut x n) % 18446744073709551616 = (a * 256 ^ n + x % 256 ^ n) % 18446744073709551616
  | 0, a => by simp [bePut, beGet, Int.emod_one]
  | n + 1, a => by
    show beGet ((a * 256 + (x / 256 ^ n) % 256) % 18446744073709551616) (bePut x n) % 18446744073709551616 = _
    rw [beGet_put x n]
    have e1 : x % 256 ^ (n + 1) = (x / 256 ^ n) % 256 * 256 ^ n + x % 256 ^ n := by
      have hp : (0 : Int) < 256 ^ n := Int.pow_pos (by decide)
      rw [Int.pow_succ]
      have h1 := Int.emod_add_mul_ediv x (256 ^ n)
      have h2 := Int.emod_add_mul_ediv (x / 256 ^ n) 256
      have h3 : x = (x % 256 ^ n + (x / 256 ^ n % 256) * 256 ^ n) + (256 ^ n * 256) * (x / 256 ^ n / 256) := by
        have h4 : 256 ^ n * (x / 256 ^ n) = 256 ^ n * (x / 256 ^ n % 256 + 256 * (x / 256 ^ n / 256)) := by rw [h2]
        rw [Int.mul_add, ← Int.mul_assoc] at h4
        rw [Int.mul_comm (x / 256 ^ n % 256)]
        omega
      have hd0 := Int.emod_nonneg (x / 256 ^ n) (b := 256) (by decide)
      have hd1 := Int.emod_lt_of_pos (x / 256 ^ n) (b := 256) (by decide)
      have hr0 := Int.emod_nonneg x (b := 256 ^ n) (Int.ne_of_gt hp)
      have hr1 := Int.emod_lt_of_pos x hp
      have hb0 : 0 ≤ x % 256 ^ n + (x / 256 ^ n % 256) * 256 ^ n := Int.add_nonneg hr0 (Int.mul_nonneg hd0 (Int.le_of_lt hp))
      have hb1 : x % 256 ^ n + (x / 256 ^ n % 256) * 256 ^ n < 256 ^ n * 256 := by
        have h5 : (x / 256 ^ n % 256) * 256 ^ n ≤ 255 * 256 ^ n := Int.mul_le_mul_of_nonneg_right (by omega) (Int.le_of_lt hp)
        omega
      conv => lhs; rw [h3]
      rw [Int.add_mul_emod_self_left, Int.emod_eq_of_lt hb0 hb1, Int.add_comm]
    rw [e1, Int.pow_succ]
    rw [Int.add_emod, Int.mul_emod, Int.emod_emod, ← Int.mul_emod, ← Int.add_emod, Int.add_mul, Int.mul_assoc, Int.mul_comm 256, Int.add_assoc]
theorem beGet_lt : ∀ (l : List Int) (a : Int), 0 ≤ a → a < 18446744073709551616 → 0 ≤ beGet a l ∧ beGet a l < 18446744073709551616
  | [], a, h0, h1 => ⟨h0, h1⟩
  | c :: l, a, h0, h1 => beGet_lt l _ (by omega) (by omega)
theorem beGet_put8 (x : Int) : beGet 0 (bePut x 8) = x % 18446744073709551616 := by
  have h := beGet_put x 8 0
  have hl := beGet_lt (bePut x 8) 0 (by decide) (by decide)
  rw [Int.emod_eq_of_lt hl.1 hl.2] at h
  rw [h]
  simp
/-- What stands behind a text of n bytes. -/
def padZ (n : Nat) : Nat := (119 - n % 64) % 64
def padL (n : Nat) : List Int := 128 :: List.replicate (padZ n) 0 ++ bePut ((n : Int) * 8) 8
theorem padL_len (n : Nat) : (padL n).length = 9 + padZ n := by simp [padL, bePut_len]; omega
theorem padL_byt (n : Nat) : Byt (padL n) := by
  refine Byt.app (fun x hx => ?_) (bePut_byt _ _)
  rcases List.mem_cons.1 hx with rfl | hx
  · omega
  · rw [(List.mem_replicate.1 hx).2]; omega
theorem pad_whole (n : Nat) : (n + (padL n).length) % 64 = 0 := by rw [padL_len]; unfold padZ; omega
theorem sha_Pad_ev (n : Nat) (hn : n ≤ 1099511627776) : Ev (fun k => sha_Pad.f k (n : Int)) (padL n) := by
  have hz : padZ n < 64 := by unfold padZ; omega
  have e0 : Int.tmod (n : Int) 64 = ((n % 64 : Nat) : Int) := by rw [Int.tmod_eq_emod_of_nonneg (by omega)]; omega
  have e1 : wrap64 (119 - ((n % 64 : Nat) : Int)) = ((119 - n % 64 : Nat) : Int) := by rw [w64 (by omega) (by omega)]; omega
  have e2 : wrap64 (1 + Int.tmod ((119 - n % 64 : Nat) : Int) 64) = ((1 + padZ n : Nat) : Int) := by
    rw [Int.tmod_eq_emod_of_nonneg (by omega)]
    unfold padZ
    rw [w64 (by omega) (by omega)]; omega
  have e3 : IntKind.u64.wrap (IntKind.u64.wrap (n : Int) * 8) = (n : Int) * 8 := by rw [wu64_id (x := (n : Int)) (by omega) (by omega), wu64_id (by omega) (by omega)]
  have hp := num_Put_ev ((n : Int) * 8) 8 (by decide) (by decide)
  refine Ev.congr (f := fun k => (num_Put.f k ((n : Int) * 8) ((8 : Nat) : Int)).bind fun t => if ((List.replicate (1 + padZ n) (0 : Int)).set 0 128).length + t.length < 140737488355328 then some ((List.replicate (1 + padZ n) (0 : Int)).set 0 128 ++ t) else none) (fun k => ?_) (Ev.bind hp ?_)
  · simp only [sha_Pad.f, e0, e1, e2, e3, Int.toNat_natCast]
    rw [if_neg (by omega), if_pos (by omega), if_pos (by omega)]
    simp only [Option.bind_some]
    rw [if_pos (by simp; omega)]
    rfl
  · rw [if_pos (by simp [bePut_len]; omega)]
    have e4 : (List.replicate (1 + padZ n) (0 : Int)).set 0 128 ++ bePut ((n : Int) * 8) 8 = padL n := by
      rw [Nat.add_comm 1, List.replicate_succ]; rfl
    rw [e4]
    exact Ev.now _
theorem ref_pad_ev (n : Nat) (hn : n ≤ 1099511627776) : ∀ (m j : Nat), m + j = padZ n → Ev (fun k => fairleadref07_Pad.l0 k (n : Int) (128 :: List.replicate j 0)) (padL n)
  | m, j, h => by
    have hz : padZ n < 64 := by unfold padZ; omega
    have e0 : Int.tmod (n : Int) 64 = ((n % 64 : Nat) : Int) := by rw [Int.tmod_eq_emod_of_nonneg (by omega)]; omega
    have hl : ((128 :: List.replicate j (0 : Int)).length : Int) = ((j + 1 : Nat) : Int) := by simp
    have e1 : wrap64 (wrap64 (((n % 64 : Nat) : Int) + ((j + 1 : Nat) : Int)) + 8) = ((n % 64 + j + 9 : Nat) : Int) := by
      rw [w64 (x := ((n % 64 : Nat) : Int) + _) (by omega) (by omega), w64 (by omega) (by omega)]; omega
    have e2 : Int.tmod ((n % 64 + j + 9 : Nat) : Int) 64 = (((n % 64 + j + 9) % 64 : Nat) : Int) := by rw [Int.tmod_eq_emod_of_nonneg (by omega)]; omega
    have e3 : IntKind.u64.wrap (8 * IntKind.u64.wrap (n : Int)) = (n : Int) * 8 := by rw [wu64_id (x := (n : Int)) (by omega) (by omega), wu64_id (by omega) (by omega)]; omega
    match m, h with
    | 0, h =>
      have hp := ref_Put_ev ((n : Int) * 8) 8 (by decide) (by decide)
      refine Ev.step (f := fun k => (fairleadref01_Put.f k ((n : Int) * 8) ((8 : Nat) : Int)).bind fun t => if (128 :: List.replicate j (0 : Int)).length + t.length < 140737488355328 then some (128 :: List.replicate j 0 ++ t) else none) (fun k => ?_) (Ev.bind hp ?_)
      · simp only [fairleadref07_Pad.l0, e0, hl, e1, e2, e3]
        rw [if_pos (by unfold padZ at h; omega)]
        rfl
      · rw [if_pos (by simp [bePut_len]; omega)]
        rw [show 128 :: List.replicate j (0 : Int) ++ bePut ((n : Int) * 8) 8 = padL n from by unfold padL; rw [← h, Nat.zero_add]]
        exact Ev.now _
    | m + 1, h =>
      have hv := ref_pad_ev n hn m (j + 1) (by omega)
      refine Ev.step (fun k => ?_) hv
      simp only [fairleadref07_Pad.l0, e0, hl, e1, e2, e3]
      rw [if_neg (by unfold padZ at h; omega), if_pos (by simp; omega)]
      rw [show 128 :: List.replicate j (0 : Int) ++ [0] = 128 :: List.replicate (j + 1) 0 from by rw [List.replicate_succ']; rfl]
theorem ref_Pad_ev (n : Nat) (hn : n ≤ 1099511627776) : Ev (fun k => fairleadref07_Pad.f k (n : Int)) (padL n) := by
  refine Ev.congr (fun k => ?_) (ref_pad_ev n hn (padZ n) 0 (by omega))
  simp only [fairleadref07_Pad.f]
  rw [if_neg (by omega)]
  rfl
end Go.Proofs.Ythhaaagjeifbbaa.Pn
