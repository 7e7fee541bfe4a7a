/- Lemmas for RB; a slim copy of this session's texts (slim.py). -/
import Derived.Test.YtejheopcipgmaaaZRBQ1
import Derived.Test.YtejheopcipgmaaaZRBQ2
import Derived.Test.YtejheopcipgmaaaZRBQ5
import Derived.Test.YtejheopcipgmaaaZRBPnum
import Derived.Laws.BitsAllLaws
namespace Go.Proofs.Ytejheopcipgmaaa.Pc
open Go.RowKit Go.Proofs.Ytejheopcipgmaaa.Q Go.Proofs.YtejheopcipgmaaaW.PrintWords Go.Proofs.YtejheopcipgmaaaW.PrintLast Go.Proofs.YtejheopcipgmaaaW.PrintMore Go.Proofs.Ytejheopcipgmaaa.Pn
set_option linter.unusedVariables false
set_option linter.unusedSimpArgs false
def crcStep (x : Nat) : Nat := if x % 2 = 1 then (x / 2) ^^^ 2197175160 else x / 2
def crcIter : Nat → Nat → Nat
  | 0, x => x
  | m + 1, x => crcIter m (crcStep x)
def crcByte (c x : Nat) : Nat := crcIter 8 (c ^^^ x)
def crcN : Nat → List Int → Nat
  | c, [] => c
  | c, x :: l => crcN (crcByte c x.toNat) l
def crcL (l : List Int) : Nat := crcN 4294967295 l ^^^ 4294967295
theorem xor_lt {a b : Nat} (ha : a < 4294967296) (hb : b < 4294967296) : a ^^^ b < 4294967296 := Nat.xor_lt_two_pow (n := 32) ha hb
theorem crcStep_lt {x : Nat} (h : x < 4294967296) : crcStep x < 4294967296 := by
  unfold crcStep
  split
  · exact xor_lt (by omega) (by omega)
  · omega
theorem crcIter_lt : ∀ (m : Nat) {x : Nat}, x < 4294967296 → crcIter m x < 4294967296
  | 0, _, h => h
  | m + 1, _, h => crcIter_lt m (crcStep_lt h)
theorem crcByte_lt {c x : Nat} (hc : c < 4294967296) (hx : x < 256) : crcByte c x < 4294967296 := crcIter_lt 8 (xor_lt hc (by omega))
theorem crc_l1_ev (all : Int) (l : List Int) (n i : Nat) (r : Int) (hi : i < 140737488355400) : ∀ (m j x : Nat), m + j = 8 → x < 4294967296 → Ev (fun k => crc_sum_uint32.l0 k 2197175160 all (crcIter m x : Nat) l (n : Int) ((i : Int) + 1)) r → Ev (fun k => crc_sum_uint32.l1 k 2197175160 all (x : Nat) l (n : Int) (i : Int) (j : Int)) r
  | 0, j, x, hj, hx, h => by
    refine Ev.step (fun k => ?_) h
    rw [crc_sum_uint32.l1, if_neg (by omega), w64 (by omega) (by omega)]
    rfl
  | m + 1, j, x, hj, hx, h => by
    have hv := crc_l1_ev all l n i r hi m (j + 1) (crcStep x) (by omega) (crcStep_lt hx) h
    refine Ev.step (fun k => ?_) hv
    have e1 : Go.bits .and .u32 (x : Int) 1 = ((x % 2 : Nat) : Int) := by
      rw [show (1 : Int) = ((1 : Nat) : Int) from rfl, u32_and_nat x 1 hx (by omega), nat_mask1]
    have e2 : (x : Int) / 2 = ((x / 2 : Nat) : Int) := by omega
    rw [crc_sum_uint32.l1, if_pos (by omega), e1, w64 (by omega) (by omega), e2]
    unfold crcStep
    by_cases hp : x % 2 = 1
    · rw [if_pos (by omega), if_pos hp]
      rw [show (2197175160 : Int) = ((2197175160 : Nat) : Int) from rfl, u32_xor_nat (x / 2) 2197175160 (by omega) (by omega)]
      rfl
    · rw [if_neg (by omega), if_neg hp]
      rfl
theorem crc_l0_ev (l : List Int) (hb : Byt l) (hl : l.length ≤ 140737488355328) : ∀ (rest : List Int) (i c : Nat), l.drop i = rest → c < 4294967296 → Ev (fun k => crc_sum_uint32.l0 k 2197175160 4294967295 (c : Nat) l (l.length : Int) (i : Int)) ((crcN c rest ^^^ 4294967295 : Nat) : Int)
  | [], i, c, h, hc => by
    have := ge_of_nil h
    refine Ev.step (f := fun _ => some ((crcN c [] ^^^ 4294967295 : Nat) : Int)) (fun k => ?_) (Ev.now _)
    rw [crc_sum_uint32.l0, if_neg (by omega)]
    rw [show (4294967295 : Int) = ((4294967295 : Nat) : Int) from rfl, u32_xor_nat c 4294967295 hc (by omega)]
    rfl
  | x :: rest, i, c, h, hc => by
    have hlt := lt_of_cons h
    have hx := hb x (List.mem_of_mem_drop (l := l) (i := i) (by rw [h]; exact List.mem_cons_self))
    have hv := crc_l0_ev l hb hl rest (i + 1) (crcByte c x.toNat) (drop_cons h) (crcByte_lt hc (by omega))
    have h1 := crc_l1_ev 4294967295 l l.length i _ (by omega) 8 0 (c ^^^ x.toNat) (by omega) (xor_lt hc (by omega)) hv
    refine Ev.step (fun k => ?_) h1
    rw [crc_sum_uint32.l0, if_pos (by omega), if_pos (by omega), if_pos (by omega), rd_cons h, Int.emod_eq_of_lt (by omega) (by omega)]
    rw [show x = ((x.toNat : Nat) : Int) by omega, u32_xor_nat c x.toNat hc (by omega)]
    rfl
theorem crc_Long_ev {l : List Int} (hb : Byt l) (hl : l.length ≤ 140737488355328) : Ev (fun k => crc_Long.f k l) ((crcL l : Nat) : Int) := by
  have e : Go.bits .xor .u32 4294967295 0 = 4294967295 := by decide
  have h := crc_l0_ev l hb hl l 0 4294967295 rfl (by omega)
  refine Ev.bind (a := ((crcL l : Nat) : Int)) ?_ (Ev.now _)
  refine Ev.congr (fun k => ?_) h
  rw [crc_sum_uint32.f, e]
  rfl
theorem rcrc_l1_ev (l : List Int) (i : Nat) (r : Int) (hi : i < 140737488355400) : ∀ (m j x : Nat), m + j = 8 → x < 4294967296 → Ev (fun k => fairleadref02_Long.l0 k l (crcIter m x : Nat) ((i : Int) + 1)) r → Ev (fun k => fairleadref02_Long.l1 k l (x : Nat) (i : Int) (j : Int)) r
  | 0, j, x, hj, hx, h => by
    refine Ev.step (fun k => ?_) h
    rw [fairleadref02_Long.l1, if_neg (by omega), w64 (by omega) (by omega)]
    rfl
  | m + 1, j, x, hj, hx, h => by
    have hv := rcrc_l1_ev l i r hi m (j + 1) (crcStep x) (by omega) (crcStep_lt hx) h
    refine Ev.step (fun k => ?_) hv
    have e1 : Int.tmod (x : Int) 2 = ((x % 2 : Nat) : Int) := by rw [Int.tmod_eq_emod_of_nonneg (by omega)]; omega
    have e2 : Int.tdiv (x : Int) 2 % 4294967296 = ((x / 2 : Nat) : Int) := by rw [Int.tdiv_eq_ediv_of_nonneg (by omega)]; omega
    rw [fairleadref02_Long.l1, if_pos (by omega), e1, w64 (by omega) (by omega), e2]
    unfold crcStep
    by_cases hp : x % 2 = 1
    · rw [if_pos (by omega), if_pos hp]
      rw [show (2197175160 : Int) = ((2197175160 : Nat) : Int) from rfl, u32_xor_nat (x / 2) 2197175160 (by omega) (by omega)]
      rfl
    · rw [if_neg (by omega), if_neg hp]
      rfl
theorem xor_ones (c : Nat) (hc : c < 4294967296) : c ^^^ 4294967295 = 4294967295 - c := by
  apply Nat.eq_of_testBit_eq
  intro i
  rw [Nat.testBit_xor, show 4294967295 - c = 2 ^ 32 - (c + 1) by omega, Nat.testBit_two_pow_sub_succ (by omega), show (4294967295 : Nat) = 2 ^ 32 - 1 from rfl, Nat.testBit_two_pow_sub_one]
  by_cases hi : i < 32
  · simp [hi]
  · have : c.testBit i = false := Nat.testBit_lt_two_pow (Nat.lt_of_lt_of_le hc (Nat.pow_le_pow_right (n := 2) (i := 32) (by omega) (by omega)))
    simp [hi, this]
theorem rcrc_l0_ev (l : List Int) (hb : Byt l) (hl : l.length ≤ 140737488355328) : ∀ (rest : List Int) (i c : Nat), l.drop i = rest → c < 4294967296 → Ev (fun k => fairleadref02_Long.l0 k l (c : Nat) (i : Int)) ((crcN c rest ^^^ 4294967295 : Nat) : Int)
  | [], i, c, h, hc => by
    have := ge_of_nil h
    refine Ev.step (f := fun _ => some ((crcN c [] ^^^ 4294967295 : Nat) : Int)) (fun k => ?_) (Ev.now _)
    rw [fairleadref02_Long.l0, if_neg (by omega)]
    show some _ = some ((c ^^^ 4294967295 : Nat) : Int)
    rw [xor_ones c hc]
    congr 1
    omega
  | x :: rest, i, c, h, hc => by
    have hlt := lt_of_cons h
    have hx := hb x (List.mem_of_mem_drop (l := l) (i := i) (by rw [h]; exact List.mem_cons_self))
    have hv := rcrc_l0_ev l hb hl rest (i + 1) (crcByte c x.toNat) (drop_cons h) (crcByte_lt hc (by omega))
    have h1 := rcrc_l1_ev l i _ (by omega) 8 0 (c ^^^ x.toNat) (by omega) (xor_lt hc (by omega)) hv
    refine Ev.step (fun k => ?_) h1
    rw [fairleadref02_Long.l0, if_pos (by omega), if_pos (by omega), rd_cons h, Int.emod_eq_of_lt (by omega) (by omega)]
    rw [show x = ((x.toNat : Nat) : Int) by omega, u32_xor_nat c x.toNat hc (by omega)]
    rfl
theorem ref_Long_ev {l : List Int} (hb : Byt l) (hl : l.length ≤ 140737488355328) : Ev (fun k => fairleadref02_Long.f k l) ((crcL l : Nat) : Int) := rcrc_l0_ev l hb hl l 0 4294967295 rfl (by omega)
def sumB (l : List Int) : List Int := bePut ((crcL l : Nat) : Int) 4
theorem sumB_len (l : List Int) : (sumB l).length = 4 := bePut_len _ _
theorem sumB_byt (l : List Int) : Byt (sumB l) := bePut_byt _ _
theorem four_bytes (t : Int) : [(t / 16777216) % 256, (t / 65536) % 256, (t / 256) % 256, t % 256] = bePut t 4 := by
  simp [bePut]
theorem crc_Bytes_ev {l : List Int} (hb : Byt l) (hl : l.length ≤ 140737488355328) : Ev (fun k => crc_Bytes.f k 2 l) (sumB l) := by
  refine Ev.congr (f := fun k => (crc_Long.f k l).bind fun t => some (bePut t 4)) (fun k => ?_) (Ev.bind (crc_Long_ev hb hl) (Ev.now _))
  rw [crc_Bytes.f, if_neg (by omega), if_pos rfl]
  congr 1
  funext t
  rw [four_bytes]
theorem ref_Bytes_ev {l : List Int} (hb : Byt l) (hl : l.length ≤ 140737488355328) : Ev (fun k => fairleadref02_Bytes.f k 2 l) (sumB l) := by
  refine Ev.congr (f := fun k => (fairleadref02_Long.f k l).bind fun t => some (bePut t 4)) (fun k => ?_) (Ev.bind (ref_Long_ev hb hl) (Ev.now _))
  rw [fairleadref02_Bytes.f, if_neg (by omega), if_pos rfl]
  congr 1
  funext t
  rw [four_bytes]
end Go.Proofs.Ytejheopcipgmaaa.Pc
