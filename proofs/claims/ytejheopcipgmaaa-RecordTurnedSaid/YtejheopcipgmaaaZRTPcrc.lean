/- Lemmas for RT; a slim copy of this session's texts (slim.py). -/
import Derived.Test.YtejheopcipgmaaaZRTQ1
import Derived.Test.YtejheopcipgmaaaZRTQ2
import Derived.Test.YtejheopcipgmaaaZRTQ0
import Derived.Test.YtejheopcipgmaaaZRTPnum
import Derived.Laws.BitsAllLaws
namespace Go.Proofs.Ytejheopcipgmaaa.Pc
open Go.RowKit Go.Proofs.Ytejheopcipgmaaa.Q Go.Proofs.YtejheopcipgmaaaW.PrintWords Go.Proofs.YtejheopcipgmaaaW.PrintLast Go.Proofs.YtejheopcipgmaaaW.PrintMore Go.Proofs.Ytejheopcipgmaaa.Pn
set_option linter.unusedVariables false
set_option linter.unusedSimpArgs false
def crcStep (x : Nat) : Nat := if x % 2 = 1 then (x / 2) ^^^ 2197175160 else x / 2
def crcIter : Nat → Nat → Nat
  | 0, x => x
  | m + 1, x => crcIter m (crcStep x)
def crcByte (c x : Nat) : Nat := crcIter 8 (c ^^^ x)
def crcN : Nat → List Int → Nat
  | c, [] => c
  | c, x :: l => crcN (crcByte c x.toNat) l
def crcL (l : List Int) : Nat := crcN 4294967295 l ^^^ 4294967295
theorem xor_lt {a b : Nat} (ha : a < 4294967296) (hb : b < 4294967296) : a ^^^ b < 4294967296 := Nat.xor_lt_two_pow (n := 32) ha hb
theorem crcStep_lt {x : Nat} (h : x < 4294967296) : crcStep x < 4294967296 := by
  unfold crcStep
  split
  · exact xor_lt (by omega) (by omega)
  · omega
theorem crcIter_lt : ∀ (m : Nat) {x : Nat}, x < 4294967296 → crcIter m x < 4294967296
  | 0, _, h => h
  | m + 1, _, h => crcIter_lt m (crcStep_lt h)
theorem crcByte_lt {c x : Nat} (hc : c < 4294967296) (hx : x < 256) : crcByte c x < 4294967296 := crcIter_lt 8 (xor_lt hc (by omega))
theorem crcN_lt : ∀ (l : List Int) {c : Nat}, Byt l → c < 4294967296 → crcN c l < 4294967296
  | [], _, _, h => h
  | x :: l, c, hb, h => by
    have hx := hb x List.mem_cons_self
    exact crcN_lt l (fun y hy => hb y (List.mem_cons_of_mem _ hy)) (crcByte_lt h (by omega))
theorem crcL_lt {l : List Int} (h : Byt l) : crcL l < 4294967296 := xor_lt (crcN_lt l h (by omega)) (by omega)
theorem crc_l1_ev (all : Int) (l : List Int) (n i : Nat) (r : Int) (hi : i < 140737488355400) : ∀ (m j x : Nat), m + j = 8 → x < 4294967296 → Ev (fun k => crc_sum_uint32.l0 k 2197175160 all (crcIter m x : Nat) l (n : Int) ((i : Int) + 1)) r → Ev (fun k => crc_sum_uint32.l1 k 2197175160 all (x : Nat) l (n : Int) (i : Int) (j : Int)) r
  | 0, j, x, hj, hx, h => by
    refine Ev.step (fun k => ?_) h
    rw [crc_sum_uint32.l1, if_neg (by omega), w64 (by omega) (by omega)]
    rfl
  | m + 1, j, x, hj, hx, h => by
    have hv := crc_l1_ev all l n i r hi m (j + 1) (crcStep x) (by omega) (crcStep_lt hx) h
    refine Ev.step (fun k => ?_) hv
    have e1 : Go.bits .and .u32 (x : Int) 1 = ((x % 2 : Nat) : Int) := by
      rw [show (1 : Int) = ((1 : Nat) : Int) from rfl, u32_and_nat x 1 hx (by omega), nat_mask1]
    have e2 : (x : Int) / 2 = ((x / 2 : Nat) : Int) := by omega
    rw [crc_sum_uint32.l1, if_pos (by omega), e1, w64 (by omega) (by omega), e2]
    unfold crcStep
    by_cases hp : x % 2 = 1
    · rw [if_pos (by omega), if_pos hp]
      rw [show (2197175160 : Int) = ((2197175160 : Nat) : Int) from rfl, u32_xor_nat (x / 2) 2197175160 (by omega) (by omega)]
      rfl
    · rw [if_neg (by omega), if_neg hp]
      rfl
theorem crc_l0_ev (l : List Int) (hb : Byt l) (hl : l.length ≤ 140737488355328) : ∀ (rest : List Int) (i c : Nat), l.drop i = rest → c < 4294967296 → Ev (fun k => crc_sum_uint32.l0 k 2197175160 4294967295 (c : Nat) l (l.length : Int) (i : Int)) ((crcN c rest ^^^ 4294967295 : Nat) : Int)
  | [], i, c, h, hc => by
    have := ge_of_nil h
    refine Ev.step (f := fun _ => some ((crcN c [] ^^^ 4294967295 : Nat) : Int)) (fun k => ?_) (Ev.now _)
    rw [crc_sum_uint32.l0, if_neg (by omega)]
    rw [show (4294967295 : Int) = ((4294967295 : Nat) : Int) from rfl, u32_xor_nat c 4294967295 hc (by omega)]
    rfl
  | x :: rest, i, c, h, hc => by
    have hlt := lt_of_cons h
    have hx := hb x (List.mem_of_mem_drop (l := l) (i := i) (by rw [h]; exact List.mem_cons_self))
    have hv := crc_l0_ev l hb hl rest (i + 1) (crcByte c x.toNat) (drop_cons h) (crcByte_lt hc (by omega))
    have h1 := crc_l1_ev 4294967295 l l.length i _ (by omega) 8 0 (c ^^^ x.toNat) (by omega) (xor_lt hc (by omega)) hv
    refine Ev.step (fun k => ?_) h1
    rw [crc_sum_uint32.l0, if_pos (by omega), if_pos (by omega), if_pos (by omega), rd_cons h, Int.emod_eq_of_lt (by omega) (by omega)]
    rw [show x = ((x.toNat : Nat) : Int) by omega, u32_xor_nat c x.toNat hc (by omega)]
    rfl
theorem crc_Long_ev {l : List Int} (hb : Byt l) (hl : l.length ≤ 140737488355328) : Ev (fun k => crc_Long.f k l) ((crcL l : Nat) : Int) := by
  have e : Go.bits .xor .u32 4294967295 0 = 4294967295 := by decide
  have h := crc_l0_ev l hb hl l 0 4294967295 rfl (by omega)
  refine Ev.bind (a := ((crcL l : Nat) : Int)) ?_ (Ev.now _)
  refine Ev.congr (fun k => ?_) h
  rw [crc_sum_uint32.f, e]
  rfl
def sumB (l : List Int) : List Int := bePut ((crcL l : Nat) : Int) 4
theorem sumB_len (l : List Int) : (sumB l).length = 4 := bePut_len _ _
theorem sumB_byt (l : List Int) : Byt (sumB l) := bePut_byt _ _
theorem four_bytes (t : Int) : [(t / 16777216) % 256, (t / 65536) % 256, (t / 256) % 256, t % 256] = bePut t 4 := by
  simp [bePut]
theorem crc_Bytes_ev {l : List Int} (hb : Byt l) (hl : l.length ≤ 140737488355328) : Ev (fun k => crc_Bytes.f k 2 l) (sumB l) := by
  refine Ev.congr (f := fun k => (crc_Long.f k l).bind fun t => some (bePut t 4)) (fun k => ?_) (Ev.bind (crc_Long_ev hb hl) (Ev.now _))
  rw [crc_Bytes.f, if_neg (by omega), if_pos rfl]
  congr 1
  funext t
  rw [four_bytes]
theorem xr {a b c : Nat} (h : a ^^^ c = b ^^^ c) : a = b := by
  have h1 : a ^^^ c ^^^ c = b ^^^ c ^^^ c := by rw [h]
  rwa [Nat.xor_assoc, Nat.xor_assoc, Nat.xor_self, Nat.xor_zero, Nat.xor_zero] at h1
theorem xl {a b c : Nat} (h : c ^^^ a = c ^^^ b) : a = b := xr (c := c) (by rw [Nat.xor_comm a, Nat.xor_comm b]; exact h)
theorem crcStep_inj {x y : Nat} (hx : x < 4294967296) (hy : y < 4294967296) (h : crcStep x = crcStep y) : x = y := by
  have hbit : ∀ z : Nat, z < 4294967296 → (crcStep z).testBit 31 = decide (z % 2 = 1) := by
    intro z hz
    unfold crcStep
    have h31 : (z / 2).testBit 31 = false := Nat.testBit_lt_two_pow (by omega)
    split
    · rename_i h1
      rw [Nat.testBit_xor, h31, decide_eq_true h1]
      decide
    · rename_i h1
      rw [h31, decide_eq_false h1]
  have hp : decide (x % 2 = 1) = decide (y % 2 = 1) := by rw [← hbit x hx, ← hbit y hy, h]
  unfold crcStep at h
  by_cases h1 : x % 2 = 1
  · have h2 : y % 2 = 1 := by rw [decide_eq_true h1] at hp; exact of_decide_eq_true hp.symm
    rw [if_pos h1, if_pos h2] at h
    have := xr h
    omega
  · have h2 : ¬ y % 2 = 1 := by rw [decide_eq_false h1] at hp; exact of_decide_eq_false hp.symm
    rw [if_neg h1, if_neg h2] at h
    omega
theorem crcIter_inj : ∀ (m : Nat) {x y : Nat}, x < 4294967296 → y < 4294967296 → crcIter m x = crcIter m y → x = y
  | 0, _, _, _, _, h => h
  | m + 1, _, _, hx, hy, h => crcStep_inj hx hy (crcIter_inj m (crcStep_lt hx) (crcStep_lt hy) h)
theorem crcN_inj : ∀ (l : List Int) {c d : Nat}, Byt l → c < 4294967296 → d < 4294967296 → crcN c l = crcN d l → c = d
  | [], _, _, _, _, _, h => h
  | x :: l, c, d, hb, hc, hd, h => by
    have hx := hb x List.mem_cons_self
    have h1 := crcN_inj l (fun y hy => hb y (List.mem_cons_of_mem _ hy)) (crcByte_lt hc (by omega)) (crcByte_lt hd (by omega)) h
    have h2 := crcIter_inj 8 (xor_lt hc (by omega)) (xor_lt hd (by omega)) h1
    exact xr h2
theorem crcN_app : ∀ (a b : List Int) (c : Nat), crcN c (a ++ b) = crcN (crcN c a) b
  | [], _, _ => rfl
  | x :: a, b, c => crcN_app a b _
theorem crcL_flip {p s : List Int} {x y : Int} (hp : Byt p) (hs : Byt s) (hx : 0 ≤ x ∧ x < 256) (hy : 0 ≤ y ∧ y < 256) (h : crcL (p ++ x :: s) = crcL (p ++ y :: s)) : x = y := by
  unfold crcL at h
  have h := xr h
  rw [crcN_app, crcN_app] at h
  have hc := crcN_lt p hp (c := 4294967295) (by omega)
  have h1 := crcN_inj s hs (crcByte_lt hc (show x.toNat < 256 by omega)) (crcByte_lt hc (show y.toNat < 256 by omega)) h
  have h2 := crcIter_inj 8 (xor_lt hc (by omega)) (xor_lt hc (by omega)) h1
  have h3 := xl h2
  omega
theorem bePut4_inj {a b : Int} (ha : 0 ≤ a ∧ a < 4294967296) (hb : 0 ≤ b ∧ b < 4294967296) (h : bePut a 4 = bePut b 4) : a = b := by
  simp only [bePut, Int.reducePow, List.cons.injEq] at h
  omega
theorem sumB_inj {a b : List Int} (ha : Byt a) (hb : Byt b) (h : sumB a = sumB b) : crcL a = crcL b := by
  have h1 := crcL_lt ha
  have h2 := crcL_lt hb
  have := bePut4_inj (by omega) (by omega) h
  omega
end Go.Proofs.Ytejheopcipgmaaa.Pc
