/- Lemmas for WR; a slim copy of this session's texts (slim.py). -/
import Derived.Test.YtgkaklpgccjmpaaZWRQ11
import Derived.Test.YtgkaklpgccjmpaaZWRQ12
import Derived.Test.YtgkaklpgccjmpaaZWRQ13
import Derived.Test.YtgkaklpgccjmpaaZWRQ2
import Derived.Test.YtgkaklpgccjmpaaZWRQ3
import Derived.Test.YtgkaklpgccjmpaaZWRPnum
import Derived.Test.YtgkaklpgccjmpaaZWRPnumref
namespace Go.Proofs.Ytgkaklpgccjmpaa.Pn
open Go.RowKit Go.Proofs.Ytgkaklpgccjmpaa.Q Go.Proofs.YtgkaklpgccjmpaaW.PrintWords Go.Proofs.YtgkaklpgccjmpaaW.PrintLast Go.Proofs.YtgkaklpgccjmpaaW.PrintMore
set_option linter.unusedVariables false
set_option linter.unusedSimpArgs false
theorem u32_of (op : BinOp) (x y : Int) : BitVec.ofInt 32 (Go.bits op .u32 x y) = (match op with
    | .and => BitVec.ofInt 32 x &&& BitVec.ofInt 32 y
    | .or => BitVec.ofInt 32 x ||| BitVec.ofInt 32 y
    | .xor => BitVec.ofInt 32 x ^^^ BitVec.ofInt 32 y
    | _ => BitVec.ofInt 32 x &&& ~~~ BitVec.ofInt 32 y) := by
  have h1 : ∀ z : BitVec 32, BitVec.ofInt 32 (IntKind.u32.wrap (z.toNat : Int)) = z := by
    intro z
    apply BitVec.eq_of_toNat_eq
    rw [q_w32, BitVec.toNat_ofInt]
    have hz : z.toNat < 4294967296 := z.isLt
    have e : ((2 ^ 32 : Nat) : Int) = 4294967296 := by decide
    rw [e]
    omega
  cases op <;> exact h1 _
theorem bits_congr {op op' : BinOp} {x y x' y' : Int} (h : BitVec.ofInt 32 (Go.bits op .u32 x y) = BitVec.ofInt 32 (Go.bits op' .u32 x' y')) : Go.bits op .u32 x y = Go.bits op' .u32 x' y' := by
  have key : ∀ (o : BinOp) (a b : Int), Go.bits o .u32 a b = ((BitVec.ofInt 32 (Go.bits o .u32 a b)).toNat : Int) := by
    intro o a b
    have h0 : 0 ≤ Go.bits o .u32 a b ∧ Go.bits o .u32 a b < 4294967296 := by
      unfold Go.bits
      simp only [q_w32]
      omega
    rw [BitVec.toNat_ofInt]
    have e : ((2 ^ 32 : Nat) : Int) = 4294967296 := by decide
    rw [e]
    omega
  rw [key op x y, key op' x' y', h]
theorem or_comm32 (x y : Int) : Go.bits .or .u32 x y = Go.bits .or .u32 y x := bits_congr (by rw [u32_of, u32_of]; exact BitVec.or_comm _ _)
theorem choice32 (s4 s5 s6 : Int) : Go.bits .xor .u32 (Go.bits .and .u32 s4 s5) (Go.bits .and .u32 (Go.bits .xor .u32 4294967295 s4) s6) = sha_choice s4 s5 s6 := by
  unfold sha_choice
  refine bits_congr ?_
  simp only [u32_of]
  congr 1
  have e : BitVec.ofInt 32 4294967295 = BitVec.allOnes 32 := by decide
  rw [e, BitVec.allOnes_xor, BitVec.and_comm]
theorem turn_rot (x : Int) (n : Nat) (h0 : 1 ≤ n) (h1 : n ≤ 31) : fairleadref07_turn.f x (n : Int) = bits_RotateLeft32.f x (wrap64 (-(n : Int))) := by
  have e1 : Go.bits .and .u64 (IntKind.u64.wrap (wrap64 (-(n : Int)))) 31 = ((32 - n : Nat) : Int) := by
    rw [w64 (by omega) (by omega)]
    have : ∀ m : Fin 32, 1 ≤ m.val → Go.bits .and .u64 (IntKind.u64.wrap (-(m.val : Int))) 31 = ((32 - m.val : Nat) : Int) := by decide +kernel
    exact this ⟨n, by omega⟩ h0
  have e2 : IntKind.u64.wrap (32 - ((32 - n : Nat) : Int)) = (n : Int) := by rw [wu64_id (by omega) (by omega)]; omega
  have e3 : (32 - (n : Int)) % 4294967296 = ((32 - n : Nat) : Int) := by omega
  simp only [fairleadref07_turn.f, bits_RotateLeft32.f, e1, e2, e3]
  rw [if_pos (by omega), if_pos (by omega), if_pos (by omega), or_comm32]
def rot (x n : Int) : Int := (bits_RotateLeft32.f x (wrap64 (-n))).getD 0
theorem turn_eq (x : Int) (n : Nat) (h0 : 1 ≤ n) (h1 : n ≤ 31) : fairleadref07_turn.f x (n : Int) = some (rot x n) := by
  have h := turn_rot x n h0 h1
  rw [h]
  simp only [fairleadref07_turn.f] at h
  rw [if_pos (by omega)] at h
  unfold rot
  rw [← h]; rfl
theorem rot_eq (x : Int) (n : Nat) (h0 : 1 ≤ n) (h1 : n ≤ 31) : bits_RotateLeft32.f x (wrap64 (-(n : Int))) = some (rot x n) := by rw [← turn_rot x n h0 h1]; exact turn_eq x n h0 h1
theorem sig0_eq (x : Int) : sha_sig0 x = Go.bits .xor .u32 (Go.bits .xor .u32 (rot x 7) (rot x 18)) (x / 8) := by
  have a : bits_RotateLeft32.f x (wrap64 (-3)) = some (rot x 3) := rot_eq x 3 (by decide) (by decide)
  have b : bits_RotateLeft32.f x (wrap64 (-7)) = some (rot x 7) := rot_eq x 7 (by decide) (by decide)
  have c : bits_RotateLeft32.f x (wrap64 (-18)) = some (rot x 18) := rot_eq x 18 (by decide) (by decide)
  unfold sha_sig0 sha_turned.f
  rw [a, b, c]
  rfl
theorem sig1_eq (x : Int) : sha_sig1 x = Go.bits .xor .u32 (Go.bits .xor .u32 (rot x 17) (rot x 19)) (x / 1024) := by
  unfold sha_sig1 sha_turned.f
  rw [show (10 : Int) = ((10 : Nat) : Int) from rfl, show (17 : Int) = ((17 : Nat) : Int) from rfl, show (19 : Int) = ((19 : Nat) : Int) from rfl, rot_eq x 10 (by decide) (by decide), rot_eq x 17 (by decide) (by decide), rot_eq x 19 (by decide) (by decide)]
  rfl
theorem sig2_eq (x : Int) : sha_sig2 x = Go.bits .xor .u32 (Go.bits .xor .u32 (rot x 6) (rot x 11)) (rot x 25) := by
  unfold sha_sig2 sha_turned.f
  rw [show (6 : Int) = ((6 : Nat) : Int) from rfl, show (11 : Int) = ((11 : Nat) : Int) from rfl, show (25 : Int) = ((25 : Nat) : Int) from rfl, rot_eq x 6 (by decide) (by decide), rot_eq x 11 (by decide) (by decide), rot_eq x 25 (by decide) (by decide)]
  rfl
theorem sig3_eq (x : Int) : sha_sig3 x = Go.bits .xor .u32 (Go.bits .xor .u32 (rot x 2) (rot x 13)) (rot x 22) := by
  unfold sha_sig3 sha_turned.f
  rw [show (2 : Int) = ((2 : Nat) : Int) from rfl, show (13 : Int) = ((13 : Nat) : Int) from rfl, show (22 : Int) = ((22 : Nat) : Int) from rfl, rot_eq x 2 (by decide) (by decide), rot_eq x 13 (by decide) (by decide), rot_eq x 22 (by decide) (by decide)]
  rfl
theorem rd_take {l : List Int} {i j : Nat} (h : j < i) : rd (l.take i) (j : Int) = l.getD j 0 := by
  simp [rd, List.getD_eq_getElem?_getD, List.getElem?_take_of_lt h]
theorem take_set (l : List Int) (i : Nat) (v : Int) (h : i < l.length) : l.take i ++ [v] = (l.set i v).take (i + 1) := by
  rw [List.take_add_one]
  simp [List.take_set_of_le, h]
theorem get5 {l : List Int} (hb : Byt l) (h : l.length = 4) : num_Get.f 5 l = some (beGet 0 l) := by
  obtain ⟨K, hK⟩ := num_Get_ev hb (by omega)
  have h1 := hK (max K 5) (Nat.le_max_left _ _)
  have h2 := sha_get4 l h
  have h3 := at_rounds (g := fun k => num_Get.f k l) (fun k => num_Get.mono l k) (Nat.le_max_right K 5) h2
  have h4 : num_Get.f (max K 5) l = some ((num_Get.f 5 l).getD 0) := h3
  exact h2.trans (h4.symm.trans h1)
theorem w16_eq {b : List Int} (hb : Byt b) (hl : b.length = 64) {i : Nat} (hi : i < 16) : sha_w16 b i = beGet 0 ((b.take (4 * i + 4)).drop (4 * i)) % 4294967296 := by
  unfold sha_w16
  rw [get5 ((hb.take _).drop _) (by rw [List.length_drop, List.length_take]; omega)]
  rfl
theorem words0_ev {b : List Int} (hb : Byt b) (hl : b.length = 64) {r : List Int} (hr : Ev (fun k => fairleadref07_words.l1 k ((sha_schedTo b 16).take 16) 16) r) :
    ∀ (m i : Nat), m + i = 16 → Ev (fun k => fairleadref07_words.l0 k b ((sha_schedTo b i).take i) (i : Int)) r
  | 0, i, h => by
    obtain rfl : i = 16 := by omega
    refine Ev.step (fun k => ?_) hr
    simp only [fairleadref07_words.l0]
    rw [if_neg (by omega)]
  | m + 1, i, h => by
    have hv := words0_ev hb hl hr m (i + 1) (by omega)
    have e1 : wrap64 (4 * (i : Int)) = ((4 * i : Nat) : Int) := by rw [w64 (by omega) (by omega)]; omega
    have e2 : wrap64 (((4 * i : Nat) : Int) + 4) = ((4 * i + 4 : Nat) : Int) := by rw [w64 (by omega) (by omega)]; omega
    have hg := ref_Get_ev (l := (b.take (4 * i + 4)).drop (4 * i)) ((hb.take _).drop _) (by rw [List.length_drop, List.length_take]; omega)
    have hlt : ((sha_schedTo b i).take i).length = i := by rw [List.length_take, sha_schedTo_len]; omega
    refine Ev.step (f := fun k => (fairleadref01_Get.f k ((b.take (4 * i + 4)).drop (4 * i))).bind fun t => if ((sha_schedTo b i).take i).length < 35184372088832 then fairleadref07_words.l0 k b ((sha_schedTo b i).take i ++ [t % 4294967296]) ((i + 1 : Nat) : Int) else none) (fun k => ?_) (Ev.bind hg ?_)
    · simp only [fairleadref07_words.l0, e1, e2, Int.toNat_natCast]
      rw [if_pos (by omega), if_pos (by omega), if_pos (by omega), if_pos (by omega), w64 (by omega) (by omega)]
      rfl
    · rw [hlt, take_set _ _ _ (by rw [sha_schedTo_len]; omega), ← w16_eq hb hl (by omega)]
      have e3 : (sha_schedTo b i).set i (sha_w16 b i) = sha_schedTo b (i + 1) := by simp only [sha_schedTo]; rw [if_pos (by omega)]
      simp only [e3, eq_true (show i < 35184372088832 by omega), if_true]
      exact hv
theorem words1_ev (b : List Int) : ∀ (m i : Nat), m + i = 64 → 16 ≤ i → Ev (fun k => fairleadref07_words.l1 k ((sha_schedTo b i).take i) (i : Int)) (sha_schedTo b 64)
  | 0, i, h, h16 => by
    obtain rfl : i = 64 := by omega
    refine Ev.step (f := fun _ => some (sha_schedTo b 64)) (fun k => ?_) (Ev.now _)
    simp only [fairleadref07_words.l1]
    rw [if_neg (by omega), List.take_of_length_le (by rw [sha_schedTo_len]; omega)]
  | m + 1, i, h, h16 => by
    have hv := words1_ev b m (i + 1) (by omega) (by omega)
    have hlt : ((sha_schedTo b i).take i).length = i := by rw [List.length_take, sha_schedTo_len]; omega
    have e15 : wrap64 ((i : Int) - 15) = ((i - 15 : Nat) : Int) := by rw [w64 (by omega) (by omega)]; omega
    have e2 : wrap64 ((i : Int) - 2) = ((i - 2 : Nat) : Int) := by rw [w64 (by omega) (by omega)]; omega
    have e16 : wrap64 ((i : Int) - 16) = ((i - 16 : Nat) : Int) := by rw [w64 (by omega) (by omega)]; omega
    have e7 : wrap64 ((i : Int) - 7) = ((i - 7 : Nat) : Int) := by rw [w64 (by omega) (by omega)]; omega
    have r15 := rd_take (l := sha_schedTo b i) (i := i) (j := i - 15) (by omega)
    have r2 := rd_take (l := sha_schedTo b i) (i := i) (j := i - 2) (by omega)
    have r16 := rd_take (l := sha_schedTo b i) (i := i) (j := i - 16) (by omega)
    have r7 := rd_take (l := sha_schedTo b i) (i := i) (j := i - 7) (by omega)
    have t7 : ∀ x, fairleadref07_turn.f x 7 = some (rot x 7) := fun x => turn_eq x 7 (by decide) (by decide)
    have t18 : ∀ x, fairleadref07_turn.f x 18 = some (rot x 18) := fun x => turn_eq x 18 (by decide) (by decide)
    have t17 : ∀ x, fairleadref07_turn.f x 17 = some (rot x 17) := fun x => turn_eq x 17 (by decide) (by decide)
    have t19 : ∀ x, fairleadref07_turn.f x 19 = some (rot x 19) := fun x => turn_eq x 19 (by decide) (by decide)
    have ev : ((((((((sha_schedTo b i).getD (i - 16) 0 + Go.bits .xor .u32 (Go.bits .xor .u32 (rot ((sha_schedTo b i).getD (i - 15) 0) 7) (rot ((sha_schedTo b i).getD (i - 15) 0) 18)) ((sha_schedTo b i).getD (i - 15) 0 / 8))) % 4294967296) + (sha_schedTo b i).getD (i - 7) 0) % 4294967296) + Go.bits .xor .u32 (Go.bits .xor .u32 (rot ((sha_schedTo b i).getD (i - 2) 0) 17) (rot ((sha_schedTo b i).getD (i - 2) 0) 19)) ((sha_schedTo b i).getD (i - 2) 0 / 1024)) % 4294967296) = sha_next (sha_schedTo b i) i := by
      unfold sha_next
      rw [sig0_eq, sig1_eq]
    have e3 : (sha_schedTo b i).set i (sha_next (sha_schedTo b i) i) = sha_schedTo b (i + 1) := by simp only [sha_schedTo]; rw [if_neg (by omega)]
    refine Ev.step (fun k => ?_) hv
    rw [fairleadref07_words.l1]
    rw [e15, e2, e16, e7, hlt]
    rw [if_pos (by omega), if_pos (by omega), if_pos (by omega), if_pos (by omega), if_pos (by omega), r15, r2, t7, t18, t17, t19]
    simp only [Option.bind_some]
    rw [if_pos (by omega), if_pos (by omega), if_pos (by omega), if_pos (by omega), if_pos (by omega), r16, r7, ev, take_set _ _ _ (by rw [sha_schedTo_len]; omega), e3, w64 (by omega) (by omega)]
    rfl
theorem ref_words_ev {b : List Int} (hb : Byt b) (hl : b.length = 64) : Ev (fun k => fairleadref07_words.f k b) (sha_schedTo b 64) := by
  refine Ev.congr (fun k => ?_) (words0_ev hb hl (words1_ev b 48 16 rfl (by decide)) 16 0 rfl)
  rfl
theorem block0_ev {x0 b : List Int} (h8 : x0.length = 8) {r : List Int} (hr : Ev (fun k => fairleadref07_Block.l1 k x0 (sha_rounds (sha_schedTo b 64) x0 64) 0) r) :
    ∀ (m i : Nat), m + i = 64 → Ev (fun k => fairleadref07_Block.l0 k x0 (sha_schedTo b 64) sha_K (sha_rounds (sha_schedTo b 64) x0 i) (i : Int)) r
  | 0, i, h => by
    obtain rfl : i = 64 := by omega
    refine Ev.step (fun k => ?_) hr
    rw [fairleadref07_Block.l0]
    rw [if_neg (by omega)]
  | m + 1, i, h => by
    have hv := block0_ev h8 hr m (i + 1) (by omega)
    obtain ⟨s0, s1, s2, s3, s4, s5, s6, s7, hs⟩ := sha_eight _ (sha_rounds_eight (sha_schedTo b 64) x0 h8 i)
    have hk : (sha_K.length : Int) = 64 := rfl
    have hw : ((sha_schedTo b 64).length : Int) = 64 := by rw [sha_schedTo_len]; rfl
    have rk : rd sha_K (i : Int) = sha_K.getD i 0 := by simp [rd]
    have rw_ : rd (sha_schedTo b 64) (i : Int) = (sha_schedTo b 64).getD i 0 := by simp [rd]
    have hstep : sha_rounds (sha_schedTo b 64) x0 (i + 1) = sha_step (sha_K.getD i 0) ((sha_schedTo b 64).getD i 0) [s0, s1, s2, s3, s4, s5, s6, s7] := by rw [← hs]; rfl
    rw [hstep] at hv
    rw [hs]
    have t6 : ∀ x, fairleadref07_turn.f x 6 = some (rot x 6) := fun x => turn_eq x 6 (by decide) (by decide)
    have t11 : ∀ x, fairleadref07_turn.f x 11 = some (rot x 11) := fun x => turn_eq x 11 (by decide) (by decide)
    have t25 : ∀ x, fairleadref07_turn.f x 25 = some (rot x 25) := fun x => turn_eq x 25 (by decide) (by decide)
    have t2 : ∀ x, fairleadref07_turn.f x 2 = some (rot x 2) := fun x => turn_eq x 2 (by decide) (by decide)
    have t13 : ∀ x, fairleadref07_turn.f x 13 = some (rot x 13) := fun x => turn_eq x 13 (by decide) (by decide)
    have t22 : ∀ x, fairleadref07_turn.f x 22 = some (rot x 22) := fun x => turn_eq x 22 (by decide) (by decide)
    refine Ev.step (fun k => ?_) hv
    generalize hkk : sha_K.getD i 0 = kk at *
    generalize hww : (sha_schedTo b 64).getD i 0 = ww at *
    have q0 : rd [s0, s1, s2, s3, s4, s5, s6, s7] 0 = s0 := rfl
    have q1 : rd [s0, s1, s2, s3, s4, s5, s6, s7] 1 = s1 := rfl
    have q2 : rd [s0, s1, s2, s3, s4, s5, s6, s7] 2 = s2 := rfl
    have q3 : rd [s0, s1, s2, s3, s4, s5, s6, s7] 3 = s3 := rfl
    have q4 : rd [s0, s1, s2, s3, s4, s5, s6, s7] 4 = s4 := rfl
    have q5 : rd [s0, s1, s2, s3, s4, s5, s6, s7] 5 = s5 := rfl
    have q6 : rd [s0, s1, s2, s3, s4, s5, s6, s7] 6 = s6 := rfl
    have q7 : rd [s0, s1, s2, s3, s4, s5, s6, s7] 7 = s7 := rfl
    have ql : (([s0, s1, s2, s3, s4, s5, s6, s7] : List Int).length : Int) = 8 := rfl
    rw [fairleadref07_Block.l0]
    rw [q0, q1, q2, q3, q4, q5, q6, q7, ql, hk, hw, rk, rw_, t6, t11, t25, t2, t13, t22]
    simp only [Option.bind_some]
    rw [if_pos (by omega), if_pos (by decide), if_pos (by decide), if_pos (by decide), if_pos (by decide), if_pos (by decide), if_pos (by omega), if_pos (by omega), if_pos (by omega), if_pos (by decide), if_pos (by decide), if_pos (by decide), choice32, w64 (by omega) (by omega)]
    have e0 : (((((s7 + Go.bits .xor .u32 (Go.bits .xor .u32 (rot s4 6) (rot s4 11)) (rot s4 25)) % 4294967296 + sha_choice s4 s5 s6) % 4294967296 + kk) % 4294967296 + ww) % 4294967296 + (Go.bits .xor .u32 (Go.bits .xor .u32 (rot s0 2) (rot s0 13)) (rot s0 22) + Go.bits .xor .u32 (Go.bits .xor .u32 (Go.bits .and .u32 s0 s1) (Go.bits .and .u32 s0 s2)) (Go.bits .and .u32 s1 s2)) % 4294967296) % 4294967296 = (s7 + sha_sig2 s4 + sha_choice s4 s5 s6 + kk + ww + (sha_sig3 s0 + sha_most s0 s1 s2)) % 4294967296 := by
      rw [sig2_eq, sig3_eq]; unfold sha_most; omega
    have e4 : (s3 + ((((s7 + Go.bits .xor .u32 (Go.bits .xor .u32 (rot s4 6) (rot s4 11)) (rot s4 25)) % 4294967296 + sha_choice s4 s5 s6) % 4294967296 + kk) % 4294967296 + ww) % 4294967296) % 4294967296 = (s3 + (s7 + sha_sig2 s4 + sha_choice s4 s5 s6 + kk + ww)) % 4294967296 := by
      rw [sig2_eq]; omega
    rw [e0, e4]
    rfl
def ref_outTo (x0 s : List Int) (j : Nat) : List Int := (sha_outTo x0 s j).take j ++ s.drop j
theorem ref_outTo_succ (x0 s : List Int) (hs : s.length = 8) {j : Nat} (hj : j < 8) : (ref_outTo x0 s j).set j ((s.getD j 0 + x0.getD j 0) % 4294967296) = ref_outTo x0 s (j + 1) := by
  unfold ref_outTo
  have hl : ((sha_outTo x0 s j).take j).length = j := by rw [List.length_take, sha_outTo_len]; omega
  rw [List.set_append_right _ _ (by omega), hl, Nat.sub_self, List.drop_eq_getElem_cons (by omega)]
  simp only [List.set_cons_zero]
  rw [show ∀ (a c : List Int) (v : Int), a ++ v :: c = (a ++ [v]) ++ c from fun a c v => by simp, take_set _ _ _ (by rw [sha_outTo_len]; omega)]
  simp only [sha_outTo, Int.add_comm]
theorem rd_outTo (x0 s : List Int) (hs : s.length = 8) {j : Nat} (hj : j < 8) : rd (ref_outTo x0 s j) (j : Int) = s.getD j 0 := by
  unfold ref_outTo
  have hl : ((sha_outTo x0 s j).take j).length = j := by rw [List.length_take, sha_outTo_len]; omega
  simp only [rd, Int.toNat_natCast, List.getD_eq_getElem?_getD]
  rw [List.getElem?_append_right (by omega), hl, Nat.sub_self, List.getElem?_drop]
  simp
theorem ref_outTo_len (x0 s : List Int) (hs : s.length = 8) {j : Nat} (hj : j ≤ 8) : (ref_outTo x0 s j).length = 8 := by
  unfold ref_outTo
  rw [List.length_append, List.length_take, sha_outTo_len, List.length_drop]
  omega
theorem block1_ev {x0 s : List Int} (h8 : x0.length = 8) (hs : s.length = 8) : ∀ (m j : Nat), m + j = 8 → Ev (fun k => fairleadref07_Block.l1 k x0 (ref_outTo x0 s j) (j : Int)) (sha_outTo x0 s 8)
  | 0, j, h => by
    obtain rfl : j = 8 := by omega
    have e : ref_outTo x0 s 8 = sha_outTo x0 s 8 := by
      unfold ref_outTo
      rw [List.take_of_length_le (by rw [sha_outTo_len]; omega), List.drop_of_length_le (by omega), List.append_nil]
    rw [e]
    refine Ev.step (f := fun _ => some (sha_outTo x0 s 8)) (fun k => ?_) (Ev.now _)
    rw [fairleadref07_Block.l1]
    rw [if_neg (by omega)]
  | m + 1, j, h => by
    have hv := block1_ev h8 hs m (j + 1) (by omega)
    have hl := ref_outTo_len x0 s hs (j := j) (by omega)
    have hx : rd x0 (j : Int) = x0.getD j 0 := by simp [rd]
    refine Ev.step (fun k => ?_) hv
    rw [fairleadref07_Block.l1]
    rw [if_pos (by omega), if_pos (by omega), if_pos (by omega), if_pos (by omega), rd_outTo x0 s hs (by omega), hx, Int.toNat_natCast, ref_outTo_succ x0 s hs (by omega), w64 (by omega) (by omega)]
    rfl
theorem ref_Block_ev {x0 b : List Int} (h8 : x0.length = 8) (hb : Byt b) (hl : b.length = 64) : Ev (fun k => fairleadref07_Block.f k x0 b) (sha_block x0 b) := by
  have hs : (sha_rounds (sha_schedTo b 64) x0 64).length = 8 := sha_rounds_eight _ _ h8 64
  have h1 := block1_ev h8 hs 8 0 rfl
  have e : ref_outTo x0 (sha_rounds (sha_schedTo b 64) x0 64) 0 = sha_rounds (sha_schedTo b 64) x0 64 := by simp [ref_outTo]
  rw [e] at h1
  have h0 := block0_ev h8 h1 64 0 rfl
  refine Ev.congr (f := fun k => fairleadref07_Block.j0 k x0 b false) (fun k => ?_) ?_
  · simp only [fairleadref07_Block.f]
    rw [if_pos (by omega), show ((b.length : Int) != 64) = false by simp; omega]
  · refine Ev.step (f := fun k => (fairleadref07_words.f k b).bind fun t => (fairleadref07_k.f).bind fun u => if ([] : List Int).length + x0.length < 35184372088832 then fairleadref07_Block.l0 k x0 t u ([] ++ x0) 0 else none) (fun k => ?_) (Ev.bind (ref_words_ev hb hl) ?_)
    · rw [fairleadref07_Block.j0]
      rfl
    · have ek : fairleadref07_k.f = some sha_K := rfl
      simp only [ek, Option.bind_some, List.nil_append, List.length_nil, Nat.zero_add]
      simp only [eq_true (show x0.length < 35184372088832 by omega), if_true]
      exact h0
end Go.Proofs.Ytgkaklpgccjmpaa.Pn
