/- Lemmas for GR; a slim copy of this session's texts (slim.py). -/
import Derived.Test.YtgkaklpgccjmpaaZGRQ1
import Derived.Test.YtgkaklpgccjmpaaZGRQ0
import Derived.Test.YtgkaklpgccjmpaaZGRQ15
import Derived.Test.YtgkaklpgccjmpaaZGRQ5
import Derived.Test.YtgkaklpgccjmpaaZGRQ6
import Derived.Test.YtgkaklpgccjmpaaZGRQ14
import Derived.Test.YtgkaklpgccjmpaaZGRPnum
import Derived.Test.YtgkaklpgccjmpaaZGRPhmac
import Derived.Test.YtgkaklpgccjmpaaZGRPsum
import Derived.Test.YtgkaklpgccjmpaaZGRQ2
import Derived.Test.YtgkaklpgccjmpaaZGRQ3
import Derived.Test.YtgkaklpgccjmpaaZGRPsame
namespace Go.Proofs.Ytgkaklpgccjmpaa.Pk
open Go.RowKit Go.Proofs.Ytgkaklpgccjmpaa.Q Go.Proofs.YtgkaklpgccjmpaaW.PrintWords Go.Proofs.YtgkaklpgccjmpaaW.PrintLast Go.Proofs.YtgkaklpgccjmpaaW.PrintMore Go.Proofs.Ytgkaklpgccjmpaa.Ph Go.Proofs.Ytgkaklpgccjmpaa.Pn
set_option linter.unusedVariables false
set_option linter.unusedSimpArgs false
def okT (t1 t2 t3 t4 : Int) : Bool := decide (1 ≤ t1 ∧ t1 ≤ 16 ∧ 0 ≤ t2 ∧ t2 ≤ 255 ∧ 0 ≤ t3 ∧ t3 ≤ 4611686018427387904 ∧ 0 ≤ t4 ∧ t4 ≤ 4611686018427387904)
def bodyL (t1 t2 t3 t4 : Int) : List Int := [t1 % 256, t2 % 256] ++ bePut (IntKind.u64.wrap t3) 8 ++ bePut (IntKind.u64.wrap t4) 8
def bodyV (t1 t2 t3 t4 : Int) : List Int × Int := if okT t1 t2 t3 t4 = true then (bodyL t1 t2 t3 t4, 0) else ([], 250)
theorem bodyL_len (t1 t2 t3 t4 : Int) : (bodyL t1 t2 t3 t4).length = 18 := by simp [bodyL, bePut_len]
theorem bodyL_byt (t1 t2 t3 t4 : Int) : Byt (bodyL t1 t2 t3 t4) := by
  refine (Byt.app ?_ (bePut_byt _ _)).app (bePut_byt _ _)
  intro x hx
  simp at hx
  rcases hx with rfl | rfl <;> omega
theorem count_f (a : Int) : token_count.f a = some (decide (0 ≤ a ∧ a ≤ 4611686018427387904)) := by
  unfold token_count.f
  split
  · rename_i h
    rw [decide_eq_decide.2 (show a ≤ 4611686018427387904 ↔ 0 ≤ a ∧ a ≤ 4611686018427387904 by omega)]
  · rename_i h
    rw [decide_eq_false (by omega)]
theorem body_yes (t1 t2 t3 t4 : Int) : Ev (fun k => token_Body.j0 k false t1 t2 t3 t4) (bodyL t1 t2 t3 t4, 0) := by
  refine Ev.step (fun k => by rw [token_Body.j0]) ?_
  simp only [Bool.false_eq_true, if_false, Option.bind_some]
  refine Ev.bind (num_Put_ev _ 8 (by omega) (by omega)) ?_
  simp only [bePut_len, List.length_append, List.length_cons, List.length_nil, if_true, Option.bind_some, Nat.reduceAdd, Nat.reduceLT]
  refine Ev.bind (num_Put_ev _ 8 (by omega) (by omega)) ?_
  simp only [bePut_len, if_true, Nat.reduceAdd, Nat.reduceLT]
  exact Ev.now _
theorem body_no (t1 t2 t3 t4 : Int) : Ev (fun k => token_Body.j0 k true t1 t2 t3 t4) ([], 250) := by
  refine Ev.step (fun k => by rw [token_Body.j0]) ?_
  simp only [if_true]
  exact Ev.now _
theorem token_Body_ev (t1 t2 t3 t4 : Int) : Ev (fun k => token_Body.f k t1 t2 t3 t4) (bodyV t1 t2 t3 t4) := by
  unfold token_Body.f bodyV okT
  by_cases h1 : t1 < 1
  · simp only [if_pos h1]; rw [decide_eq_false (by omega)]; exact body_no ..
  by_cases h2 : t1 > 16
  · simp only [if_neg h1, if_pos h2]; rw [decide_eq_false (by omega)]; exact body_no ..
  by_cases h3 : t2 < 0
  · simp only [if_neg h1, if_neg h2, if_pos h3]; rw [decide_eq_false (by omega)]; exact body_no ..
  by_cases h4 : t2 > 255
  · simp only [if_neg h1, if_neg h2, if_neg h3, if_pos h4]; rw [decide_eq_false (by omega)]; exact body_no ..
  simp only [if_neg h1, if_neg h2, if_neg h3, if_neg h4, count_f, Option.bind_some]
  by_cases h5 : 0 ≤ t3 ∧ t3 ≤ 4611686018427387904
  · simp only [decide_eq_true h5, if_true]
    by_cases h6 : 0 ≤ t4 ∧ t4 ≤ 4611686018427387904
    · rw [decide_eq_true (show 1 ≤ t1 ∧ t1 ≤ 16 ∧ 0 ≤ t2 ∧ t2 ≤ 255 ∧ 0 ≤ t3 ∧ t3 ≤ 4611686018427387904 ∧ 0 ≤ t4 ∧ t4 ≤ 4611686018427387904 by omega), decide_eq_true h6]; exact body_yes ..
    · rw [decide_eq_false (show ¬(1 ≤ t1 ∧ t1 ≤ 16 ∧ 0 ≤ t2 ∧ t2 ≤ 255 ∧ 0 ≤ t3 ∧ t3 ≤ 4611686018427387904 ∧ 0 ≤ t4 ∧ t4 ≤ 4611686018427387904) by omega), decide_eq_false h6]; exact body_no ..
  · simp only [decide_eq_false h5, Bool.false_eq_true, if_false]
    rw [decide_eq_false (by omega)]; exact body_no ..
def mintV (key : List Int) (t1 t2 t3 t4 : Int) : List Int × Int := if okT t1 t2 t3 t4 = true then (bodyL t1 t2 t3 t4 ++ tagL key (bodyL t1 t2 t3 t4), 0) else ([], 250)
theorem token_Mint_ev (key : List Int) (hb : Byt key) (hl : key.length ≤ 140737488355000) (t1 t2 t3 t4 : Int) : Ev (fun k => token_Mint.f k key t1 t2 t3 t4) (mintV key t1 t2 t3 t4) := by
  unfold token_Mint.f mintV
  refine Ev.bind (token_Body_ev t1 t2 t3 t4) ?_
  unfold bodyV
  by_cases h : okT t1 t2 t3 t4 = true
  · simp only [if_pos h, if_true]
    refine Ev.bind (hmac_Tag1_ev key _ hb hl (bodyL_byt _ _ _ _) (by rw [bodyL_len]; omega)) ?_
    simp only [bodyL_len, tagL_len, Nat.reduceAdd, Nat.reduceLT, if_true]
    exact Ev.now _
  · simp only [if_neg h]
    exact Ev.now _
def rf (b : List Int) (i : Int) : Int := wrap64 (rd b i)
def rg (b : List Int) (i j : Nat) : Int := wrap64 (beGet 0 ((b.take j).drop i))
def okR (b : List Int) : Bool := decide (b.length = 50) && okT (rf b 0) (rf b 1) (rg b 2 10) (rg b 10 18)
def readV (b : List Int) : Int × Int × Int × Int × List Int × Int := if okR b = true then (rf b 0, rf b 1, rg b 2 10, rg b 10 18, b.drop 18, 0) else (0, 0, 0, 0, [], 250)
theorem token_Read_ev (b : List Int) (hb : Byt b) : Ev (fun k => token_Read.f k b) (readV b) := by
  unfold token_Read.f readV okR
  by_cases hl : b.length = 50
  · have hl' : (b.length : Int) = 50 := by omega
    simp only [hl', if_true, decide_eq_true hl, Bool.true_and, eq_true (show (0 : Int) < 50 by omega), eq_true (show (1 : Int) < 50 by omega), eq_true (show (2 : Int) ≤ 10 by omega), eq_true (show (10 : Int) ≤ 50 by omega), eq_true (show (10 : Int) ≤ 18 by omega), eq_true (show (18 : Int) ≤ 50 by omega)]
    refine Ev.bind (num_Get_ev ((hb.take 10).drop 2) (by rw [List.length_drop, List.length_take]; omega)) ?_
    refine Ev.bind (num_Get_ev ((hb.take 18).drop 10) (by rw [List.length_drop, List.length_take]; omega)) ?_
    refine Ev.bind (token_Body_ev _ _ _ _) ?_
    unfold bodyV
    by_cases h : okT (rf b 0) (rf b 1) (rg b 2 10) (rg b 10 18) = true
    · have h2 := h
      unfold rf rg at h2
      simp only [if_pos h, if_pos h2, if_true, bytes_Clone.f]
      rw [if_pos (show (b.drop 18).length < 140737488355328 by rw [List.length_drop]; omega)]
      exact Ev.now _
    · have h2 := h
      unfold rf rg at h2
      simp only [if_neg h, if_neg h2]
      exact Ev.now _
  · have hl' : ¬ (b.length : Int) = 50 := by omega
    simp only [if_neg hl', decide_eq_false hl, Bool.false_and, Bool.false_eq_true, if_false]
    exact Ev.now _
theorem get8 {l : List Int} (hb : Byt l) (hl : l.length = 8) : 0 ≤ beGet 0 l ∧ bePut (beGet 0 l) 8 = l := by
  match l, hl with
  | [c0, c1, c2, c3, c4, c5, c6, c7], _ =>
    have b0 := hb c0 (by simp)
    have b1 := hb c1 (by simp)
    have b2 := hb c2 (by simp)
    have b3 := hb c3 (by simp)
    have b4 := hb c4 (by simp)
    have b5 := hb c5 (by simp)
    have b6 := hb c6 (by simp)
    have b7 := hb c7 (by simp)
    have e : beGet 0 [c0, c1, c2, c3, c4, c5, c6, c7] = c0 * 72057594037927936 + c1 * 281474976710656 + c2 * 1099511627776 + c3 * 4294967296 + c4 * 16777216 + c5 * 65536 + c6 * 256 + c7 := by
      simp only [beGet]
      omega
    rw [e]
    refine ⟨by omega, ?_⟩
    simp only [bePut, Int.reducePow, List.cons.injEq, and_true]
    refine ⟨?_, ?_, ?_, ?_, ?_, ?_, ?_, ?_⟩ <;> omega
theorem take18 {b : List Int} (hl : b.length = 50) : b.take 18 = [rd b 0, rd b 1] ++ (b.take 10).drop 2 ++ (b.take 18).drop 10 := by
  match b, hl with
  | b0 :: b1 :: rest, _ =>
    have h := (List.take_append_drop 8 (rest.take 16)).symm
    rw [List.take_take] at h
    simpa [rd] using h
theorem body_of_read {b : List Int} (hb : Byt b) (h : okR b = true) : bodyL (rf b 0) (rf b 1) (rg b 2 10) (rg b 10 18) = b.take 18 := by
  unfold okR at h
  rw [Bool.and_eq_true] at h
  obtain ⟨hl, ho⟩ := h
  have hl := of_decide_eq_true hl
  unfold okT at ho
  have ho := of_decide_eq_true ho
  have l1 : ((b.take 10).drop 2).length = 8 := by rw [List.length_drop, List.length_take]; omega
  have l2 : ((b.take 18).drop 10).length = 8 := by rw [List.length_drop, List.length_take]; omega
  obtain ⟨p1, g1⟩ := get8 ((hb.take 10).drop 2) l1
  obtain ⟨p2, g2⟩ := get8 ((hb.take 18).drop 10) l2
  have q1 := (beGet_lt ((b.take 10).drop 2) 0 (by decide) (by decide)).2
  have q2 := (beGet_lt ((b.take 18).drop 10) 0 (by decide) (by decide)).2
  rw [take18 hl]
  unfold bodyL
  have r0 : 0 ≤ rd b 0 ∧ rd b 0 < 256 := by
    match b, hl with
    | b0 :: b1 :: rest, _ => exact hb b0 (by simp)
  have r1 : 0 ≤ rd b 1 ∧ rd b 1 < 256 := by
    match b, hl with
    | b0 :: b1 :: rest, _ => exact hb b1 (by simp)
  have e0 : rf b 0 = rd b 0 := w64 (by omega) (by omega)
  have e1 : rf b 1 = rd b 1 := w64 (by omega) (by omega)
  have e2 : IntKind.u64.wrap (rg b 2 10) = beGet 0 ((b.take 10).drop 2) := by
    have h5 := ho.2.2.2.2.1
    unfold rg at h5 ⊢
    unfold wrap64 at h5 ⊢
    rw [wu64]; omega
  have e3 : IntKind.u64.wrap (rg b 10 18) = beGet 0 ((b.take 18).drop 10) := by
    have h5 := ho.2.2.2.2.2.2.1
    unfold rg at h5 ⊢
    unfold wrap64 at h5 ⊢
    rw [wu64]; omega
  rw [e0, e1, e2, e3, g1, g2, Int.emod_eq_of_lt r0.1 r0.2, Int.emod_eq_of_lt r1.1 r1.2]
theorem okR_len {b : List Int} (h : okR b = true) : b.length = 50 := by
  unfold okR at h
  rw [Bool.and_eq_true] at h
  exact of_decide_eq_true h.1
end Go.Proofs.Ytgkaklpgccjmpaa.Pk
