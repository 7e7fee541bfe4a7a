/- Lemmas for RT; a slim copy of this session's texts (slim.py). -/
import Derived.Test.YtgkaklpgccjmpaaZRTQ17
import Derived.Test.YtgkaklpgccjmpaaZRTPnum
import Derived.Test.YtgkaklpgccjmpaaZRTPsum
import Derived.Test.YtgkaklpgccjmpaaZRTPhmac
import Derived.Test.YtgkaklpgccjmpaaZRTPtok
import Derived.Test.YtgkaklpgccjmpaaZRTPjud
namespace Go.Proofs.Ytgkaklpgccjmpaa.Pure
open Go.RowKit Go.Proofs.Ytgkaklpgccjmpaa.Q Go.Proofs.YtgkaklpgccjmpaaW.PrintWords Go.Proofs.YtgkaklpgccjmpaaW.PrintLast Go.Proofs.YtgkaklpgccjmpaaW.PrintMore Go.Proofs.Ytgkaklpgccjmpaa.Ph Go.Proofs.Ytgkaklpgccjmpaa.Pk Go.Proofs.Ytgkaklpgccjmpaa.Pn
set_option linter.unusedVariables false
set_option linter.unusedSimpArgs false
theorem flip_fin : ∀ x : Fin 256, ∀ b : Fin 8, Go.bits .xor .u8 ((x.val : Nat) : Int) (shl .u8 1 ((b.val : Nat) : Int)) ≠ ((x.val : Nat) : Int) ∧ 0 ≤ Go.bits .xor .u8 ((x.val : Nat) : Int) (shl .u8 1 ((b.val : Nat) : Int)) ∧ Go.bits .xor .u8 ((x.val : Nat) : Int) (shl .u8 1 ((b.val : Nat) : Int)) < 256 := by decide +kernel
theorem flip_ne (x : Int) (b : Nat) (h0 : 0 ≤ x) (h1 : x < 256) (hb : b < 8) : Go.bits .xor .u8 x (shl .u8 1 (b : Int)) ≠ x ∧ 0 ≤ Go.bits .xor .u8 x (shl .u8 1 (b : Int)) ∧ Go.bits .xor .u8 x (shl .u8 1 (b : Int)) < 256 := by
  have := flip_fin ⟨x.toNat, by omega⟩ ⟨b, hb⟩
  simpa only [Int.toNat_of_nonneg h0] using this
theorem set_ne (T : List Int) (i : Nat) (hi : i < T.length) (v : Int) (hv : v ≠ rd T (i : Int)) : T.set i v ≠ T := by
  intro e
  have h1 : (T.set i v)[i]? = some v := by simp [hi]
  rw [e, List.getElem?_eq_getElem hi, Option.some.injEq] at h1
  exact hv (h1.symm.trans (rd_cons (List.drop_eq_getElem_cons hi)).symm)
theorem set_byt {T : List Int} (h : Byt T) (i : Nat) {v : Int} (h0 : 0 ≤ v) (h1 : v < 256) : Byt (T.set i v) := fun x hx => (List.mem_or_eq_of_mem_set hx).elim (h x) (fun e => e ▸ ⟨h0, h1⟩)
theorem TokenTurned (l0 : List Int) (t1 t2 t3 t4 right bit : Int) (hw0 : ∀ x ∈ l0, (Lit.int .u8 x).wf = true) (hl : l0.length * 1 ≤ 140737488351232) : ∃ k, fairleadlaw25_TokenTurned.f k l0 t1 t2 t3 t4 right bit = some true := by
  refine Ev.rounds ?_
  have hb0 := u8_byt hw0
  unfold fairleadlaw25_TokenTurned.f
  refine Ev.bind (token_Mint_ev l0 hb0 (by omega) t1 t2 t3 t4) ?_
  unfold mintV
  by_cases h : okT t1 t2 t3 t4 = true
  · simp only [if_pos h, if_true]
    by_cases hs : (l0.length : Int) > 200
    · simp only [if_pos hs]
      refine Ev.step (fun k => by rw [fairleadlaw25_TokenTurned.j0]) ?_
      simp only [if_true, decide_eq_true hs]
      exact Ev.now _
    · simp only [if_neg hs]
      obtain ⟨T, hT⟩ : ∃ T, T = tagL l0 (bodyL t1 t2 t3 t4) := ⟨_, rfl⟩
      have hTl : T.length = 32 := by rw [hT]; exact tagL_len _ _
      have hTb : Byt T := by rw [hT]; exact tagL_byt _ _
      have hBl := bodyL_len t1 t2 t3 t4
      rw [← hT]
      have hll : (bodyL t1 t2 t3 t4 ++ T).length = 50 := by rw [List.length_append, hBl, hTl]
      have e50 : (((bodyL t1 t2 t3 t4 ++ T).length : Int) != 50) = false := by rw [hll]; rfl
      obtain ⟨n, hn, e⟩ : ∃ n : Nat, n < 256 ∧ wrap64 (Int.tmod (IntKind.u64.wrap bit) 256) = (n : Int) := by
        refine ⟨(IntKind.u64.wrap bit % 256).toNat, ?_, ?_⟩
        · omega
        · rw [Int.tmod_eq_emod_of_nonneg (by rw [wu64]; omega), w64 (by omega) (by omega)]
          omega
      have e8 : wrap64 (18 + wrap64 (Int.tdiv (n : Int) 8)) = ((18 + n / 8 : Nat) : Int) := by
        rw [Int.tdiv_eq_ediv_of_nonneg (by omega), w64 (x := (n : Int) / 8) (by omega) (by omega), w64 (by omega) (by omega)]
        omega
      have eb : IntKind.u64.wrap (wrap64 (Int.tmod (n : Int) 8)) = ((n % 8 : Nat) : Int) := by
        rw [Int.tmod_eq_emod_of_nonneg (by omega), w64 (by omega) (by omega), wu64_id (by omega) (by omega)]
        omega
      have eb' : IntKind.u64.wrap (Int.tmod (n : Int) 8) = ((n % 8 : Nat) : Int) := by
        rw [Int.tmod_eq_emod_of_nonneg (by omega), wu64_id (by omega) (by omega)]
        omega
      have hi : n / 8 < T.length := by omega
      have hrd0 : rd (bodyL t1 t2 t3 t4 ++ T) ((18 + n / 8 : Nat) : Int) = rd T ((n / 8 : Nat) : Int) := by
        unfold rd
        rw [Int.toNat_natCast, Int.toNat_natCast, List.getD_eq_getElem?_getD, List.getD_eq_getElem?_getD, List.getElem?_append_right (by omega), hBl]
        rw [show 18 + n / 8 - 18 = n / 8 by omega]
      have hrd : rd T ((n / 8 : Nat) : Int) ∈ T := by rw [rd_cons (List.drop_eq_getElem_cons hi)]; exact List.getElem_mem _
      have hr := hTb _ hrd
      obtain ⟨hne0, hv0, hv1⟩ := flip_ne _ (n % 8) hr.1 hr.2 (by omega)
      have hne := set_ne T (n / 8) hi _ hne0
      have hset : ∀ v : Int, (bodyL t1 t2 t3 t4 ++ T).set (18 + n / 8) v = bodyL t1 t2 t3 t4 ++ T.set (n / 8) v := by
        intro v
        rw [List.set_append_right _ _ (by omega), hBl, show 18 + n / 8 - 18 = n / 8 by omega]
      refine Ev.step (fun k => by rw [fairleadlaw25_TokenTurned.j0]) ?_
      simp only [e50, Bool.false_eq_true, if_false, e, e8, eb, eb', Int.toNat_natCast, hrd0, hset, eq_true (show (0 : Int) ≤ ((18 + n / 8 : Nat) : Int) by omega), eq_true (show ((18 + n / 8 : Nat) : Int) < ((bodyL t1 t2 t3 t4 ++ T).length : Int) by omega), eq_true (show (0 : Int) ≤ ((n % 8 : Nat) : Int) by omega), if_true]
      refine Ev.bind (token_Judge_ev l0 _ hb0 (by omega) ((bodyL_byt _ _ _ _).app (set_byt hTb _ hv0 hv1)) t1 right 0 t4) ?_
      rw [judge_minted h (by rw [List.length_set]; exact hTl), ← hT, decide_eq_false hne]
      simp only [token_judge.code, Bool.false_eq_true, if_false, if_true, fairleadlaw25_heads.f, Option.bind_some]
      exact Ev.now _
  · simp only [if_neg h]
    refine Ev.step (fun k => by rw [fairleadlaw25_TokenTurned.j0]) ?_
    simp only [if_true, fairleadlaw25_heads.f, Option.bind_some]
    exact Ev.now _
end Go.Proofs.Ytgkaklpgccjmpaa.Pure
