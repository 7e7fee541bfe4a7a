/- HmacTurned returns true for every input: a tag with a turned bit, cut short or with a byte more is not accepted, for every key and text of at most 2000 bytes; no condition. -/
import Derived.Test.YthhaaagjeifbbaaQ15
import Derived.Test.YthhaaagjeifbbaaPnum
import Derived.Test.YthhaaagjeifbbaaPsum
import Derived.Test.YthhaaagjeifbbaaPhmac
import Derived.Test.YthhaaagjeifbbaaPhlaw
namespace Go.Proofs.Ythhaaagjeifbbaa.Pure
open Go.RowKit Go.Proofs.Ythhaaagjeifbbaa.Q Go.Proofs.YthhaaagjeifbbaaW.PrintWords Go.Proofs.YthhaaagjeifbbaaW.PrintLast Go.Proofs.YthhaaagjeifbbaaW.PrintMore Go.Proofs.Ythhaaagjeifbbaa.Ph Go.Proofs.Ythhaaagjeifbbaa.Pn
set_option linter.unusedVariables false
set_option linter.unusedSimpArgs false
theorem flip_fin : ∀ x : Fin 256, ∀ b : Fin 8, Go.bits .xor .u8 ((x.val : Nat) : Int) (shl .u8 1 ((b.val : Nat) : Int)) ≠ ((x.val : Nat) : Int) := by decide +kernel
theorem flip_ne (x : Int) (b : Nat) (h0 : 0 ≤ x) (h1 : x < 256) (hb : b < 8) : Go.bits .xor .u8 x (shl .u8 1 (b : Int)) ≠ x := by
  have := flip_fin ⟨x.toNat, by omega⟩ ⟨b, hb⟩
  simpa only [Int.toNat_of_nonneg h0] using this
theorem set_ne (T : List Int) (i : Nat) (hi : i < T.length) (v : Int) (hv : v ≠ rd T (i : Int)) : T.set i v ≠ T := by
  intro e
  have h1 : (T.set i v)[i]? = some v := by simp [hi]
  rw [e, List.getElem?_eq_getElem hi, Option.some.injEq] at h1
  exact hv (h1.symm.trans (rd_cons (List.drop_eq_getElem_cons hi)).symm)
theorem HmacTurned : fairleadlaw08_HmacTurned.Pure := by
  intro l0 l1 a2 _ _ hw0 _ _ hw1 hw2
  refine Ev.rounds ?_
  have hb0 := u8_byt hw0
  have hb1 := u8_byt hw1
  by_cases hs : l0.length ≤ 2000 ∧ l1.length ≤ 2000
  · have h32 := tagL_len l0 l1
    obtain ⟨n, hn, e⟩ : ∃ n : Nat, n < 256 ∧ wrap64 (Int.tmod (IntKind.u64.wrap a2) 256) = (n : Int) := by
      refine ⟨(IntKind.u64.wrap a2 % 256).toNat, ?_, ?_⟩
      · omega
      · rw [Int.tmod_eq_emod_of_nonneg (by rw [wu64]; omega), w64 (by omega) (by omega)]
        omega
    have e8 : wrap64 (Int.tdiv (n : Int) 8) = ((n / 8 : Nat) : Int) := by
      rw [Int.tdiv_eq_ediv_of_nonneg (by omega), w64 (by omega) (by omega)]
      omega
    have eb : IntKind.u64.wrap (Int.tmod (n : Int) 8) = ((n % 8 : Nat) : Int) := by
      rw [Int.tmod_eq_emod_of_nonneg (by omega), wu64_id (by omega) (by omega)]
      omega
    have hi : n / 8 < (tagL l0 l1).length := by omega
    have hrd : rd (tagL l0 l1) ((n / 8 : Nat) : Int) ∈ tagL l0 l1 := by rw [rd_cons (List.drop_eq_getElem_cons hi)]; exact List.getElem_mem _
    have hr := tagL_byt l0 l1 _ hrd
    have hne := set_ne (tagL l0 l1) (n / 8) hi _ (flip_ne _ (n % 8) hr.1 hr.2 (by omega))
    simp only [fairleadlaw08_HmacTurned.f, small_f, decide_eq_true hs, Option.bind_some, if_true, e, e8, eb, List.nil_append, List.length_nil, Nat.zero_add]
    refine Ev.bind (hmac_Tag1_ev l0 l1 hb0 (by omega) hb1 (by omega)) ?_
    simp only [eq_true (show ((tagL l0 l1).length : Int) = 32 by omega), eq_true (show (tagL l0 l1).length < 140737488355328 by omega), eq_true (show (0 : Int) ≤ ((n / 8 : Nat) : Int) by omega), eq_true (show ((n / 8 : Nat) : Int) < ((tagL l0 l1).length : Int) by omega), eq_true (show (0 : Int) ≤ ((n % 8 : Nat) : Int) by omega), if_true, Int.toNat_natCast]
    refine Ev.bind (verify_ev l0 _ l1 hb0 (by omega) hb1 (by omega)) ?_
    simp only [decide_eq_false hne, Bool.false_eq_true, if_false, eq_true (show (31 : Int) ≤ ((tagL l0 l1).length : Int) by omega), if_true]
    refine Ev.bind (verify_ev l0 _ l1 hb0 (by omega) hb1 (by omega)) ?_
    have h31 : (tagL l0 l1).take 31 ≠ tagL l0 l1 := fun e => by have := congrArg List.length e; rw [List.length_take] at this; omega
    simp only [decide_eq_false h31, Bool.false_eq_true, if_false, if_true]
    refine Ev.bind (verify_ev l0 _ l1 hb0 (by omega) hb1 (by omega)) ?_
    have h33 : tagL l0 l1 ++ [0] ≠ tagL l0 l1 := fun e => by have := congrArg List.length e; rw [List.length_append] at this; simp at this
    simp only [decide_eq_false h33, Bool.false_eq_true, if_false]
    exact Ev.now _
  · simp only [fairleadlaw08_HmacTurned.f, small_f, decide_eq_false hs, Option.bind_some]
    exact Ev.now _
end Go.Proofs.Ythhaaagjeifbbaa.Pure
