/- Lemmas for WR; a slim copy of this session's texts (slim.py). -/
import Derived.Test.YtgkaklpgccjmpaaZWRQ14
import Derived.Test.YtgkaklpgccjmpaaZWRPnum
import Derived.Test.YtgkaklpgccjmpaaZWRPsum
import Derived.Test.YtgkaklpgccjmpaaZWRPref
import Derived.Test.YtgkaklpgccjmpaaZWRPhmac
namespace Go.Proofs.Ytgkaklpgccjmpaa.Ph
open Go.RowKit Go.Proofs.Ytgkaklpgccjmpaa.Q Go.Proofs.YtgkaklpgccjmpaaW.PrintWords Go.Proofs.YtgkaklpgccjmpaaW.PrintLast Go.Proofs.YtgkaklpgccjmpaaW.PrintMore Go.Proofs.Ytgkaklpgccjmpaa.Pn
set_option linter.unusedVariables false
set_option linter.unusedSimpArgs false
theorem rkey_ev : ∀ (m : Nat) (l : List Int), l.length + m = 64 → Ev (fun k => fairleadref08_Key.l0 k l) (l ++ List.replicate m 0)
  | 0, l, h => by
    refine Ev.step (f := fun _ => some (l ++ [])) (fun k => ?_) (Ev.now _)
    rw [fairleadref08_Key.l0, if_neg (by omega), List.append_nil]
  | m + 1, l, h => by
    have hv := rkey_ev m (l ++ [0]) (by simp; omega)
    rw [show l ++ List.replicate (m + 1) 0 = (l ++ [0]) ++ List.replicate m (0 : Int) by simp [List.replicate_succ]]
    refine Ev.step (f := fun k => fairleadref08_Key.l0 k (l ++ [0])) (fun k => ?_) hv
    rw [fairleadref08_Key.l0, if_pos (by omega), if_pos (by omega)]
theorem rj_ev (l : List Int) (h : l.length ≤ 64) : Ev (fun k => fairleadref08_Key.j0 k l) (hmac_fill l) := by
  have hv := rkey_ev (64 - l.length) l (by omega)
  rw [hmac_fill, List.take_of_length_le h]
  refine Ev.step (f := fun k => fairleadref08_Key.l0 k l) (fun k => ?_) hv
  rw [fairleadref08_Key.j0]
theorem ref_Key_ev (key : List Int) (hb : Byt key) (hl : key.length ≤ 100000000) : Ev (fun k => fairleadref08_Key.f k key) (keyL key) := by
  by_cases h : 64 < key.length
  · have hs := ref_Sum_ev key hb (by omega)
    refine Ev.congr (f := fun k => (fairleadref07_Sum.f k key).bind fun t => fairleadref08_Key.j0 k t) (fun k => ?_) (Ev.bind hs ?_)
    · rw [fairleadref08_Key.f]
      simp only [Option.bind_some, List.nil_append, List.length_nil, Nat.zero_add, eq_true (show key.length < 140737488355328 by omega), if_true, eq_true (show (key.length : Int) > 64 by omega)]
    · rw [keyL, if_pos h]
      exact rj_ev _ (by rw [shaL_len]; omega)
  · refine Ev.congr (f := fun k => fairleadref08_Key.j0 k key) (fun k => ?_) ?_
    · rw [fairleadref08_Key.f]
      simp only [Option.bind_some, List.nil_append, List.length_nil, Nat.zero_add, eq_true (show key.length < 140737488355328 by omega), if_true, eq_false (show ¬ (key.length : Int) > 64 by omega), if_false]
    · rw [keyL, if_neg h]
      exact rj_ev _ (by omega)
theorem rwith_ev (c : Int) (l : List Int) (hl : l.length ≤ 1000) : ∀ (rest : List Int) (i : Nat) (acc : List Int), l.drop i = rest → acc.length = i → Ev (fun k => fairleadref08_with.l0 k l c acc (i : Int)) (acc ++ xorL c rest)
  | [], i, acc, hd, ha => by
    have := ge_of_nil hd
    refine Ev.step (f := fun _ => some (acc ++ [])) (fun k => ?_) (Ev.now _)
    rw [fairleadref08_with.l0, if_neg (by omega), List.append_nil]
  | x :: rest, i, acc, hd, ha => by
    have hi := lt_of_cons hd
    have hv := rwith_ev c l hl rest (i + 1) (acc ++ [Go.bits .xor .u8 x c]) (drop_cons hd) (by simp [ha])
    rw [show acc ++ xorL c (x :: rest) = (acc ++ [Go.bits .xor .u8 x c]) ++ xorL c rest by simp [xorL]]
    refine Ev.step (f := fun k => fairleadref08_with.l0 k l c (acc ++ [Go.bits .xor .u8 x c]) ((i + 1 : Nat) : Int)) (fun k => ?_) hv
    rw [fairleadref08_with.l0, if_pos (by omega), if_pos (by omega), if_pos (by omega), rd_cons hd, w64 (by omega) (by omega)]
    rfl
theorem ref_with_ev (l : List Int) (c : Int) (hl : l.length ≤ 1000) : Ev (fun k => fairleadref08_with.f k l c) (xorL c l) := rwith_ev c l hl l 0 [] rfl rfl
theorem ref_Tag_ev (key text : List Int) (hb : Byt key) (hl : key.length ≤ 100000000) (ht : Byt text) (htl : text.length ≤ 100000000) : Ev (fun k => fairleadref08_Tag.f k key text) (tagL key text) := by
  have hk := keyL_len key
  have hkb := keyL_byt hb
  have h54 : Byt (xorL 54 (keyL key)) := xorL_byt (by decide) (by decide) hkb
  have h92 : Byt (xorL 92 (keyL key)) := xorL_byt (by decide) (by decide) hkb
  have l54 := xorL_len 54 (keyL key)
  have l92 := xorL_len 92 (keyL key)
  have h1 := ref_Sum_ev (xorL 54 (keyL key) ++ text) (h54.app ht) (by rw [List.length_append]; omega)
  have hs1 := shaL_len (xorL 54 (keyL key) ++ text)
  have h2 := ref_Sum_ev (xorL 92 (keyL key) ++ shaL (xorL 54 (keyL key) ++ text)) (h92.app (shaL_byt _)) (by rw [List.length_append]; omega)
  refine Ev.bind (ref_Key_ev key hb hl) (Ev.bind (ref_with_ev _ 54 (by omega)) ?_)
  simp only [eq_true (show (xorL 54 (keyL key)).length + text.length < 140737488355328 by omega), if_true]
  refine Ev.bind h1 (Ev.bind (ref_with_ev _ 92 (by omega)) ?_)
  simp only [eq_true (show (xorL 92 (keyL key)).length + (shaL (xorL 54 (keyL key) ++ text)).length < 140737488355328 by omega), if_true]
  exact Ev.bind h2 (Ev.now _)
end Go.Proofs.Ytgkaklpgccjmpaa.Ph
