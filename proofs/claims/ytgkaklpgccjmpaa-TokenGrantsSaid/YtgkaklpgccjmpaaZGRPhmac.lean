/- Lemmas for GR; a slim copy of this session's texts (slim.py). -/
import Derived.Test.YtgkaklpgccjmpaaZGRQ4
import Derived.Test.YtgkaklpgccjmpaaZGRPnum
import Derived.Test.YtgkaklpgccjmpaaZGRPsum
import Derived.Laws.BitsAllLaws
namespace Go.Proofs.Ytgkaklpgccjmpaa.Ph
open Go.RowKit Go.Proofs.Ytgkaklpgccjmpaa.Q Go.Proofs.YtgkaklpgccjmpaaW.PrintWords Go.Proofs.YtgkaklpgccjmpaaW.PrintLast Go.Proofs.YtgkaklpgccjmpaaW.PrintMore Go.Proofs.Ytgkaklpgccjmpaa.Pn
set_option linter.unusedVariables false
set_option linter.unusedSimpArgs false
theorem xor_byt {x c : Int} (h0 : 0 ≤ x) (h1 : x < 256) (h2 : 0 ≤ c) (h3 : c < 256) : 0 ≤ Go.bits .xor .u8 x c ∧ Go.bits .xor .u8 x c < 256 := by
  rw [Go.u8_xor x c h0 h1 h2 h3]
  have := Nat.xor_lt_two_pow (n := 8) (x := x.toNat) (y := c.toNat) (by omega) (by omega)
  omega
def xorL (c : Int) (l : List Int) : List Int := l.map fun x => Go.bits .xor .u8 x c
theorem xorL_len (c : Int) (l : List Int) : (xorL c l).length = l.length := by simp [xorL]
theorem xorL_byt {c : Int} {l : List Int} (h2 : 0 ≤ c) (h3 : c < 256) (h : Byt l) : Byt (xorL c l) := by
  intro x hx
  obtain ⟨y, hy, rfl⟩ := List.mem_map.1 hx
  exact xor_byt (h y hy).1 (h y hy).2 h2 h3
theorem fill_len (l : List Int) : (hmac_fill l).length = 64 := by simp [hmac_fill]; omega
theorem rep0_byt (n : Nat) : Byt (List.replicate n 0) := by
  intro x hx
  obtain ⟨_, rfl⟩ := List.mem_replicate.1 hx
  omega
theorem fill_byt {l : List Int} (h : Byt l) : Byt (hmac_fill l) := (h.take 64).app (rep0_byt _)
def keyL (key : List Int) : List Int := if 64 < key.length then hmac_fill (shaL key) else hmac_fill key
theorem keyL_len (key : List Int) : (keyL key).length = 64 := by unfold keyL; split <;> exact fill_len _
theorem keyL_byt {key : List Int} (h : Byt key) : Byt (keyL key) := by
  unfold keyL
  split
  · exact fill_byt (shaL_byt _)
  · exact fill_byt h
def tagL (key text : List Int) : List Int := shaL (xorL 92 (keyL key) ++ shaL (xorL 54 (keyL key) ++ text))
theorem tagL_len (key text : List Int) : (tagL key text).length = 32 := shaL_len _
theorem tagL_byt (key text : List Int) : Byt (tagL key text) := shaL_byt _
theorem hmac_Key_ev (key : List Int) (hb : Byt key) (hl : key.length ≤ 140737488355000) : Ev (fun k => hmac_Key.f k key) (keyL key) := by
  by_cases h : 64 < key.length
  · have hs := sha_Sum_ev [key] (by simp) (by intro p hp; simp at hp; subst hp; exact hb) (by simp; omega)
    rw [show [key].flatten = key by simp] at hs
    refine Ev.congr (f := fun k => (sha_Sum.f k [key]).bind fun t => some (hmac_fill t)) (fun k => by rw [hmac_Key.f, if_pos h]) (Ev.bind hs ?_)
    rw [keyL, if_pos h]
    exact Ev.now _
  · refine Ev.congr (f := fun k => some (hmac_fill key)) (fun k => by rw [hmac_Key.f, if_neg h]) ?_
    rw [keyL, if_neg h]
    exact Ev.now _
theorem with_ev (c : Int) : ∀ (rest acc : List Int) (n : Int), n = ((acc.length + rest.length : Nat) : Int) → acc.length + rest.length ≤ 1000 → Ev (fun k => hmac_with.l0 k c (acc ++ rest) n (acc.length : Int)) (acc ++ xorL c rest)
  | [], acc, n, hn, _ => by
    refine Ev.step (f := fun _ => some (acc ++ [])) (fun k => ?_) (Ev.now _)
    rw [hmac_with.l0, if_neg (by simp at hn; omega)]
  | x :: rest, acc, n, hn, h => by
    have h' : acc.length + (rest.length + 1) ≤ 1000 := h
    have hv := with_ev c rest (acc ++ [Go.bits .xor .u8 x c]) n (by simp only [List.length_append, List.length_cons, List.length_nil] at hn ⊢; omega) (by simp only [List.length_append, List.length_cons, List.length_nil]; omega)
    rw [show acc ++ xorL c (x :: rest) = (acc ++ [Go.bits .xor .u8 x c]) ++ xorL c rest by simp [xorL]]
    refine Ev.step (f := fun k => hmac_with.l0 k c ((acc ++ [Go.bits .xor .u8 x c]) ++ rest) n (((acc ++ [Go.bits .xor .u8 x c]).length : Nat) : Int)) (fun k => ?_) hv
    rw [hmac_with.l0, if_pos (by simp only [List.length_cons] at hn; omega), if_pos (by omega), if_pos (by simp only [List.length_append, List.length_cons]; omega)]
    rw [rd_cons (l := acc ++ x :: rest) (i := acc.length) (c := x) (rest := rest) (by simp), w64 (by omega) (by omega)]
    rw [show ((acc.length : Nat) : Int).toNat = acc.length by omega]
    rw [show (acc ++ x :: rest).set acc.length (Go.bits .xor .u8 x c) = acc ++ [Go.bits .xor .u8 x c] ++ rest by simp]
    rw [show ((acc.length : Nat) : Int) + 1 = (((acc ++ [Go.bits .xor .u8 x c]).length : Nat) : Int) by simp]
theorem hmac_with_ev (key : List Int) (c : Int) (hb : Byt key) (hl : key.length ≤ 140737488355000) : Ev (fun k => hmac_with.f k key c) (xorL c (keyL key)) := by
  refine Ev.bind (hmac_Key_ev key hb hl) ?_
  have := with_ev c (keyL key) [] ((keyL key).length : Int) (by simp) (by rw [keyL_len]; simp)
  exact this
theorem hmac_Tag_ev (key : List Int) (parts : List (List Int)) (hb : Byt key) (hl : key.length ≤ 140737488355000) (hp : parts.length ≤ 900) (hpb : ∀ p ∈ parts, Byt p) (hpl : parts.flatten.length ≤ 100000000) : Ev (fun k => hmac_Tag.f k key parts) (tagL key parts.flatten) := by
  have hk := keyL_len key
  have hkb := keyL_byt hb
  have h1 := sha_Sum_ev (xorL 54 (keyL key) :: parts) (by simp; omega) (by
    intro p hp'
    rcases List.mem_cons.1 hp' with rfl | h
    · exact xorL_byt (by decide) (by decide) hkb
    · exact hpb p h) (by rw [List.flatten_cons, List.length_append, xorL_len, hk]; omega)
  rw [List.flatten_cons] at h1
  have h2 := sha_Sum_ev [xorL 92 (keyL key), shaL (xorL 54 (keyL key) ++ parts.flatten)] (by simp) (by
    intro p hp'
    simp at hp'
    rcases hp' with rfl | rfl
    · exact xorL_byt (by decide) (by decide) hkb
    · exact shaL_byt _) (by simp [xorL_len, hk, shaL_len])
  rw [show [xorL 92 (keyL key), shaL (xorL 54 (keyL key) ++ parts.flatten)].flatten = xorL 92 (keyL key) ++ shaL (xorL 54 (keyL key) ++ parts.flatten) by simp] at h2
  refine Ev.bind (hmac_with_ev key 54 hb hl) ?_
  refine Ev.congr (f := fun k => (sha_Sum.f k (xorL 54 (keyL key) :: parts)).bind fun t => (hmac_with.f k key 92).bind fun u => (sha_Sum.f k [u, t]).bind fun v => some v) (fun k => ?_) (Ev.bind h1 (Ev.bind (hmac_with_ev key 92 hb hl) (Ev.bind h2 (Ev.now _))))
  simp only [Option.bind_some, List.length_cons, List.length_nil, List.cons_append, List.nil_append]
  rw [if_pos (by omega)]
theorem hmac_Tag1_ev (key text : List Int) (hb : Byt key) (hl : key.length ≤ 140737488355000) (ht : Byt text) (htl : text.length ≤ 100000000) : Ev (fun k => hmac_Tag.f k key [text]) (tagL key text) := by
  have := hmac_Tag_ev key [text] hb hl (by simp) (by intro p hp; simp at hp; subst hp; exact ht) (by simpa using htl)
  rwa [show [text].flatten = text by simp] at this
end Go.Proofs.Ytgkaklpgccjmpaa.Ph
