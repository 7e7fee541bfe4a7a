/- Lemmas for GR; a slim copy of this session's texts (slim.py). -/
import Derived.Test.YtgkaklpgccjmpaaZGRQ1
import Derived.Test.YtgkaklpgccjmpaaZGRQ14
import Derived.Test.YtgkaklpgccjmpaaZGRQ3
import Derived.Test.YtgkaklpgccjmpaaZGRQ4
import Derived.Test.YtgkaklpgccjmpaaZGRPnum
namespace Go.Proofs.Ytgkaklpgccjmpaa.Pn
open Go.RowKit Go.Proofs.Ytgkaklpgccjmpaa.Q Go.Proofs.YtgkaklpgccjmpaaW.PrintWords Go.Proofs.YtgkaklpgccjmpaaW.PrintLast Go.Proofs.YtgkaklpgccjmpaaW.PrintMore
set_option linter.unusedVariables false
set_option linter.unusedSimpArgs false
theorem sha_block_len (s b : List Int) : (sha_block s b).length = 8 := sha_outTo_len _ _ _
theorem u8_byt {l : List Int} (h : ∀ x ∈ l, (Lit.int .u8 x).wf = true) : Byt l := Byt.of_wf h
def sumM : Nat → List Int → List Int → List Int
  | 0, s, _ => s
  | m + 1, s, l => sumM m (sha_block s (l.take 64)) (l.drop 64)
theorem sumM_len : ∀ (m : Nat) (s l : List Int), s.length = 8 → (sumM m s l).length = 8
  | 0, s, l, h => h
  | m + 1, s, l, h => sumM_len m _ _ (sha_block_len _ _)
def shaFirst : List Int := [1779033703, 3144134277, 1013904242, 2773480762, 1359893119, 2600822924, 528734635, 1541459225]
def outW : List Int → List Int
  | [] => []
  | x :: l => bePut x 4 ++ outW l
theorem outW_len : ∀ l : List Int, (outW l).length = 4 * l.length
  | [] => rfl
  | x :: l => by rw [outW, List.length_append, bePut_len, outW_len l, List.length_cons]; omega
theorem outW_byt : ∀ l : List Int, Byt (outW l)
  | [] => Byt.nil
  | x :: l => Byt.app (bePut_byt _ _) (outW_byt l)
def shaL (t : List Int) : List Int := outW (sumM ((t.length + (padL t.length).length) / 64) shaFirst (t ++ padL t.length))
theorem shaL_len (t : List Int) : (shaL t).length = 32 := by
  unfold shaL
  rw [outW_len, sumM_len _ _ _ rfl]
theorem shaL_byt (t : List Int) : Byt (shaL t) := outW_byt _
def W32 (l : List Int) : Prop := ∀ x ∈ l, 0 ≤ x ∧ x < 4294967296
theorem W32.set {l : List Int} (h : W32 l) (i : Nat) {v : Int} (hv : 0 ≤ v ∧ v < 4294967296) : W32 (l.set i v) := fun x hx => (List.mem_or_eq_of_mem_set hx).elim (h x) (fun e => e ▸ hv)
theorem sha_block_w32 (s b : List Int) : W32 (sha_block s b) := by
  have key : ∀ (st r : List Int) (j : Nat), W32 (sha_outTo st r j) := by
    intro st r j
    induction j with
    | zero => intro x hx; have := (List.mem_replicate.1 hx).2; omega
    | succ j ih => exact ih.set _ (by omega)
  exact key _ _ _
theorem shaFirst_w32 : W32 shaFirst := by
  intro x hx
  simp only [shaFirst, List.mem_cons, List.not_mem_nil, or_false] at hx
  rcases hx with rfl | rfl | rfl | rfl | rfl | rfl | rfl | rfl <;> decide
theorem mem_rd {l : List Int} {i : Nat} {c : Int} {rest : List Int} (h : l.drop i = c :: rest) : c ∈ l := List.mem_of_mem_drop (l := l) (i := i) (by rw [h]; exact List.mem_cons_self)
theorem sum2_ev (w : List Int) (hw : W32 w) (h8 : w.length = 8) : ∀ (rest : List Int) (i : Nat) (acc : List Int), w.drop i = rest → acc.length + 4 * rest.length ≤ 1000 → Ev (fun k => sha_Sum.l2 k acc w (w.length : Int) (i : Int)) (acc ++ outW rest)
  | [], i, acc, h, _ => by
    have := ge_of_nil h
    refine Ev.step (f := fun _ => some (acc ++ outW [])) (fun k => ?_) (Ev.now _)
    rw [sha_Sum.l2, if_neg (by omega)]
    simp [outW]
  | c :: rest, i, acc, h, ha => by
    have hlt := lt_of_cons h
    have hc := hw c (mem_rd h)
    rw [List.length_cons] at ha
    have hv := sum2_ev w hw h8 rest (i + 1) (acc ++ bePut c 4) (drop_cons h) (by rw [List.length_append, bePut_len]; omega)
    have hp := num_Put_ev c 4 (by decide) (by decide)
    refine Ev.step (f := fun k => (num_Put.f k c ((4 : Nat) : Int)).bind fun t => if acc.length + t.length < 140737488355328 then sha_Sum.l2 k (acc ++ t) w (w.length : Int) ((i + 1 : Nat) : Int) else none) (fun k => ?_) (Ev.bind hp ?_)
    · rw [sha_Sum.l2, if_pos (by omega), if_pos (by omega), if_pos (by omega), rd_cons h, wu64_id (by omega) (by omega), w64 (by omega) (by omega)]
      rfl
    · simp only [bePut_len, eq_true (show acc.length + 4 < 140737488355328 by omega), if_true]
      rw [show acc ++ outW (c :: rest) = acc ++ bePut c 4 ++ outW rest from by rw [outW, List.append_assoc]]
      exact hv
theorem sum1_ev : ∀ (m : Nat) (l s : List Int), l.length = 64 * m → s.length = 8 → W32 s → Byt l → Ev (fun k => sha_Sum.l1 k l s) (outW (sumM m s l))
  | 0, l, s, h, h8, hs, _ => by
    have hv := sum2_ev s hs h8 s 0 [] rfl (by simp; omega)
    rw [List.nil_append] at hv
    refine Ev.step (fun k => ?_) hv
    rw [sha_Sum.l1, if_neg (by omega)]
    rfl
  | m + 1, l, s, h, h8, hs, hb => by
    have hv := sum1_ev m (l.drop 64) (sha_block s (l.take 64)) (by rw [List.length_drop]; omega) (sha_block_len _ _) (sha_block_w32 _ _) (hb.drop _)
    refine Ev.step (fun k => ?_) hv
    rw [sha_Sum.l1, if_pos (by omega), if_pos (by omega)]
    have e : sha_Block.f s (l.take 64) = some (sha_block s (l.take 64)) := by
      unfold sha_Block.f
      rw [if_pos ⟨h8, by rw [List.length_take]; omega⟩]
    rw [e]
    rfl
theorem rdL_cons {l : List (List Int)} {i : Nat} {c : List Int} {rest : List (List Int)} (h : l.drop i = c :: rest) : l.getD i [] = c ∧ i < l.length ∧ l.drop (i + 1) = rest := by
  have hlt : i < l.length := by
    by_cases hlt : i < l.length
    · exact hlt
    · rw [List.drop_of_length_le (by omega)] at h; cases h
  rw [List.drop_eq_getElem_cons hlt] at h
  injection h with h1 h2
  exact ⟨by simp [hlt, h1], hlt, h2⟩
theorem sum0_ev (parts : List (List Int)) (hp : parts.length ≤ 1000) : ∀ (rest : List (List Int)) (i : Nat) (acc : List Int), parts.drop i = rest → Byt acc → (∀ p ∈ rest, Byt p) → acc.length + rest.flatten.length ≤ 140737488355000 → Ev (fun k => sha_Sum.l0 k acc parts (parts.length : Int) (i : Int)) (shaL (acc ++ rest.flatten))
  | [], i, acc, h, hb, _, ha => by
    have hge : parts.length ≤ i := by
      by_cases hlt : i < parts.length
      · rw [List.drop_eq_getElem_cons hlt] at h; cases h
      · omega
    simp only [List.flatten_nil, List.append_nil, List.length_nil, Nat.add_zero] at ha ⊢
    have hw := pad_whole acc.length
    have h1 := sum1_ev ((acc.length + (padL acc.length).length) / 64) (acc ++ padL acc.length) shaFirst (by rw [List.length_append]; omega) rfl shaFirst_w32 (hb.app (padL_byt _))
    have hz : padZ acc.length < 64 := by unfold padZ; omega
    have hpl := padL_len acc.length
    refine Ev.step (f := fun k => (sha_Pad.f k (acc.length : Int)).bind fun t => if acc.length + t.length < 140737488355328 then (sha_first.f).bind fun u => sha_Sum.l1 k (acc ++ t) u else none) (fun k => ?_) (Ev.bind (sha_Pad_ev acc.length (by omega)) ?_)
    · rw [sha_Sum.l0, if_neg (by omega)]
    · have e : sha_first.f = some shaFirst := rfl
      simp only [eq_true (show acc.length + (padL acc.length).length < 140737488355328 by omega), if_true, e, Option.bind_some]
      exact h1
  | c :: rest, i, acc, h, hb, hr, ha => by
    obtain ⟨hg, hlt, hd⟩ := rdL_cons h
    have hcb := hr c List.mem_cons_self
    rw [List.flatten_cons, List.length_append] at ha
    have hv := sum0_ev parts hp rest (i + 1) (acc ++ c) hd (hb.app hcb) (fun p hp => hr p (List.mem_cons_of_mem _ hp)) (by rw [List.length_append]; omega)
    rw [List.append_assoc, ← List.flatten_cons] at hv
    refine Ev.step (fun k => ?_) hv
    have hrd : rd_L3 parts (i : Int) = c := by simp only [rd_L3, Int.toNat_natCast]; exact hg
    rw [sha_Sum.l0, if_pos (by omega), if_pos (by omega), if_pos (by omega), hrd, if_pos (by omega), w64 (by omega) (by omega)]
    rfl
theorem sha_Sum_ev (parts : List (List Int)) (hp : parts.length ≤ 1000) (hb : ∀ p ∈ parts, Byt p) (hl : parts.flatten.length ≤ 140737488355000) : Ev (fun k => sha_Sum.f k parts) (shaL parts.flatten) := sum0_ev parts hp parts 0 [] rfl Byt.nil hb (by simpa using hl)
end Go.Proofs.Ytgkaklpgccjmpaa.Pn
