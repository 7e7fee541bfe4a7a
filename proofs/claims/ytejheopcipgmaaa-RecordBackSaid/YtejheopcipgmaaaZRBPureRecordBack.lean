/- Lemmas for RB; a slim copy of this session's texts (slim.py). -/
import Derived.Test.YtejheopcipgmaaaZRBQ9
import Derived.Test.YtejheopcipgmaaaZRBPnum
import Derived.Test.YtejheopcipgmaaaZRBPnumref
import Derived.Test.YtejheopcipgmaaaZRBPsame
import Derived.Test.YtejheopcipgmaaaZRBPcrc
import Derived.Test.YtejheopcipgmaaaZRBPrec
import Derived.Test.YtejheopcipgmaaaZRBPscan
import Derived.Test.YtejheopcipgmaaaZRBPback
namespace Go.Proofs.Ytejheopcipgmaaa.Pure
open Go.RowKit Go.Proofs.Ytejheopcipgmaaa.Q Go.Proofs.YtejheopcipgmaaaW.PrintWords Go.Proofs.YtejheopcipgmaaaW.PrintLast Go.Proofs.YtejheopcipgmaaaW.PrintMore Go.Proofs.Ytejheopcipgmaaa.Pc Go.Proofs.Ytejheopcipgmaaa.Pn Go.Proofs.Ytejheopcipgmaaa.Pr
set_option linter.unusedVariables false
set_option linter.unusedSimpArgs false
def endsL (salt : Int) (l : List S25) (i : Nat) : List Int := (List.range (i + 1)).map fun j => (((cat salt (l.take j)).length : Nat) : Int)
theorem endsL_len (salt : Int) (l : List S25) (i : Nat) : (endsL salt l i).length = i + 1 := by simp [endsL]
theorem endsL_rd (salt : Int) (l : List S25) (i j : Nat) (h : j ≤ i) : rd (endsL salt l i) (j : Int) = (((cat salt (l.take j)).length : Nat) : Int) := by
  unfold rd endsL
  rw [Int.toNat_natCast, List.getD_eq_getElem?_getD, List.getElem?_map, List.getElem?_range (by omega)]
  rfl
theorem endsL_succ (salt : Int) (l : List S25) (i : Nat) : endsL salt l i ++ [(((cat salt (l.take (i + 1))).length : Nat) : Int)] = endsL salt l (i + 1) := by
  unfold endsL
  rw [List.range_succ (n := i + 1), List.map_append]
  rfl
theorem take_good {l : List S25} (h : ∀ x ∈ l, GoodR x) (j : Nat) : ∀ x ∈ l.take j, GoodR x := fun x hx => h x (List.mem_of_mem_take hx)
theorem cut_rest (salt : Int) (l : List S25) (hg : ∀ x ∈ l, GoodR x) (c w : Nat) (hc : c ≤ (cat salt l).length) (hw : w ≤ l.length) (h1 : (cat salt (l.take w)).length ≤ c) (h2 : w < l.length → c < (cat salt (l.take (w + 1))).length) :
    ∃ rest, (cat salt l).take c = cat salt (l.take w) ++ rest ∧ (nextV salt rest).2.2.2 ≠ 0 := by
  have hs := cat_app salt (l.take w) (l.drop w)
  rw [List.take_append_drop] at hs
  rcases Nat.lt_or_ge w l.length with hlt | hge
  · have h3 := h2 hlt
    have hd : l.drop w = l[w] :: l.drop (w + 1) := List.drop_eq_getElem_cons hlt
    have hx := hg l[w] (List.getElem_mem _)
    have ht : l.take (w + 1) = l.take w ++ [l[w]] := by rw [List.take_succ_eq_append_getElem hlt]
    rw [ht, cat_app, List.length_append] at h3
    have hone : cat salt [l[w]] = frL salt l[w].f0 l[w].f1 := by rw [cat, cat, List.append_nil]
    rw [hone] at h3
    refine ⟨(frL salt l[w].f0 l[w].f1).take (c - (cat salt (l.take w)).length), ?_, next_short hx.1 (by rw [frL_len] at h3; omega)⟩
    rw [hs, List.take_append, List.take_of_length_le h1, hd, cat, List.take_append_of_le_length (by omega)]
  · refine ⟨[], ?_, next_nil salt⟩
    have : l.take w = l := List.take_of_length_le hge
    rw [this] at h1 ⊢
    rw [List.append_nil, List.take_of_length_le h1]
theorem tail_ev (salt : Int) (l : List S25) (hg : ∀ x ∈ l, GoodR x) (hl : l.length ≤ 30) (c : Nat) (hc : c ≤ (cat salt l).length) (w : Nat) (hw : w ≤ l.length) (h1 : (cat salt (l.take w)).length ≤ c) (h2 : w < l.length → c < (cat salt (l.take (w + 1))).length) :
    Ev (fun k => if 0 ≤ (c : Int) then (if (c : Int) ≤ ((cat salt l).length : Int) then ((record_Scan.f k salt ((cat salt l).take ((c : Int) : Int).toNat)).bind fun bt => (if 0 ≤ (w : Int) then (if (w : Int) ≤ (l.length : Int) then ((fairleadref14_Same.f k bt.1 (l.take ((w : Int) : Int).toNat)).bind fun t => (if t = true then (if (w : Int) < ((endsL salt l l.length).length : Int) then (if bt.2 = (rd (endsL salt l l.length) (w : Int)) then ((fairleadlaw14_heads.f k).bind fun t3 => (some t3)) else (some false)) else (none)) else (some false))) else (none)) else (none))) else (none)) else (none)) true := by
  have hcl := cat_len salt l hg
  simp only [eq_true (show (0 : Int) ≤ (c : Int) by omega), eq_true (show (c : Int) ≤ ((cat salt l).length : Int) by omega), eq_true (show (0 : Int) ≤ (w : Int) by omega), eq_true (show (w : Int) ≤ (l.length : Int) by omega), if_true, Int.toNat_natCast, endsL_len, eq_true (show (w : Int) < ((l.length + 1 : Nat) : Int) by omega), endsL_rd salt l l.length w hw]
  refine Ev.bind (Scan_ev salt ((cat_byt salt l hg).take c) (by rw [List.length_take]; omega)) ?_
  obtain ⟨rest, hr, hn⟩ := cut_rest salt l hg c w hc hw h1 h2
  rw [hr, scan_all salt (l.take w) rest (take_good hg w) hn]
  refine Ev.bind (RSame_ev (l.take w) (by rw [List.length_take]; omega)) ?_
  simp only [if_true]
  exact Ev.bind heads_ev (Ev.now _)
theorem whole_ev (salt : Int) (l : List S25) (hg : ∀ x ∈ l, GoodR x) (hl : l.length ≤ 30) (c : Nat) (hc : c ≤ (cat salt l).length) : ∀ (m w : Nat), w + m = l.length → (cat salt (l.take w)).length ≤ c → Ev (fun k => fairleadlaw14_RecordBack.l1 k salt l (c : Int) (cat salt l) (endsL salt l l.length) (w : Int)) true
  | m, w, hm, h1 => by
    have e1 : wrap64 ((w : Int) + 1) = ((w + 1 : Nat) : Int) := by rw [w64 (by omega) (by omega)]; omega
    rcases Nat.lt_or_ge w l.length with hlt | hge
    · by_cases h2 : (cat salt (l.take (w + 1))).length ≤ c
      · obtain ⟨m, rfl⟩ : ∃ n, m = n + 1 := ⟨m - 1, by omega⟩
        refine Ev.step (fun k => by rw [fairleadlaw14_RecordBack.l1]) ?_
        simp only [e1, endsL_len, eq_true (show ((w + 1 : Nat) : Int) < ((l.length + 1 : Nat) : Int) by omega), eq_true (show (0 : Int) ≤ ((w + 1 : Nat) : Int) by omega), if_true, endsL_rd salt l l.length (w + 1) (by omega), eq_true (show (((cat salt (l.take (w + 1))).length : Nat) : Int) ≤ (c : Int) by omega)]
        exact whole_ev salt l hg hl c hc m (w + 1) (by omega) h2
      · refine Ev.step (fun k => by rw [fairleadlaw14_RecordBack.l1]) ?_
        have ht := tail_ev salt l hg hl c hc w (by omega) h1 (fun _ => by omega)
        have e2 : (rd (endsL salt l l.length) ((w + 1 : Nat) : Int) ≤ (c : Int)) = False := by rw [endsL_rd salt l l.length (w + 1) (by omega)]; exact eq_false (by omega)
        have e3 : (((w + 1 : Nat) : Int) < ((endsL salt l l.length).length : Int)) = True := by rw [endsL_len]; exact eq_true (by omega)
        simp only [e1, e2, e3, eq_true (show (0 : Int) ≤ ((w + 1 : Nat) : Int) by omega), if_true, if_false]
        exact ht
    · refine Ev.step (fun k => by rw [fairleadlaw14_RecordBack.l1]) ?_
      have ht := tail_ev salt l hg hl c hc w (by omega) h1 (fun _ => by omega)
      have e3 : (((w + 1 : Nat) : Int) < ((endsL salt l l.length).length : Int)) = False := by rw [endsL_len]; exact eq_false (by omega)
      simp only [e1, e3, if_false]
      exact ht
theorem back_ev (salt : Int) (l : List S25) (cut : Int) (hl : l.length ≤ 30) (hb : ∀ x ∈ l, Byt x.f1) : ∀ (m i : Nat), i + m = l.length → (∀ x ∈ l.take i, GoodR x) → Ev (fun k => fairleadlaw14_RecordBack.l0 k salt l cut (cat salt (l.take i)) (endsL salt l i) (i : Int)) true
  | 0, i, hm, hg => by
    have hi : l.take i = l := List.take_of_length_le (by omega)
    rw [hi] at hg ⊢
    have hil : i = l.length := by omega
    subst hil
    have hcl := cat_len salt l hg
    refine Ev.step (fun k => by rw [fairleadlaw14_RecordBack.l0]) ?_
    simp only [eq_false (show ¬ ((l.length : Nat) : Int) < (l.length : Int) by omega), if_false]
    refine Ev.bind (Scan_ev salt (cat_byt salt l hg) (by omega)) ?_
    have hs := scan_all salt l [] hg (next_nil salt)
    rw [List.append_nil] at hs
    rw [hs]
    refine Ev.bind (RSame_ev l (by omega)) ?_
    simp only [if_true]
    refine Ev.step (fun k => by rw [fairleadlaw14_RecordBack.j1]) ?_
    simp only [bne_self_eq_false, Bool.false_eq_true, if_false]
    have bad : Ev (fun k => fairleadlaw14_RecordBack.j2 k salt l cut (cat salt l) (endsL salt l l.length) true) true := by
      refine Ev.step (fun k => by rw [fairleadlaw14_RecordBack.j2]) ?_
      simp only [if_true]
      exact Ev.bind heads_ev (Ev.now _)
    by_cases h0 : cut < 0
    · simp only [if_pos h0]
      exact bad
    · simp only [if_neg h0]
      by_cases h1 : cut > ((cat salt l).length : Int)
      · simp only [decide_eq_true h1]
        exact bad
      · simp only [decide_eq_false h1]
        obtain ⟨c, rfl⟩ := Int.eq_ofNat_of_zero_le (show 0 ≤ cut by omega)
        refine Ev.step (fun k => by rw [fairleadlaw14_RecordBack.j2]) ?_
        simp only [Bool.false_eq_true, if_false]
        exact whole_ev salt l hg hl c (by omega) l.length 0 (by omega) (by rw [List.take_zero]; exact Nat.zero_le _)
  | m + 1, i, hm, hg => by
    have hlt : i < l.length := by omega
    have hrd : rd_T25 l (i : Int) = l[i] := by simp only [rd_T25, Int.toNat_natCast, List.getD_eq_getElem?_getD, List.getElem?_eq_getElem hlt, Option.getD_some]
    have hx := hb l[i] (List.getElem_mem _)
    have hcl := cat_len salt (l.take i) hg
    have hti : (l.take i).length = i := by rw [List.length_take]; omega
    refine Ev.step (fun k => by rw [fairleadlaw14_RecordBack.l0]) ?_
    simp only [eq_true (show (i : Int) < (l.length : Int) by omega), eq_true (show (0 : Int) ≤ (i : Int) by omega), if_true, hrd]
    refine Ev.bind (Frame_ev salt l[i].f0 hx) ?_
    unfold frameV
    by_cases hok : okRec l[i].f0 l[i].f1 = true
    · simp only [if_pos hok, if_true]
      by_cases h3 : (l[i].f1.length : Int) > 300
      · simp only [if_pos h3]
        exact Ev.bind heads_ev (Ev.now _)
      · have hgood : GoodR l[i] := ⟨hok, by omega, hx⟩
        have ht : l.take (i + 1) = l.take i ++ [l[i]] := by rw [List.take_succ_eq_append_getElem hlt]
        have hc : cat salt (l.take i) ++ frL salt l[i].f0 l[i].f1 = cat salt (l.take (i + 1)) := by rw [ht, cat_app, cat, cat, List.append_nil]
        have e1 : wrap64 ((i : Int) + 1) = ((i + 1 : Nat) : Int) := by rw [w64 (by omega) (by omega)]; omega
        simp only [if_neg h3, frL_len, eq_true (show (cat salt (l.take i)).length + (l[i].f1.length + 7) < 140737488355328 by omega), if_true, Option.bind_some, endsL_len, eq_true (show i + 1 < 17592186044416 by omega), hc, e1, endsL_succ]
        exact back_ev salt l cut hl hb m (i + 1) (by omega) (by
          intro x hm'
          rw [ht] at hm'
          rcases List.mem_append.1 hm' with h | h
          · exact hg x h
          · rw [List.mem_singleton.1 h]; exact hgood)
    · simp only [if_neg hok, eq_false (show ¬ ((140 : Int) = 0) by decide), if_false]
      exact Ev.bind heads_ev (Ev.now _)
theorem RecordBack (salt : Int) (l : List S25) (cut : Int) (hb : ∀ x ∈ l, Byt x.f1) : ∃ k, fairleadlaw14_RecordBack.f k salt l cut = some true := by
  refine Ev.rounds ?_
  unfold fairleadlaw14_RecordBack.f
  by_cases hs : (l.length : Int) > 30
  · simp only [if_pos hs]
    exact Ev.bind heads_ev (Ev.now _)
  · simp only [if_neg hs]
    exact back_ev salt l cut (by omega) hb l.length 0 (by omega) (fun x hx => by rw [List.take_zero] at hx; cases hx)
end Go.Proofs.Ytejheopcipgmaaa.Pure
