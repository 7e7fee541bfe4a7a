/- Lemmas for RB; a slim copy of this session's texts (slim.py). -/
import Derived.Test.YtejheopcipgmaaaZRBQ4
import Derived.Test.YtejheopcipgmaaaZRBPnum
import Derived.Test.YtejheopcipgmaaaZRBPnumref
import Derived.Test.YtejheopcipgmaaaZRBPsame
import Derived.Test.YtejheopcipgmaaaZRBPcrc
import Derived.Test.YtejheopcipgmaaaZRBPrec
import Derived.Test.YtejheopcipgmaaaZRBPscan
namespace Go.Proofs.Ytejheopcipgmaaa.Pr
open Go.RowKit Go.Proofs.Ytejheopcipgmaaa.Q Go.Proofs.YtejheopcipgmaaaW.PrintWords Go.Proofs.YtejheopcipgmaaaW.PrintLast Go.Proofs.YtejheopcipgmaaaW.PrintMore Go.Proofs.Ytejheopcipgmaaa.Pc Go.Proofs.Ytejheopcipgmaaa.Pn
set_option linter.unusedVariables false
set_option linter.unusedSimpArgs false
theorem beGet2 {n : Nat} (h : n < 65536) (rest : List Int) : beGet 0 ((bePut (n : Int) 2 ++ rest).take 2) = (n : Int) := by
  rw [List.take_append_of_le_length (by rw [bePut_len]; omega), List.take_of_length_le (by rw [bePut_len]; omega)]
  simp only [bePut, beGet, Int.reducePow]
  omega
theorem at_frame {t : Int} {d r : List Int} (hd : d.length < 65536) (ht : 1 ≤ t ∧ t ≤ 255) : lenB (preL t d ++ r) = d.length ∧ rd (preL t d ++ r) 2 = t := by
  have e : preL t d ++ r = bePut (d.length : Int) 2 ++ ([t % 256] ++ d ++ r) := by simp [preL]
  constructor
  · unfold lenB
    rw [e, beGet2 hd]
    rfl
  · rw [e]
    simp only [bePut, rd, List.cons_append, List.nil_append]
    show t % 256 = t
    omega
theorem next_frame {salt t : Int} {d r : List Int} (hok : okRec t d = true) : nextV salt (frL salt t d ++ r) = (t, d, ((d.length + 7 : Nat) : Int), 0) := by
  unfold okRec at hok
  have ho := of_decide_eq_true hok
  have e : frL salt t d ++ r = preL t d ++ (sumB (bePut salt 8 ++ preL t d) ++ r) := by simp [frL]
  obtain ⟨h1, h2⟩ := at_frame (t := t) (d := d) (r := sumB (bePut salt 8 ++ preL t d) ++ r) (by omega) (by omega)
  have hp := preL_len t d
  have hsl := sumB_len (bePut salt 8 ++ preL t d)
  rw [e]
  unfold nextV
  rw [h1, h2]
  have hl : (preL t d ++ (sumB (bePut salt 8 ++ preL t d) ++ r)).length = 3 + d.length + (4 + r.length) := by simp [hp, hsl]
  have t1 : (preL t d ++ (sumB (bePut salt 8 ++ preL t d) ++ r)).take (3 + d.length) = preL t d := by
    rw [List.take_append_of_le_length (by omega), List.take_of_length_le (by omega)]
  have t2 : ((preL t d ++ (sumB (bePut salt 8 ++ preL t d) ++ r)).take (3 + d.length + 4)).drop (3 + d.length) = sumB (bePut salt 8 ++ preL t d) := by
    rw [List.take_add, t1, List.drop_append_of_le_length (by omega), List.drop_of_length_le (by omega), List.nil_append, List.drop_append_of_le_length (by omega), List.drop_of_length_le (by omega), List.nil_append, List.take_append_of_le_length (by omega), List.take_of_length_le (by omega)]
  have t3 : (preL t d).drop 3 = d := by
    show (bePut (d.length : Int) 2 ++ [t % 256] ++ d).drop 3 = d
    simp [bePut]
  rw [if_neg (by omega), if_neg (by omega), if_neg (by omega), t1, t2, if_pos rfl, t3]
theorem next_short {salt t : Int} {d : List Int} {c : Nat} (hok : okRec t d = true) (hc : c < d.length + 7) : (nextV salt ((frL salt t d).take c)).2.2.2 ≠ 0 := by
  unfold okRec at hok
  have ho := of_decide_eq_true hok
  have hf := frL_len salt t d
  have hl : ((frL salt t d).take c).length = c := by rw [List.length_take]; omega
  unfold nextV
  by_cases h3 : c < 3
  · rw [if_pos (by omega)]
    decide
  · have e : (frL salt t d).take c = [(d.length : Int) / 256 % 256, (d.length : Int) % 256, t % 256] ++ (d ++ sumB (bePut salt 8 ++ preL t d)).take (c - 3) := by
      have e0 : frL salt t d = [(d.length : Int) / 256 % 256, (d.length : Int) % 256, t % 256] ++ (d ++ sumB (bePut salt 8 ++ preL t d)) := by simp [frL, preL, bePut]
      rw [e0, List.take_append, List.take_of_length_le (by simp; omega)]
      rfl
    have h1 : lenB ((frL salt t d).take c) = d.length := by
      rw [e]
      unfold lenB
      simp only [List.cons_append, List.take_succ_cons, List.take_zero, beGet]
      omega
    have h2 : rd ((frL salt t d).take c) 2 = t := by
      rw [e]
      show t % 256 = t
      omega
    rw [if_neg (by omega), h1, h2, if_neg (by omega), if_pos (by omega)]
    decide
def cat (salt : Int) : List S25 → List Int
  | [] => []
  | x :: l => frL salt x.f0 x.f1 ++ cat salt l
def GoodR (x : S25) : Prop := okRec x.f0 x.f1 = true ∧ x.f1.length ≤ 300 ∧ Byt x.f1
theorem cat_app (salt : Int) : ∀ (a b : List S25), cat salt (a ++ b) = cat salt a ++ cat salt b
  | [], b => rfl
  | x :: a, b => by rw [List.cons_append, cat, cat_app salt a b, cat, List.append_assoc]
theorem cat_byt (salt : Int) : ∀ (a : List S25), (∀ x ∈ a, GoodR x) → Byt (cat salt a)
  | [], _ => Byt.nil
  | x :: a, h => (frL_byt (h x List.mem_cons_self).2.2).app (cat_byt salt a (fun y hy => h y (List.mem_cons_of_mem _ hy)))
theorem cat_len (salt : Int) : ∀ (a : List S25), (∀ x ∈ a, GoodR x) → (cat salt a).length ≤ 307 * a.length
  | [], _ => Nat.le_refl _
  | x :: a, h => by
    have h1 := cat_len salt a (fun y hy => h y (List.mem_cons_of_mem _ hy))
    have h2 := (h x List.mem_cons_self).2.1
    rw [cat, List.length_append, frL_len, List.length_cons]
    omega
theorem scan_cat (salt : Int) (b : List Int) (rest : List Int) (hr : (nextV salt rest).2.2.2 ≠ 0) : ∀ (l : List S25) (m : Nat) (acc : List S25) (i : Nat), (∀ x ∈ l, GoodR x) → b.drop i = cat salt l ++ rest → l.length < m → scanN salt b m acc i = (acc ++ l, ((i + (cat salt l).length : Nat) : Int))
  | [], m, acc, i, _, hb, hm => by
    obtain ⟨m, rfl⟩ : ∃ n, m = n + 1 := ⟨m - 1, by have : ([] : List S25).length = 0 := rfl; omega⟩
    unfold scanN
    rw [hb]
    show (if (nextV salt rest).2.2.2 = 0 then _ else _) = _
    rw [if_neg hr, List.append_nil]
    rfl
  | x :: l, m, acc, i, hg, hb, hm => by
    rw [List.length_cons] at hm
    obtain ⟨m, rfl⟩ : ∃ n, m = n + 1 := ⟨m - 1, by omega⟩
    have hx := hg x List.mem_cons_self
    have hn := next_frame (salt := salt) (r := cat salt l ++ rest) hx.1
    have hb' : b.drop i = frL salt x.f0 x.f1 ++ (cat salt l ++ rest) := by rw [hb, cat, List.append_assoc]
    have hd : b.drop (i + (x.f1.length + 7)) = cat salt l ++ rest := by
      rw [← List.drop_drop, hb', List.drop_append_of_le_length (by rw [frL_len]; omega), List.drop_of_length_le (by rw [frL_len]; omega), List.nil_append]
    unfold scanN
    rw [hb', hn]
    show (if (0 : Int) = 0 then _ else _) = _
    rw [if_pos rfl]
    show scanN salt b m (acc ++ [⟨x.f0, x.f1⟩]) (i + (((x.f1.length + 7 : Nat) : Int)).toNat) = _
    rw [Int.toNat_natCast, scan_cat salt b rest hr l m _ _ (fun y hy => hg y (List.mem_cons_of_mem _ hy)) hd (by omega)]
    rw [cat, List.length_append, frL_len, List.append_assoc]
    congr 2
    omega
theorem next_nil (salt : Int) : (nextV salt []).2.2.2 ≠ 0 := by
  unfold nextV
  rw [if_pos (by decide)]
  decide
theorem scan_all (salt : Int) (l : List S25) (rest : List Int) (hg : ∀ x ∈ l, GoodR x) (hr : (nextV salt rest).2.2.2 ≠ 0) : scanV salt (cat salt l ++ rest) = (l, (((cat salt l).length : Nat) : Int)) := by
  have hm : l.length ≤ (cat salt l).length := by
    clear hr
    induction l with
    | nil => exact Nat.le_refl _
    | cons x l ih =>
      have := ih (fun y hy => hg y (List.mem_cons_of_mem _ hy))
      rw [cat, List.length_append, frL_len, List.length_cons]
      omega
  unfold scanV
  rw [scan_cat salt _ rest hr l _ [] 0 hg rfl (by rw [List.length_append]; omega), List.nil_append, Nat.zero_add]
end Go.Proofs.Ytejheopcipgmaaa.Pr
