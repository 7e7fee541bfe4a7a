/- Lemmas for RT; a slim copy of this session's texts (slim.py). -/
import Derived.Test.YtejheopcipgmaaaZRTWWords
import Derived.Deep.Slices
import Derived.ChangeArms
import Derived.SizedLaws
import Derived.ProofKit
namespace Go.Proofs.Ytejheopcipgmaaa.Opn
open Go.RowKit Go.Proofs.YtejheopcipgmaaaW.PrintWords
set_option linter.unusedVariables false
structure Opn (P : Program) {α : Type} (d : Kd α) (t : TypeId) (G : α → Prop) : Prop where
  out : ∀ {H : Type} {enc : TypeId × Value → H} {w : World} {base : Nat} {spare : Nat → Bool} {held : Bool} {fuel : Nat} {cs : List Value} {x : DataW H × List MemPlace}, DataW.trod enc P w base spare held fuel t cs = some x → ∃ v, d.K w v cs ∧ G v
theorem opn_int {P : Program} {k : IntKind} {t : TypeId} (ht : P.underlying t = some (.int k)) : Opn P (Kd.int k) t (fun n => (Lit.int k n).wf = true) := ⟨fun hx => by
  obtain ⟨n, rfl, _, hw⟩ := DataW.trod_int ht hx
  exact ⟨n, rfl, hw⟩⟩
theorem opn_choose {α : Type} (n : Nat) (R : Nat → α → Prop) (h : ∀ i, i < n → ∃ v, R i v) : ∃ l : List α, l.length = n ∧ ∀ i v, l[i]? = some v → R i v := by
  induction n with
  | zero => exact ⟨[], rfl, fun i v hv => by simp at hv⟩
  | succ n ih =>
    obtain ⟨l, hl, hr⟩ := ih (fun i hi => h i (by omega))
    obtain ⟨v, hv⟩ := h n (by omega)
    refine ⟨l ++ [v], by simp [hl], fun i u hu => ?_⟩
    rcases Nat.lt_or_ge i l.length with hi | hi
    · rw [List.getElem?_append_left hi] at hu
      exact hr i u hu
    · have h1 := (List.getElem?_eq_some_iff.1 hu).1
      rw [List.length_append, List.length_singleton] at h1
      obtain rfl : i = l.length := by omega
      have : v = u := by simpa using hu
      rw [← this, hl]
      exact hv
theorem opn_slice {P : Program} {α : Type} {d : Kd α} {t e : TypeId} {G : α → Prop} (ht : P.underlying t = some (.slice e)) (hc : P.cellsOf e = d.sz) (h : Opn P d e G) : Opn P (Kd.slice e d) t (fun l => l.length ≤ maxLen ∧ ∀ v ∈ l, G v) := ⟨fun {H enc w base spare held fuel cs x} hx => by
  rcases DataW.trod_slice ht hx with ⟨rfl, _⟩ | ⟨a, len, cap, elems, rest, n, _, rfl, _, _, hl, hm, hel, hat, _⟩
  · exact ⟨[], ⟨none, 0, rfl, Nat.le_refl _, Kd.C_nil _ _⟩, by simp [maxLen], fun v hv => by cases hv⟩
  · have h1 : ∀ i, i < len → ∃ v, (∃ c, c.length = d.sz ∧ d.K w v c ∧ (∀ j u, c[j]? = some u → w.cell? (a.add (i * d.sz + j)) = some u)) ∧ G v := by
      intro i hi
      have h2 := hat i hi
      rw [List.getElem?_eq_getElem (by omega)] at h2
      obtain ⟨c, hcs, hc2⟩ := Option.bind_eq_some_iff.1 h2
      obtain ⟨_, hcl, hcat⟩ := World.cells?_some hcs
      obtain ⟨v, hv, hG⟩ := h.out hc2
      refine ⟨v, ⟨c, by rw [hcl, hc], hv, fun j u hu => ?_⟩, hG⟩
      have hj : j < P.cellsOf e := by have := (List.getElem?_eq_some_iff.1 hu).1; omega
      have h3 := hcat j hj
      rw [Go.Deep.add_add, hu, hc] at h3
      exact h3
    obtain ⟨l, hll, hlr⟩ := opn_choose len _ h1
    refine ⟨l, ⟨some a, cap, by rw [hll], by omega, ⟨rfl, by simp only [maxLen] at hm; omega, fun _ => ⟨a, rfl, fun j p hj => (hlr j p hj).1⟩⟩⟩, by omega, fun v hv => ?_⟩
    obtain ⟨i, hi⟩ := List.getElem?_of_mem hv
    exact (hlr i v hi).2⟩
structure OpnAt (P : Program) {α : Type} (d : Kd α) (fs : List Field) (off : Nat) (G : α → Prop) : Prop where
  out : ∀ {H : Type} {enc : TypeId × Value → H} {w : World} {base : Nat} {spare : Nat → Bool} {held : Bool} {fuel : Nat} {cs : List Value}, (∀ f ∈ fs, ∃ y, DataW.trod enc P w base spare held fuel f.type ((cs.drop f.offset).take (P.cellsOf f.type)) = some y) → ∃ v, d.K w v ((cs.drop off).take d.sz) ∧ G v
theorem opnAt_one {P : Program} {α : Type} {d : Kd α} {f : Field} {off : Nat} {G : α → Prop} (h : Opn P d f.type G) (hc : P.cellsOf f.type = d.sz) (ho : f.offset = off) : OpnAt P d [f] off G := ⟨fun hx => by
  obtain ⟨y, hy⟩ := hx f (List.mem_singleton.2 rfl)
  rw [hc, ho] at hy
  exact h.out hy⟩
theorem opnAt_pair {P : Program} {α β : Type} {d : Kd α} {d' : Kd β} {f : Field} {fs : List Field} {off off' : Nat} {G : α → Prop} {G' : β → Prop} (h : Opn P d f.type G) (hc : P.cellsOf f.type = d.sz) (ho : f.offset = off) (h' : OpnAt P d' fs off' G') (ho' : off' = off + d.sz) : OpnAt P (Kd.pair d d') (f :: fs) off (fun v => G v.1 ∧ G' v.2) := ⟨fun {H enc w base spare held fuel cs} hx => by
  obtain ⟨v, hv, hG⟩ := (opnAt_one h hc ho).out (cs := cs) (fun g hg => hx g (by rw [List.mem_singleton.1 hg]; exact List.mem_cons_self))
  obtain ⟨v', hv', hG'⟩ := h'.out (cs := cs) (fun g hg => hx g (List.mem_cons_of_mem _ hg))
  subst ho'
  refine ⟨(v, v'), ⟨_, _, ?_, hv, hv'⟩, hG, hG'⟩
  show List.take (d.sz + d'.sz) (cs.drop off) = _
  rw [List.take_add, List.drop_drop]⟩
theorem opn_struct {P : Program} {α : Type} {d : Kd α} {t : TypeId} {fs : Array Field} {G : α → Prop} (ht : P.underlying t = some (.struct fs)) (hc : P.cellsOf t = d.sz) (h : OpnAt P d fs.toList 0 G) : Opn P d t G := ⟨fun {H enc w base spare held fuel cs x} hx => by
  obtain ⟨xs, n, _, _, hlen, hxl, hat⟩ := DataW.trod_struct ht hx
  obtain ⟨v, hv, hG⟩ := h.out (cs := cs) (fun f hf => by
    obtain ⟨i, hi⟩ := List.getElem?_of_mem hf
    have hi' : fs[i]? = some f := by simpa using hi
    have h1 := hat i f hi'
    have hil : i < xs.length := by rw [hxl]; exact (Array.getElem?_eq_some_iff.1 hi').1
    rw [List.getElem?_eq_getElem hil] at h1
    exact ⟨_, h1⟩)
  refine ⟨v, ?_, hG⟩
  rw [List.drop_zero, List.take_of_length_le (by omega)] at hv
  exact hv⟩
theorem opn_iso {P : Program} {α β : Type} {d : Kd α} {t : TypeId} {G : α → Prop} (h : Opn P d t G) (f : β → α) (g : α → β) (hfg : ∀ x, f (g x) = x) : Opn P (Kd.iso d f) t (fun v => G (f v)) := ⟨fun hx => by
  obtain ⟨v, hv, hG⟩ := h.out hx
  exact ⟨g v, by show d.K _ (f (g v)) _; rw [hfg]; exact hv, by rw [hfg]; exact hG⟩⟩
end Go.Proofs.Ytejheopcipgmaaa.Opn
