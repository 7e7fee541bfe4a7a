/- Lemmas for GR; a slim copy of this session's texts (slim.py). -/
import Derived.Test.YtgkaklpgccjmpaaProg
import Derived.Below
import Derived.Deep.Draws
import Derived.Deep.AppendLies
import Derived.Maps.AppendAt
import Derived.OwnWalk
import Derived.Laws.BytesArg
import Derived.Laws.MakeOwn
import Derived.Laws.OwnMore
import Derived.Deep.OwnRows
import Derived.Tactics
import Derived.Lib.ConvBytes
import Derived.Laws.Slices
import Derived.WalkKit
import Derived.KernelRfl
import Derived.RowKit3
import Derived.Deep.LoopGhost
import Derived.Deep.QuietTactic
import Derived.BigQuiet
import Derived.WideLaws
import Derived.Deep.DeepCutAuto
import Derived.Deep.CutBlock
import Derived.Deep.RegionHeld3
import Derived.Laws.Rows
import Derived.Lib.AppendStr
import Derived.ArgAppend
import Derived.Laws.IdiomCopy
import Derived.OrdersHeld
import Derived.Laws.BitsLemmas
import Derived.RowKit
import Derived.Great.Walk
import Derived.Laws.CopyOwn
import Derived.Laws.Tables
import Derived.Lib.SlBytesConst
import Derived.ChangeKeysEq
import Derived.Laws.Cover3
import Derived.Laws.ByValue
import Derived.LaidEql
import Derived.Stop.Asserts
import Derived.RowKitTokens
import Derived.Lib.IfaceEq
import Derived.Test.YtgkaklpgccjmpaaZGRWWords
import Derived.Test.YtgkaklpgccjmpaaZGRWLast
import Derived.Test.YtgkaklpgccjmpaaZGRWTab
import Derived.Test.YtgkaklpgccjmpaaZGRWApart
import Derived.Test.YtgkaklpgccjmpaaZGRWFoot
import Derived.Test.YtgkaklpgccjmpaaZGRWKept
import Derived.Test.YtgkaklpgccjmpaaZGRWShare
import Derived.Test.YtgkaklpgccjmpaaZGRWN
import Derived.Laws.StructEq
import Derived.Test.YtgkaklpgccjmpaaZGRWRepsOne
import Derived.Test.YtgkaklpgccjmpaaZGRWNEv
import Derived.Test.YtgkaklpgccjmpaaZGRWMore
namespace Go.Proofs.Ytgkaklpgccjmpaa.Q
open Go.RowKit Go.Proofs.YtgkaklpgccjmpaaW.PrintWords Go.Proofs.YtgkaklpgccjmpaaW.PrintLast Go.Proofs.YtgkaklpgccjmpaaW.PrintMore
attribute [local go_sem] max2_int min2_int max_two min_two max_three min_three max_four min_four   
set_option linter.unusedVariables false
set_option linter.unusedSimpArgs false
def errW : Option Int → Value
  | none => .nilIface
  | some c => .iface 0 (.int .i64 c)
theorem errW_none : errW none = .nilIface := rfl
theorem errW_some (c : Int) : errW (some c) = .iface 0 (.int .i64 c) := rfl
theorem info5 : (Try.prog.info? 5).map (fun i => (i.zero, i.size, i.bytes)) = some (some (.int .u8 0), 1, 1) := by kernel_rfl
theorem info22 : (Try.prog.info? 22).map (fun i => (i.zero, i.size, i.bytes)) = some (some (.slice none 0 0), 1, 24) := by kernel_rfl
def rd_L3 (xs : List (List Int)) (i : Int) : (List Int) := xs.getD i.toNat ([] : List Int)
theorem at_L3 {w : World} {A : Option Addr} {n : Nat} {xs : List (List Int)} (h : Kd.C (Kd.slice 5 (Kd.int .u8)) w A n xs) (i : Int) (h0 : 0 ≤ i) (h1 : i < n) : ∃ ad A0 c0, A = some ad ∧ w.cell? (ad.add i.toNat) = some (.slice A0 (rd_L3 xs i).length c0) ∧ (rd_L3 xs i).length ≤ c0 ∧ (Kd.int .u8).C w A0 (rd_L3 xs i).length (rd_L3 xs i) := by
  obtain ⟨ad, c, e, _, hK, hc0⟩ := Kd.C_get h ([] : List Int) i h0 h1
  have hc : ∀ j u, c[j]? = some u → w.cell? (ad.add (i.toNat * 1 + j)) = some u := hc0
  obtain ⟨A0, c0, rfl, l0, g0⟩ := hK
  exact ⟨ad, A0, c0, e, by have hq := hc 0 _ rfl; rwa [Nat.mul_one, Nat.add_zero] at hq, l0, g0⟩
theorem q_w8 (n : Int) : IntKind.u8.wrap n = n % 256 := by simp [IntKind.wrap, IntKind.bits, IntKind.signed]
theorem q_w16 (n : Int) : IntKind.u16.wrap n = n % 65536 := by simp [IntKind.wrap, IntKind.bits, IntKind.signed]
theorem q_w32 (n : Int) : IntKind.u32.wrap n = n % 4294967296 := by simp [IntKind.wrap, IntKind.bits, IntKind.signed]
theorem q_max8 : IntKind.u8.max = 255 := by kernel_rfl
theorem q_max16 : IntKind.u16.max = 65535 := by kernel_rfl
theorem q_max32 : IntKind.u32.max = 4294967295 := by kernel_rfl
theorem q_max64 : IntKind.u64.max = 18446744073709551615 := by kernel_rfl
structure SameHeap (w w' : World) : Prop where mk :: (out : w'.heap = w.heap)
theorem SameHeap.drew (w : World) : SameHeap w w.drew := ⟨rfl⟩
theorem SameHeap.drewN {w w' : World} (h : SameHeap w w') (n : Nat) : SameHeap w (w'.drewN n) := ⟨h.out⟩
theorem q_cell_later {w wx : World} {a : Addr} {v : Value} (hb : Below w.heap.size w wx) (h : w.cell? a = some v) : wx.cell? a = some v := (hb.cell (block_lt_of_cell h)).trans h
theorem q_heap_later {w wx : World} {k : Nat} {o : Obj} (hb : Below w.heap.size w wx) (h : w.heap[k]? = some o) : wx.heap[k]? = some o := (hb.block k (Array.getElem?_eq_some_iff.1 h).1).trans h
theorem q_other {W : World} {g k : Nat} {cs : Array Value} {o : Obj} (h : W.heap[k]? = some o) (hk : k ≠ g) : (W.setRow g cs).heap[k]? = some o := (setRow_other W g k cs hk).trans h
theorem q_store_whole {P : Program} {ops : Array Oper} {rest : List Oper} {o : Oper} {a : Act} {w : World} {Q : Exit → Act → World → Prop} (hgd : o.guard = none) (ty : TypeId) (x y : Operand) (ho : o.op = .store ty x y)
    (g : Nat) (cells : Array Value) (hx : a.eval x = .pointer (some ⟨g, 0, none⟩)) (hy : a.eval y = .agg cells)
    (t : TypeId) (old : Array Value) (hg : w.heap[g]? = some (.cells old t (0, 0))) (hi : (P.info? ty).map (·.size) = some cells.size)
    (hold : old.size = cells.size) (h1 : cells.all (·.oneCell') = true)
    (h : ∀ W1 : World, W1.heap[g]? = some (.cells cells t) → (∀ k o, k ≠ g → w.heap[k]? = some o → W1.heap[k]? = some o) → W1.heap.size = w.heap.size → (∀ B w0, B ≤ g → Below B w0 w → Below B w0 W1) → wpList P ops Q rest (a.put o.dst undef) W1) : wpList P ops Q (o :: rest) a w :=
  wpList_store_row hgd ty x y ho g cells hx hy t old hg hi hold h1 (h _ (setRow_heap w g old cells t _ hg) (fun k o hk hko => q_other hko hk) (by simp) (fun B w0 hB hb => below_setRow hb hB _))
theorem q_alloc {P : Program} {ops : Array Oper} {rest : List Oper} {o : Oper} {a : Act} {w : World} {Q : Exit → Act → World → Prop} (hgd : o.guard = none) (dst : Option Tmp) (hdst : o.dst = dst)
    (g : Nat) (hg : g = w.heap.size) (ob : Obj) (hrun : (execOp a.eval o).run P w = .ok (.value (.pointer (some ⟨w.heap.size, 0, none⟩))) (w.alloc ob))
    (h : wpList P ops Q rest (a.put dst (.pointer (some ⟨g, 0, none⟩))) (w.alloc ob)) : wpList P ops Q (o :: rest) a w := by
  subst hg
  exact Great.wpList_allocTo hgd dst hdst _ ob hrun h
theorem q_make {P : Program} {ops : Array Oper} {rest : List Oper} {o : Oper} {a : Act} {w : World} {Q : Exit → Act → World → Prop} (hgd : o.guard = none) (dst : Option Tmp) (hdst : o.dst = dst)
    (g n : Nat) (hg : g = w.heap.size) (ob : Obj) (hrun : (execOp a.eval o).run P w = .ok (.value (.slice (some ⟨w.heap.size, 0, none⟩) n n)) (w.alloc ob))
    (h : wpList P ops Q rest (a.put dst (.slice (some ⟨g, 0, none⟩) n n)) (w.alloc ob)) : wpList P ops Q (o :: rest) a w := by
  subst hg
  exact Great.wpList_allocTo hgd dst hdst _ ob hrun h
theorem q_copy_whole {P : Program} {w w0 : World} {B : Nat} {ops : Array Oper} {rest : List Oper} {o : Oper} {a : Act} {Q : Exit → Act → World → Prop} (hgd : o.guard = none) (d s : Operand) (dT sT : TypeId)
    (ho : o.op = .call { callee := .builtin .copy, args := #[d, s], argTypes := #[dT, sT] }) (elem : TypeId) (hu : P.underlying dT = some (.slice elem)) (hsz : (P.info? elem).map (·.size) = some 1)
    (g dLen dCap : Nat) (ad : Addr) (sLen sCap : Nat) (hd : a.eval d = .slice (some ⟨g, 0, none⟩) dLen dCap) (hs : a.eval s = .slice (some ad) sLen sCap)
    (cur : Array Value) (t : TypeId) (hg : w.heap[g]? = some (.cells cur t (0, 0))) (cs : List Value) (hn : cs.length = Nat.min sLen dLen)
    (hsrc : ∀ j v, cs[j]? = some v → w.cell? (ad.add j) = some v) (hfit : cs.length = cur.size) (h1 : ∀ v ∈ cs, v.oneCell' = true) (hb : Below B w0 w) (hB : B ≤ g)
    (h : ∀ W1 : World, W1.heap[g]? = some (.cells cs.toArray t) → Below B w0 W1 → W1.heap.size = w.heap.size → wpList P ops Q rest (a.put o.dst (goInt cs.length)) W1) : wpList P ops Q (o :: rest) a w := by
  refine wpList_copy_own hgd d s dT sT ho elem hu hsz g 0 dLen dCap ad sLen sCap hd hs cur t hg cs hn hsrc (by omega) h1 ?_
  refine h _ ?_ (below_setRow hb hB _) (by simp)
  have e : (cur.toList.take 0 ++ (cs ++ cur.toList.drop (0 + cs.length))).toArray = cs.toArray := by
    rw [List.drop_of_length_le (by rw [Array.length_toList]; omega)]; simp
  rw [e]
  exact setRow_heap w g cur _ t _ hg
theorem q_V {α : Type} {d : Kd α} {e : Nat} {w : World} {base : Nat} {A : Option Addr} {c : Nat} {l : List α} (hd : Kd.Heap d) (h : d.C w A l.length l) (hc : l.length ≤ c) : Kd.V d e w base (fun _ => True) (.slice A l.length c) l :=
  ⟨A, c, rfl, hc, fun _ hW => hd.C (fun k hk => hW k trivial hk) h⟩
theorem q_add (g n : Nat) : (⟨g, 0, none⟩ : Addr).add n = ⟨g, n, none⟩ := by unfold Addr.add; split <;> simp_all
def u8s (l : List Int) : Array Value := (l.map (Value.int .u8)).toArray
theorem q_C8 {w : World} {g : Nat} {l : List Int} {t : TypeId} {fz : Nat × Nat} (h : w.heap[g]? = some (.cells (u8s l) t fz)) (hl : l.length ≤ 9223372036854775807) : Kd.C (Kd.int .u8) w (some ⟨g, 0, none⟩) l.length l := by
  refine ⟨rfl, hl, fun _ => ⟨_, rfl, fun j p hj => ⟨[.int .u8 p], rfl, rfl, fun i u hu => ?_⟩⟩⟩
  have hi : i = 0 := by
    have := (List.getElem?_eq_some_iff.1 hu).1
    simp at this
    exact this
  subst hi
  obtain rfl : Value.int .u8 p = u := by simpa using hu
  show w.cell? ((⟨g, 0, none⟩ : Addr).add (j * 1 + 0)) = _
  rw [q_add]
  have hj' : (u8s l)[j]? = some (.int .u8 p) := by simp [u8s, hj]
  simp [World.cell?, h, hj']
theorem q_copy_into {P : Program} {w w0 : World} {B : Nat} {ops : Array Oper} {rest : List Oper} {o : Oper} {a : Act} {Q : Exit → Act → World → Prop} (hgd : o.guard = none) (d s : Operand) (dT sT : TypeId)
    (ho : o.op = .call { callee := .builtin .copy, args := #[d, s], argTypes := #[dT, sT] }) (elem : TypeId) (hu : P.underlying dT = some (.slice elem)) (hsz : (P.info? elem).map (·.size) = some 1)
    (g dLen dCap : Nat) (A : Option Addr) (sLen sCap : Nat) (hd : a.eval d = .slice (some ⟨g, 0, none⟩) dLen dCap) (hs : a.eval s = .slice A sLen sCap)
    (cur l : List Int) (t : TypeId) (hg : w.heap[g]? = some (.cells (u8s cur) t)) (hcur : cur.length = dLen) (hr : Kd.C (Kd.int .u8) w A l.length l) (hl : l.length = sLen) (hb : Below B w0 w) (hB : B ≤ g)
    (h : ∀ W1 : World, W1.heap[g]? = some (.cells (u8s (l.take dLen ++ cur.drop l.length)) t) → Below B w0 W1 → W1.heap.size = w.heap.size → wpList P ops Q rest (a.put o.dst (goInt (Nat.min sLen dLen : Nat))) W1) : wpList P ops Q (o :: rest) a w := by
  by_cases h0 : 0 < l.length
  · obtain ⟨ad, rfl, hc⟩ := (Kd.reads_of_C (d := (0 : Int)) hr).2.2 h0
    have hlt : ((l.take dLen).map (Value.int .u8)).length = Nat.min sLen dLen := by
      rw [List.length_map, List.length_take, ← hl, Nat.min_comm]
    refine wpList_copy_own hgd d s dT sT ho elem hu hsz g 0 dLen dCap ad sLen sCap hd hs (u8s cur) t hg ((l.take dLen).map (Value.int .u8)) hlt ?_ ?_ ?_ ?_
    · intro j v hj
      obtain ⟨hjl, rfl⟩ := List.getElem?_eq_some_iff.1 hj
      have hj2 : j < l.length := by simp at hjl; omega
      rw [hc j hj2]
      simp [List.getD_eq_getElem?_getD, List.getElem?_eq_getElem hj2]
    · have : (u8s cur).size = cur.length := by simp [u8s]
      rw [List.length_map, List.length_take, this]; omega
    · intro v hv
      obtain ⟨z, _, rfl⟩ := List.mem_map.1 hv
      rfl
    · rw [hlt]
      refine h _ ?_ (below_setRow hb hB _) (by simp)
      have e : ((u8s cur).toList.take 0 ++ ((l.take dLen).map (Value.int .u8) ++ (u8s cur).toList.drop (0 + Nat.min sLen dLen))).toArray = u8s (l.take dLen ++ cur.drop l.length) := by
        have e2 : cur.drop (Nat.min sLen dLen) = cur.drop l.length := by
          by_cases hle : l.length ≤ dLen
          · rw [← hl, show Nat.min l.length dLen = l.length from Nat.min_eq_left hle]
          · rw [← hl, show Nat.min l.length dLen = dLen from Nat.min_eq_right (by omega), List.drop_of_length_le (by omega), List.drop_of_length_le (by omega)]
        simp only [u8s, List.take_zero, List.nil_append, Nat.zero_add, ← List.map_drop, e2, List.map_append]
      rw [e]
      exact setRow_heap w g _ _ t _ hg
  · have hl0 : l = [] := List.eq_nil_of_length_eq_zero (by omega)
    subst hl0
    obtain rfl : sLen = 0 := by simpa using hl.symm
    have hm : Nat.min 0 dLen = 0 := Nat.min_eq_left (Nat.zero_le _)
    refine wpList_copy_nothing hgd d s dT sT ho elem hu hsz _ _ _ _ _ _ hd hs hm ?_
    have h2 := h w (by simpa using hg) hb rfl
    rw [hm] at h2
    exact h2
theorem q_R8 {w : World} {base g : Nat} {l : List Int} (h : w.heap[g]? = some (.cells (u8s l) 5)) (hb : base ≤ g) (hl : l.length ≤ maxLen) : Kd.R (Kd.int .u8) 5 w base (fun _ => True) (.slice (some ⟨g, 0, none⟩) l.length l.length) l := by
  refine ⟨fun _ _ => trivial, l.map (Value.int .u8), ⟨by simp [Kd.int, Kd.scalar], .inr ⟨g, l.length, u8s l, rfl, hb, h, Nat.le_refl _, hl, by simp [u8s, Kd.int, Kd.scalar], (by simp [u8s, Kd.int, Kd.scalar]; exact List.take_of_length_le (by simp))⟩⟩, ?_⟩
  refine ⟨by simp [Kd.int, Kd.scalar], fun j p hj => ?_⟩
  show ((l.map (Value.int .u8)).drop (j * 1)).take 1 = [Value.int .u8 p]
  rw [Nat.mul_one]
  obtain ⟨hjl, rfl⟩ := List.getElem?_eq_some_iff.1 hj
  rw [List.drop_eq_getElem_cons (by simpa using hjl)]
  simp
theorem q_one {w : World} {A0 : Option Addr} {c0 : Nat} {l0 : List Int} {t : TypeId} (h : Kd.C (Kd.int .u8) w A0 l0.length l0) (hc : l0.length ≤ c0) :
    Kd.C (Kd.slice 5 (Kd.int .u8)) (w.alloc (.cells #[.slice A0 l0.length c0] t)) (some ⟨w.heap.size, 0, none⟩) 1 [l0] := by
  refine ⟨rfl, by decide, fun _ => ⟨_, rfl, fun j p hj => ?_⟩⟩
  have hj0 : j = 0 := by
    have := (List.getElem?_eq_some_iff.1 hj).1
    simp at this
    exact this
  subst hj0
  obtain rfl : l0 = p := by simpa using hj
  refine ⟨[.slice A0 l0.length c0], rfl, ⟨A0, c0, rfl, hc, Kd.C_below h (below_alloc (Below.refl _ _) _)⟩, fun i u hu => ?_⟩
  have hi : i = 0 := by
    have := (List.getElem?_eq_some_iff.1 hu).1
    simp at this
    exact this
  subst hi
  obtain rfl : Value.slice A0 l0.length c0 = u := by simpa using hu
  show (w.alloc (.cells #[.slice A0 l0.length c0] t)).cell? ⟨w.heap.size, 0 + (0 * 1 + 0), none⟩ = _
  rw [cell_of_row _ _ _ _ _ _ (heap_alloc_new _ _)]
  rfl
theorem q_index2 (P : Program) (w : World) (t e : TypeId) (k : IntKind) (ht : P.underlying t = some (.array 2 e)) (he : P.underlying e = some (.int k)) (hs : (P.info? e).map (·.size) = some 1) (a b : Int) :
    (Instr.index t (.agg #[.int k a, .int k b]) (.int .i64 0)).run P w = .ok (.int k a) w ∧ (Instr.index t (.agg #[.int k a, .int k b]) (.int .i64 1)).run P w = .ok (.int k b) w := by
  obtain ⟨i, hi, hz⟩ : ∃ i, P.info? e = some i ∧ i.size = 1 := by
    cases h : P.info? e with
    | none => rw [h] at hs; simp at hs
    | some i => rw [h] at hs; exact ⟨i, rfl, by simpa using hs⟩
  constructor <;> simp [Instr.index, run_underlying ht, asIntOf, part, isAgg, run_underlying he, sizeOf, typeInfo, hi, hz, Sem.run_bind]
end Go.Proofs.Ytgkaklpgccjmpaa.Q
