/- Lemmas for GR; a slim copy of this session's texts (slim.py). -/
import Derived.Test.YtgkaklpgccjmpaaZGRQ0
import Derived.Test.YtgkaklpgccjmpaaZGRQ4
import Derived.Test.YtgkaklpgccjmpaaZGRQ5
import Derived.Test.YtgkaklpgccjmpaaZGRQ6
namespace Go.Proofs.Ytgkaklpgccjmpaa.Q
open Go.RowKit Go.Proofs.YtgkaklpgccjmpaaW.PrintWords Go.Proofs.YtgkaklpgccjmpaaW.PrintLast Go.Proofs.YtgkaklpgccjmpaaW.PrintMore
attribute [local go_sem] max2_int min2_int max_two min_two max_three min_three max_four min_four   
set_option linter.unusedVariables false
set_option linter.unusedSimpArgs false
theorem v_part (P : Program) (w : World) (e : TypeId) (hu : P.underlying e = some (.int .u8)) (xs : List Int) (i : Nat) (hi : i < xs.length) : (part e (u8s xs) i).run P w = .ok (.int .u8 (xs.getD i 0)) w := by
  have hc : (u8s xs)[i]? = some (.int .u8 (xs.getD i 0)) := by simp [u8s, List.getElem?_eq_getElem hi]
  have ha : (isAgg e).run P w = .ok false w := by
    unfold isAgg
    rw [Sem.run_bind, run_underlying hu w]
    rfl
  simp [part, Sem.run_bind, ha, hc]
theorem v_items (P : Program) (w : World) (e : TypeId) (d : Nat) (hu : P.underlying e = some (.int .u8)) (xs ys : List Int) : ∀ (is : List Nat), (∀ i ∈ is, i < xs.length ∧ i < ys.length) →
    (Op.eqItems (d + 1) e 1 (u8s xs) (u8s ys) is).run P w = .ok (is.all fun i => xs.getD i 0 == ys.getD i 0) w
  | [], _ => rfl
  | i :: is, h => by
    have hi := h i List.mem_cons_self
    have ih := v_items P w e d hu xs ys is (fun j hj => h j (List.mem_cons_of_mem _ hj))
    simp only [Op.eqItems, Nat.mul_one, Sem.run_bind, v_part P w e hu xs i hi.1, v_part P w e hu ys i hi.2, Result.andThen_ok, run_equalIn_int _ d e .u8 .u8 _ _ hu, List.all_cons]
    cases hab : (xs.getD i 0 == ys.getD i 0)
    · rfl
    · simpa using ih
theorem v_all (xs ys : List Int) (hx : xs.length = 32) (hy : ys.length = 32) : ((List.range 32).all fun i => xs.getD i 0 == ys.getD i 0) = decide (xs = ys) := by
  by_cases h : xs = ys
  · subst h
    simp
  · rw [decide_eq_false h]
    by_cases ha : ((List.range 32).all fun i => xs.getD i 0 == ys.getD i 0) = true
    · exfalso
      apply h
      apply List.ext_getElem (by omega)
      intro i h1 h2
      have := List.all_eq_true.1 ha i (List.mem_range.2 (by omega))
      simpa [List.getD_eq_getElem?_getD, List.getElem?_eq_getElem h1, List.getElem?_eq_getElem h2] using this
    · simpa using ha
theorem v_eql (P : Program) (w : World) (t e : TypeId) (i : TypeInfo) (ht : P.underlying t = some (.array 32 e)) (he : P.underlying e = some (.int .u8)) (hi : P.info? e = some i) (hs : P.cellsOf e = 1) (xs ys : List Int) (hx : xs.length = 32) (hy : ys.length = 32) :
    (binOp .eql t (.agg (u8s xs)) (.agg (u8s ys))).run P w = .ok (.bool (decide (xs = ys))) w := by
  have h := v_items P w e 9998 he xs ys (List.range 32) (fun j hj => by have := List.mem_range.1 hj; omega)
  have h2 : (Op.equalIn 10000 t (.agg (u8s xs)) (.agg (u8s ys))).run P w = .ok (decide (xs = ys)) w := by
    rw [show (10000 : Nat) = 9999 + 1 from rfl, run_equalIn_array w 9999 (u8s xs) (u8s ys) ht hi, hs, h, v_all xs ys hx hy]
  simp only [binOp]
  simp [Op.equal, Op.maxDepth, Sem.run_bind, h2]
theorem v_load (P : Program) (w : World) (t e : TypeId) (i : TypeInfo) (ht : P.underlying t = some (.array 32 e)) (hi : P.info? t = some i) (hs : i.size = 32) (ad : Addr) (xs : List Int) (hx : 32 ≤ xs.length) (hc : ∀ j, j < xs.length → w.cell? (ad.add j) = some (.int .u8 (xs.getD j 0))) :
    (loadVar t ad).run P w = .ok (.agg (u8s (xs.take 32))) w := by
  have hl : (loadCells ad ((xs.take 32).map (Value.int .u8)).length).run P w = .ok ((xs.take 32).map (Value.int .u8)).toArray w :=
    run_loadCells_list (P := P) w ad _ (fun j v hv => by
      obtain ⟨hjl, rfl⟩ := List.getElem?_eq_some_iff.1 hv
      have hj : j < xs.length := by simp at hjl; omega
      rw [hc j hj]
      simp [List.getD_eq_getElem?_getD, List.getElem?_eq_getElem hj])
  have hlen : ((xs.take 32).map (Value.int .u8)).length = 32 := by rw [List.length_map, List.length_take]; omega
  rw [hlen] at hl
  have ha : (isAgg t).run P w = .ok true w := by
    unfold isAgg
    rw [Sem.run_bind, run_underlying ht w]
    rfl
  simp [loadVar, Sem.run_bind, ha, sizeOf, typeInfo, hi, hs, hl, u8s]
theorem x_load {P : Program} {a : Act} {w : World} {o : Oper} {t : TypeId} {x : Operand} {ad : Addr} {v : Value} (ho : o.op = .load t x) (hx : a.eval x = .pointer (some ad)) (h : (loadVar t ad).run P w = .ok v w) : (execOp a.eval o).run P w = .ok (.value v) w := by
  unfold execOp
  simp only [ho, hx, Instr.loadAt, Instr.sureAddr, Sem.run_bind, Sem.run_pure, Result.andThen_ok, h]
theorem x_binOp {P : Program} {a : Act} {w : World} {o : Oper} {t t2 : TypeId} {x y : Operand} {xs ys : Array Value} {v : Value} (ho : o.op = .binOp .eql t x y t2) (hx : a.eval x = .agg xs) (hy : a.eval y = .agg ys) (hm : P.eqGuardType P.depth t = false) (h : (binOp .eql t (.agg xs) (.agg ys)).run P w = .ok v w) : (execOp a.eval o).run P w = .ok (.value v) w := by
  unfold execOp
  simp only [ho, hx, hy, Sem.run_bind, run_eqGuard_agg w .eql t x y xs ys hm, Result.andThen_ok, h, Sem.run_pure]
theorem x_arrayAt {P : Program} {a : Act} {w : World} {o : Oper} {t : TypeId} {x : Operand} {u v : Value} (ho : o.op = .sliceToArrayPointer t x) (hx : a.eval x = u) (h : (Instr.arrayAt t u).run P w = .ok v w) : (execOp a.eval o).run P w = .ok (.value v) w := by
  subst hx
  unfold execOp
  simp only [ho, Sem.run_bind, h, Result.andThen_ok, Sem.run_pure]
def hmac_Verify.f (k : Nat) (l0 l1 : List Int) (l2 : List (List Int)) : Option Bool := if l1.length = 32 then (hmac_Tag.f k l0 l2).bind fun t => (if 32 ≤ t.length then some (decide (l1 = t.take 32)) else none) else some false
theorem v_info57 : Try.prog.info? 75 = some ((Try.prog.info? 75).getD default) := by kernel_rfl
theorem v_info5 : Try.prog.info? 5 = some ((Try.prog.info? 5).getD default) := by kernel_rfl
set_option maxHeartbeats 400000 in
set_option maxRecDepth 100000 in
theorem hmac_Verify.right (k : Nat) (A0 : Option Addr) (c0 : Nat) (l0 : List Int) (A1 : Option Addr) (c1 : Nat) (l1 : List Int) (P2_ : Nat → Prop) (A2 : Option Addr) (c2 : Nat) (l2 : List (List Int)) (t : List Int) (w : World)
    (hr0 : Kd.C (Kd.int .u8) w A0 l0.length l0) (hc0 : l0.length ≤ c0) (hr1 : Kd.C (Kd.int .u8) w A1 l1.length l1) (hc1 : l1.length ≤ c1) (hs2 : Kd.V (Kd.slice 5 (Kd.int .u8)) 22 w w.heap.size (fun k_ => P2_ k_) (.slice A2 l2.length c2) l2) (h1 : l1.length = 32) (ht : hmac_Tag.f k l0 l2 = some t) (ht3 : 32 ≤ t.length) :
    Calls Try.prog 33 #[.slice A0 l0.length c0, .slice A1 l1.length c1, .slice A2 l2.length c2] w fun e w' => e = .returned (.bool (decide (l1 = t.take 32))) ∧ Below w.heap.size w w' := by
  obtain ⟨ad1, rfl, hrd⟩ := (Kd.reads_of_C (d := (0 : Int)) hr1).2.2 (by omega)
  have HT := Aside0.mk hrd
  have HR0 := Aside0.mk hr0
  have HC0 := Aside0.mk hc0
  have HS2 := Aside0.mk hs2
  have HTAG := Aside0.mk ht
  have HL1 := Aside0.mk (show 32 ≤ l1.length by omega)
  have HL3 := Aside0.mk ht3
  have HT1 := Aside0.mk (show (l1.take 32).length = 32 by rw [List.length_take]; omega)
  have HT3 := Aside0.mk (show (t.take 32).length = 32 by rw [List.length_take]; omega)
  have HE := Aside0.mk (show l1.take 32 = l1 from List.take_of_length_le (by omega))
  have b0 : ((l1.length : Int) != 32) = false := by simp; omega
  have b3 : (32 : Nat) ≤ t.length := ht3
  have b1 : (32 : Nat) ≤ l1.length := by omega
  clear hrd hr0 hc0 hr1 hc1 hs2 ht h1
  go_enter Try.func33, Try.ntmps33
  go_wp2
  refine start_ (n := 10) (S := fun w' => Aside0 (∀ j, j < l1.length → w'.cell? (ad1.add j) = some (.int .u8 (l1.getD j 0))) ∧ Aside0 (Below w.heap.size w w')) (ds := []) #[false, false, false, false, false, false, false, false, false, false] (by kernel_rfl) rfl rfl ⟨⟨fun j hj => HT.out j hj⟩, ⟨below_drew (Below.refl _ _)⟩⟩ (fun hHeld => ?_)
  refine pure_ (i := 0) (N := some 10) (v := ?_) (a' := ?_) #[true, false, false, false, false, false, false, false, false, false] rfl rfl (by kernel_rfl) (fun _ _ _ h => h) (Or.inl ⟨by rfl, ?_⟩) ?_ ?_
  rotate_left
  · intro w'
    go_simp
    with_reducible rfl
  rotate_left
  · simp only [Act.put, List.setIfInBounds_toArray, List.set_cons_zero, List.set_cons_succ, i64_w, i32_w]
    rfl
  refine pure_ (i := 1) (N := some 11) (v := ?_) (a' := ?_) #[true, true, false, false, false, false, false, false, false, false] rfl rfl (by kernel_rfl) (fun _ _ _ h => h) (Or.inl ⟨by rfl, ?_⟩) ?_ ?_
  rotate_left
  · intro w'
    refine (x_arrayAt (u := .slice (some ad1) l1.length c1) rfl rfl (run_arrayAt _ 75 5 32 (some ad1) l1.length c1 Try.underlying75 HL1.out)).trans ?_
    with_reducible rfl
  rotate_left
  · simp only [Act.put, List.setIfInBounds_toArray, List.set_cons_zero, List.set_cons_succ, i64_w, i32_w]
    rfl
  refine pure_ (i := 3) (N := some 13) (v := ?_) (a' := ?_) #[true, true, false, true, false, false, false, false, false, false] rfl rfl (by kernel_rfl) (fun _ _ _ h => h) (Or.inl ⟨by rfl, ?_⟩) ?_ ?_
  rotate_left
  · intro w'
    go_simp
    with_reducible rfl
  rotate_left
  · simp only [Act.put, List.setIfInBounds_toArray, List.set_cons_zero, List.set_cons_succ, i64_w, i32_w]
    rfl
  refine pure_ (i := 4) (N := some 14) (v := ?_) (a' := ?_) #[true, true, false, true, true, false, false, false, false, false] rfl rfl (by kernel_rfl) (fun _ _ _ h => h) (Or.inl ⟨by rfl, ?_⟩) ?_ ?_
  rotate_left
  · intro w'
    go_simp
    with_reducible rfl
  rotate_left
  · simp only [Act.put, List.setIfInBounds_toArray, List.set_cons_zero, List.set_cons_succ, i64_w, i32_w]
    rfl
  refine take_ (i := 2) (N := some 12) (v := ?_) (a' := ?_) #[true, true, true, true, true, false, false, false, false, false] rfl rfl (by kernel_rfl) (fun _ _ _ h => h) (Or.inl ⟨by rfl, ?_⟩) hHeld ?_ ?_
  rotate_left
  · rintro w' ⟨s0, s1⟩
    refine (x_load rfl rfl (v_load Try.prog _ 75 5 _ Try.underlying75 v_info57 rfl ad1 l1 HL1.out s0.out)).trans ?_
    with_reducible rfl
  rotate_left
  · simp only [Act.put, List.setIfInBounds_toArray, List.set_cons_zero, List.set_cons_succ, i64_w, i32_w]
    rfl
  refine one_ (i := 5) (N := some 15) #[true, true, true, true, true, true, false, false, false, false] rfl rfl (by kernel_rfl) (by decide) (fun K hK => ?_)
  refine goes_ Try.func18 (by kernel_rfl) rfl #[.slice A0 l0.length c0, .slice A2 l2.length c2] (by rfl) rfl rfl (by simp only [List.map_toArray, List.map_cons, List.map_nil]; rfl) ?_
  with_reducible refine (hmac_Tag.calls k A0 c0 l0 P2_ A2 c2 l2 t _ (Kd.C_below HR0.out hHeld.2.out) HC0.out (Kd.V_below HS2.out hHeld.2.out) HTAG.out).mono ?_
  rintro e w3 ⟨v3, rfl, hr3, hb3⟩
  obtain ⟨A3, c3, rfl, hc3, hC3⟩ := Kd.R_reads hr3
  obtain ⟨ad3, rfl, hrd3⟩ := (Kd.reads_of_C (d := (0 : Int)) hC3).2.2 (by omega)
  have HRD3 := Aside0.mk hrd3
  clear hrd3 hr3 hc3 hC3
  refine ⟨_, rfl, ?_⟩
  refine hK.out _ _ ⟨⟨fun j hj => q_cell_later hb3 (hHeld.1.out j hj)⟩, ⟨below_step hHeld.2.out hb3⟩⟩ (fun hHeld => ?_)
  clear hK K
  refine norm_ (a' := ?_) ?_ ?_
  rotate_left
  · show Act.put _ (some 15) _ = _
    simp only [Act.put, List.setIfInBounds_toArray, List.set_cons_zero, List.set_cons_succ, i64_w, i32_w]
    rfl
  refine pure_ (i := 6) (N := some 16) (v := ?_) (a' := ?_) #[true, true, true, true, true, true, true, false, false, false] rfl rfl (by kernel_rfl) (fun _ _ _ h => h) (Or.inl ⟨by rfl, ?_⟩) ?_ ?_
  rotate_left
  · intro w'
    refine (x_arrayAt (u := .slice (some ad3) t.length c3) rfl rfl (run_arrayAt _ 75 5 32 (some ad3) t.length c3 Try.underlying75 HL3.out)).trans ?_
    with_reducible rfl
  rotate_left
  · simp only [Act.put, List.setIfInBounds_toArray, List.set_cons_zero, List.set_cons_succ, i64_w, i32_w]
    rfl
  refine one_ (i := 7) (N := some 17) #[true, true, true, true, true, true, true, true, false, false] rfl rfl (by kernel_rfl) (by decide) (fun K hK => ?_)
  refine value_ (w1 := w3) (v := .agg (u8s (t.take 32))) (by rfl) rfl ?_ ?_
  · exact x_load rfl rfl (v_load Try.prog _ 75 5 _ Try.underlying75 v_info57 rfl ad3 t HL3.out HRD3.out)
  refine hK.out _ _ ⟨hHeld.1, hHeld.2⟩ (fun hHeld => ?_)
  clear hK K
  refine norm_ (a' := ?_) ?_ ?_
  rotate_left
  · show Act.put _ (some 17) _ = _
    simp only [Act.put, List.setIfInBounds_toArray, List.set_cons_zero, List.set_cons_succ, i64_w, i32_w]
    rfl
  refine pure_ (i := 8) (N := some 18) (v := ?_) (a' := ?_) #[true, true, true, true, true, true, true, true, true, false] rfl rfl (by kernel_rfl) (fun _ _ _ h => h) (Or.inl ⟨by rfl, ?_⟩) ?_ ?_
  rotate_left
  · intro w'
    refine (x_binOp rfl rfl rfl (by kernel_rfl) (v_eql Try.prog _ 75 5 _ Try.underlying75 Try.underlying5 v_info5 (by kernel_rfl) (l1.take 32) (t.take 32) HT1.out HT3.out)).trans ?_
    with_reducible rfl
  rotate_left
  · simp only [Act.put, List.setIfInBounds_toArray, List.set_cons_zero, List.set_cons_succ, i64_w, i32_w]
    rfl
  refine pure_ (i := 9) (N := some 6) (v := ?_) (a' := ?_) #[true, true, true, true, true, true, true, true, true, true] rfl rfl (by kernel_rfl) (fun _ _ _ h => h) (Or.inl ⟨by rfl, ?_⟩) ?_ ?_
  rotate_left
  · intro w'
    go_simp
    with_reducible rfl
  rotate_left
  · simp only [Act.put, List.setIfInBounds_toArray, List.set_cons_zero, List.set_cons_succ, i64_w, i32_w]
    rfl
  refine done_ (by kernel_rfl) ?_
  go_wp2
  go_ret
  exact ⟨by first | rfl | (rw [HE.out]; rfl), hHeld.2.out⟩
set_option maxHeartbeats 400000 in
theorem hmac_Verify.wrong (A0 : Option Addr) (c0 : Nat) (l0 : List Int) (A1 : Option Addr) (c1 : Nat) (l1 : List Int) (v2 : Value) (w : World) (h1 : ¬ l1.length = 32) :
    Calls Try.prog 33 #[.slice A0 l0.length c0, .slice A1 l1.length c1, v2] w fun e w' => e = .returned (.bool false) ∧ Below w.heap.size w w' := by
  have b0 : ((l1.length : Int) != 32) = true := by simp; omega
  clear h1
  go_enter Try.func33, Try.ntmps33
  go_wp2
  go_ret
  exact ⟨rfl, Below.refl _ _⟩
theorem hmac_Verify.calls (k : Nat) (A0 : Option Addr) (c0 : Nat) (l0 : List Int) (A1 : Option Addr) (c1 : Nat) (l1 : List Int) (P2_ : Nat → Prop) (A2 : Option Addr) (c2 : Nat) (l2 : List (List Int)) (r : Bool) (w : World)
    (hr0 : Kd.C (Kd.int .u8) w A0 l0.length l0) (hc0 : l0.length ≤ c0) (hr1 : Kd.C (Kd.int .u8) w A1 l1.length l1) (hc1 : l1.length ≤ c1) (hs2 : Kd.V (Kd.slice 5 (Kd.int .u8)) 22 w w.heap.size (fun k_ => P2_ k_) (.slice A2 l2.length c2) l2) (h : hmac_Verify.f k l0 l1 l2 = some r) :
    Calls Try.prog 33 #[.slice A0 l0.length c0, .slice A1 l1.length c1, .slice A2 l2.length c2] w fun e w' => e = .returned (.bool r) ∧ Below w.heap.size w w' := by
  unfold hmac_Verify.f at h
  by_cases h1 : l1.length = 32
  · rw [if_pos h1] at h
    obtain ⟨t, ht, h⟩ := Option.bind_eq_some_iff.1 h
    by_cases h3 : 32 ≤ t.length
    · rw [if_pos h3] at h
      obtain rfl := Option.some.inj h
      exact hmac_Verify.right k A0 c0 l0 A1 c1 l1 P2_ A2 c2 l2 t w hr0 hc0 hr1 hc1 hs2 h1 ht h3
    · rw [if_neg h3] at h
      cases h
  · rw [if_neg h1] at h
    obtain rfl := Option.some.inj h
    exact hmac_Verify.wrong A0 c0 l0 A1 c1 l1 _ w h1
def token_judge.code (t1 t2 t3 a3 a4 a5 : Int) (v : Bool) : Int := if v = true then (if t2 < a4 then 4 else if t3 = a5 then (if (a3 = 1 ∨ a3 = 2 ∨ a3 = 4 ∨ a3 = 8) ∧ 0 < Go.bits .and .i64 t1 a3 then 0 else 6) else 5) else 3
def token_judge.f (k : Nat) (l0 l1 : List Int) (a2 a3 a4 a5 : Int) : Option Int := (token_Read.f k l1).bind fun t => (if t.2.2.2.2.2 = 0 then (if t.1 = a2 then (if 18 ≤ l1.length then (hmac_Verify.f k l0 t.2.2.2.2.1 [l1.take 18]).bind fun v => some (token_judge.code t.2.1 t.2.2.1 t.2.2.2.1 a3 a4 a5 v) else none) else some 2) else some 1)
def JErr (t r : Int) (e : Ending) (w' : World) : Prop := (r = 0 ∧ e = .returned .nilIface) ∨ (∃ b, e = .returned (.iface 61 (.pointer (some ⟨b, 0, none⟩))) ∧ w'.heap[b]? = some (.cells #[.int .i64 t, .int .i64 r] 63 (0, 0)))
theorem jerr_some {t r : Int} {w' : World} {b : Nat} (h : w'.heap[b]? = some (.cells #[.int .i64 t, .int .i64 r] 63 (0, 0))) : JErr t r (.returned (.iface 61 (.pointer (some ⟨b, 0, none⟩)))) w' := .inr ⟨b, rfl, h⟩
theorem jerr_none (t : Int) (w' : World) : JErr t 0 (.returned .nilIface) w' := .inl ⟨rfl, rfl⟩
set_option maxRecDepth 100000 in
theorem no_calls (g : Nat) (t k : Int) (w : World) (h : w.cell? ⟨g, 0, none⟩ = some (.int .i64 t)) :
    Calls Try.prog 32 #[.int .i64 k, .pointer (some ⟨g, 0, none⟩)] w fun e w' => ∃ b, e = .returned (.iface 61 (.pointer (some ⟨b, 0, none⟩))) ∧ w'.heap[b]? = some (.cells #[.int .i64 t, .int .i64 k] 63 (0, 0)) ∧ Below w.heap.size w w' := by
  have hu_den := Try.underlying63
  go_enter Try.func32, Try.ntmps32
  go_wp2_with (first | ((with_reducible refine gate_dst (N := 7) rfl ?_); refine box_event ?hg (N := 7) ?hd (cs := #[.int .i64 t, .int .i64 k]) (t := 63) ?hr ?_; (case hd => rfl); (case hg => rfl); (case hr => first | (go_simp; done) | (go_simp; rfl)); intro gb hg w7 hbox hb))
  go_ret
  exact ⟨w.heap.size, rfl, by rw [← hg]; exact hbox, hb⟩
theorem q_ne_set {W : World} {g k j : Nat} {v : Value} {o : Obj} (h : W.heap[k]? = some o) (hk : k ≠ g) : (W.setCell ⟨g, j, none⟩ v).heap[k]? = some o := (Below.heap_setCell W ⟨g, j, none⟩ v k hk).trans h
set_option maxHeartbeats 8000000 in
set_option maxRecDepth 100000 in
theorem token_judge.calls (k : Nat) (A0 : Option Addr) (c0 : Nat) (l0 : List Int) (A1 : Option Addr) (c1 : Nat) (l1 : List Int) (a2 a3 a4 a5 r : Int) (w : World) (hr0 : Kd.C (Kd.int .u8) w A0 l0.length l0) (hc0 : l0.length ≤ c0) (hr1 : Kd.C (Kd.int .u8) w A1 l1.length l1) (hc1 : l1.length ≤ c1) (h : token_judge.f k l0 l1 a2 a3 a4 a5 = some r) :
    Calls Try.prog 19 #[.slice A0 l0.length c0, .slice A1 l1.length c1, .int .i64 a2, .int .i64 a3, .int .i64 a4, .int .i64 a5] w fun e w' => JErr a2 r e w' ∧ Below w.heap.size w w' := by
  have hu24 := Try.underlying24
  have HR0 := Aside0.mk hr0
  have HC0 := Aside0.mk hc0
  have HR1 := Aside0.mk hr1
  have HC1 := Aside0.mk hc1
  clear hr0 hc0 hr1
  unfold token_judge.f at h
  replace h := Option.bind_eq_some_iff.mp h
  obtain ⟨⟨t1, t2, t3, t4, lm, te⟩, A70, h⟩ := h
  have A7 := Aside0.mk A70
  clear A70
  replace h : (if te = 0 then (if t1 = a2 then (if 18 ≤ l1.length then (hmac_Verify.f k l0 lm [l1.take 18]).bind fun v => some (token_judge.code t2 t3 t4 a3 a4 a5 v) else none) else some 2) else some 1) = some r := h
  have tok1 : True := trivial
  have HCS : (te != 0) = true ∧ r = 1 ∨ (te != 0) = false ∧ ((t1 != a2) = true ∧ r = 2 ∨ (t1 != a2) = false ∧ 18 ≤ l1.length ∧ ∃ v, hmac_Verify.f k l0 lm [l1.take 18] = some v ∧ r = token_judge.code t2 t3 t4 a3 a4 a5 v) := by
    by_cases c8 : te = 0
    · rw [if_pos c8] at h
      refine .inr ⟨bne_eq_false_iff_eq.mpr c8, ?_⟩
      by_cases c9 : t1 = a2
      · rw [if_pos c9] at h
        by_cases c10 : 18 ≤ l1.length
        · rw [if_pos c10] at h
          obtain ⟨v, hv, h⟩ := Option.bind_eq_some_iff.mp h
          exact .inr ⟨bne_eq_false_iff_eq.mpr c9, c10, v, hv, (Option.some.inj h).symm⟩
        · rw [if_neg c10] at h
          exact absurd h (by simp)
      · rw [if_neg c9] at h
        exact .inl ⟨bne_iff_ne.mpr c9, (Option.some.inj h).symm⟩
    · rw [if_neg c8] at h
      exact .inl ⟨bne_iff_ne.mpr c8, (Option.some.inj h).symm⟩
  clear h
  rcases HCS with ⟨c8, hr⟩ | ⟨c8, ⟨c9, hr⟩ | ⟨c9, c10, v, A110, hr⟩⟩
  rotate_left 2
  · have H18 := Aside0.mk c10
    have hy : (l1.take 18).length = 18 := by rw [List.length_take]; omega
    have HY := Aside0.mk hy
    have HC18 := Aside0.mk (show (l1.take 18).length ≤ c1 from by omega)
    clear hy
    have A11 := Aside0.mk A110
    clear A110
    have HW : (v = false ∧ r = 3) ∨ v = true ∧ (decide (t3 < a4) = true ∧ r = 4 ∨ decide (t3 < a4) = false ∧ ((t4 != a5) = true ∧ r = 5 ∨ (t4 != a5) = false ∧ (((a3 == 1) = false ∧ (a3 == 2) = false ∧ (a3 == 4) = false ∧ (a3 == 8) = false ∧ r = 6) ∨ ((a3 = 1 ∨ a3 = 2 ∨ a3 = 4 ∨ a3 = 8) ∧ (decide (0 < Go.bits .and .i64 t2 a3) = true ∧ r = 0 ∨ decide (0 < Go.bits .and .i64 t2 a3) = false ∧ r = 6))))) := by
      cases v
      · exact .inl ⟨rfl, hr.trans rfl⟩
      · refine .inr ⟨rfl, ?_⟩
        unfold token_judge.code at hr
        rw [if_pos rfl] at hr
        by_cases b1 : t3 < a4
        · rw [if_pos b1] at hr
          exact .inl ⟨decide_eq_true b1, hr⟩
        · rw [if_neg b1] at hr
          refine .inr ⟨decide_eq_false b1, ?_⟩
          by_cases c2 : t4 = a5
          · rw [if_pos c2] at hr
            refine .inr ⟨bne_eq_false_iff_eq.mpr c2, ?_⟩
            by_cases c3 : a3 = 1 ∨ a3 = 2 ∨ a3 = 4 ∨ a3 = 8
            · refine .inr ⟨c3, ?_⟩
              by_cases c4 : 0 < Go.bits .and .i64 t2 a3
              · rw [if_pos ⟨c3, c4⟩] at hr
                exact .inl ⟨decide_eq_true c4, hr⟩
              · rw [if_neg (fun hq => c4 hq.2)] at hr
                exact .inr ⟨decide_eq_false c4, hr⟩
            · rw [if_neg (fun hq => c3 hq.1)] at hr
              exact .inl ⟨beq_eq_false_iff_ne.mpr (fun e => c3 (.inl e)), beq_eq_false_iff_ne.mpr (fun e => c3 (.inr (.inl e))), beq_eq_false_iff_ne.mpr (fun e => c3 (.inr (.inr (.inl e)))), beq_eq_false_iff_ne.mpr (fun e => c3 (.inr (.inr (.inr e)))), hr⟩
          · rw [if_neg c2] at hr
            exact .inl ⟨bne_iff_ne.mpr c2, hr⟩
    clear hr
    rcases HW with ⟨rfl, hr⟩ | ⟨rfl, ⟨b1, hr⟩ | ⟨b1, ⟨b2, hr⟩ | ⟨b2, ⟨d1, d2, d4, d8, hr⟩ | ⟨rfl | rfl | rfl | rfl, ⟨b4, hr⟩ | ⟨b4, hr⟩⟩⟩⟩⟩
    all_goals have HCODE := Aside0.mk hr
    all_goals clear hr
    all_goals go_enter Try.func19, Try.ntmps19
    all_goals go_wp2_with (first | ((with_reducible refine gate_dst (N := 8) rfl ?_); refine box_event ?hg (N := 8) ?hd (cs := #[.int .i64 a2]) (t := 3) ?hr ?_; (case hd => rfl); (case hg => rfl); (case hr => first | (go_simp; done) | (go_simp; rfl)); intro gT hgT w1 hbT hb1; have BT := Aside0.mk hbT; have HB := Aside0.mk hb1; have GT := Aside0.mk (Nat.le_of_eq hgT.symm); clear hgT hbT hb1) | (go_at_call 14; (with_reducible refine (token_Read.calls k _ _ l1 t1 t2 t3 t4 lm te _ ?side1 ?side2 A7.out).mono ?_); (case side1 => exact Kd.C_below HR1.out HB.out); (case side2 => exact HC1.out); rintro e w2 ⟨vm, rfl, ho, hb⟩; obtain ⟨Am, cm, em⟩ := Kd.R_slice ho; subst em; have HM := Aside0.mk (Kd.R_reads' ho).2.2; have HMc := Aside0.mk (Kd.R_reads' ho).2.1; have n0 := Aside0.mk (blk_below BT.out hb); have n1 := Aside0.mk (below_step HB.out hb); clear BT HB; have BT := n0; have HB := n1; have HBm := Aside0.mk (Below.refl w2.heap.size w2); clear n0 n1 ho hb) | ((with_reducible refine gate_dst (N := 13) rfl ?_); refine box_event ?hg (N := 13) ?hd (cs := #[.int .i64 0, .int .i64 0, .int .i64 0, .int .i64 0]) (t := 24) ?hr ?_; (case hd => rfl); (case hg => rfl); (case hr => first | (go_simp; done) | (go_simp; rfl)); intro gt hgt w3 hbk hb; have n0 := Aside0.mk (blk_below BT.out hb); have n1 := Aside0.mk (below_step HB.out hb); have n2 := Aside0.mk (below_step HBm.out hb); have GG := Aside0.mk (show gT ≠ gt from by have := blk_lt BT.out; omega); have GE := Aside0.mk (show w.heap.size ≤ gt from by have := below_size HB.out; omega); have GM := Aside0.mk (Nat.le_of_eq hgt.symm); clear BT HB HBm; have BT := n0; have HB := n1; have HBm := n2; have BK := Aside0.mk hbk; clear n0 n1 n2 hgt hbk hb; have hz0 : w3.cell? ⟨gt, 0, none⟩ = some (.int .i64 0) := (blk_cell BK.out 0).trans rfl; have hz1 : w3.cell? ⟨gt, 1, none⟩ = some (.int .i64 0) := (blk_cell BK.out 1).trans rfl; have hz2 : w3.cell? ⟨gt, 2, none⟩ = some (.int .i64 0) := (blk_cell BK.out 2).trans rfl; have hz3 : w3.cell? ⟨gt, 3, none⟩ = some (.int .i64 0) := (blk_cell BK.out 3).trans rfl; have hf0 := blk_frozen BK.out 0; have hf1 := blk_frozen BK.out 1; have hf2 := blk_frozen BK.out 2; have hf3 := blk_frozen BK.out 3) | ((with_reducible refine gate_store (t := 24) (p := 13) rfl ?_); refine store_event (t := 24) (p := 13) (v := ?vo) (w1 := ((((w3.setCell ⟨gt, 0, none⟩ (.int .i64 t1)).setCell ⟨gt, 1, none⟩ (.int .i64 t2)).setCell ⟨gt, 2, none⟩ (.int .i64 t3)).setCell ⟨gt, 3, none⟩ (.int .i64 t4))) ?hg ?ho ?hn ?hr ?_; (case ho => rfl); (case hg => rfl); (case hn => rfl); (case hr => first | (go_simp; done) | (go_simp; rfl)); intro w4 hw; have n0 := Aside0.mk (show w4.heap[gT]? = some (.cells #[.int .i64 a2] 3 (0, 0)) from by rw [hw]; exact q_ne_set (q_ne_set (q_ne_set (q_ne_set BT.out GG.out) GG.out) GG.out) GG.out); have n1 := Aside0.mk (show Below w.heap.size w w4 from by rw [hw]; exact below_set (below_set (below_set (below_set HB.out GE.out) GE.out) GE.out) GE.out); have n2 := Aside0.mk (show Below w2.heap.size w2 w4 from by rw [hw]; exact below_set (below_set (below_set (below_set HBm.out GM.out) GM.out) GM.out) GM.out); have n3 := Aside0.mk (show w4.heap[gt]? = some (.cells #[.int .i64 t1, .int .i64 t2, .int .i64 t3, .int .i64 t4] 24 (0, 0)) from by rw [hw]; exact blk_put (cs := #[.int .i64 t1, .int .i64 t2, .int .i64 t3, .int .i64 0]) (blk_put (cs := #[.int .i64 t1, .int .i64 t2, .int .i64 0, .int .i64 0]) (blk_put (cs := #[.int .i64 t1, .int .i64 0, .int .i64 0, .int .i64 0]) (blk_put (cs := #[.int .i64 0, .int .i64 0, .int .i64 0, .int .i64 0]) BK.out 0 _ rfl) 1 _ rfl) 2 _ rfl) 3 _ rfl); clear BT HB HBm BK hw hz0 hz1 hz2 hz3 hf0 hf1 hf2 hf3; have BT := n0; have HB := n1; have HBm := n2; have BK := n3; clear n0 n1 n2 n3; have hz0 : w4.cell? ⟨gt, 0, none⟩ = some (.int .i64 t1) := (blk_cell BK.out 0).trans rfl; have hz1 : w4.cell? ⟨gt, 1, none⟩ = some (.int .i64 t2) := (blk_cell BK.out 1).trans rfl; have hz2 : w4.cell? ⟨gt, 2, none⟩ = some (.int .i64 t3) := (blk_cell BK.out 2).trans rfl; have hz3 : w4.cell? ⟨gt, 3, none⟩ = some (.int .i64 t4) := (blk_cell BK.out 3).trans rfl; have hcT : w4.cell? ⟨gT, 0, none⟩ = some (.int .i64 a2) := (blk_cell BT.out 0).trans rfl) | ((with_reducible refine gate_dst (N := 41) rfl ?_); have HF : Aside0 (Kd.FK (Kd.slice 5 (Kd.int .u8)) w4 (fun _ => True) (l1.take 18) [.slice A1 18 c1]) := (by have hq := Kd.FK_slice_mk (e := 5) (l := l1.take 18) HC18.out (Kd.V_F (e := 0) (base := 0) (q_V (Kd.heap_int .u8) (Kd.C_take (m := 18) (Kd.C_below HR1.out HB.out) H18.out) HC18.out)); rw [HY.out] at hq; exact ⟨hq⟩); refine Kd.N_lit (Kd.slice 5 (Kd.int .u8)) _ 22 ?hg (N' := 41) ?hd (xs := ([l1.take 18] : List (List Int))) (inner := [.slice A1 18 c1]) (ok := fun _ => True) (okp := fun _ => True) ?hr ?hp (fun _ hk => hk) trivial (Below.refl _ _) (Nat.le_refl _) (by simp) ?_; (case hd => rfl); (case hg => rfl); (case hr => first | (go_simp; done) | (go_simp; rfl)); (case hp => exact Reps.one HF.out (Reps.none _ _)); clear HF; intro vs w5 hos hb hg_ hnew_; obtain ⟨As, cs, es⟩ := Kd.N_slice hos; subst es; have n0 := Aside0.mk (blk_below BT.out hb); have n1 := Aside0.mk (below_step HB.out hb); have n2 := Aside0.mk (below_step HBm.out hb); have n3 := Aside0.mk (blk_below BK.out hb); have HS := Aside0.mk hos; clear BT HB HBm BK hg_ hnew_ hb hos hz0 hz1 hz2 hz3 hcT; have BT := n0; have HB := n1; have HBm := n2; have BK := n3; clear n0 n1 n2 n3) | (go_at_call 33; refine (hmac_Verify.calls k _ _ l0 _ _ lm (fun _ => True) _ _ [l1.take 18] _ _ ?side1 ?side2 ?side3 ?side4 ?side5 A11.out).mono ?_; (case side1 => exact Kd.C_below HR0.out HB.out); (case side2 => exact HC0.out); (case side3 => exact Kd.C_below HM.out HBm.out); (case side4 => exact HMc.out); (case side5 => exact Kd.N_V HS.out); rintro e w6 ⟨rfl, hb⟩; have n0 := Aside0.mk (blk_below BT.out hb); have n1 := Aside0.mk (below_step HB.out hb); have n3 := Aside0.mk (blk_below BK.out hb); clear BT HB HBm BK hb HS; have BT := n0; have HB := n1; have BK := n3; clear n0 n1 n3; have hz0 : w6.cell? ⟨gt, 0, none⟩ = some (.int .i64 t1) := (blk_cell BK.out 0).trans rfl; have hz1 : w6.cell? ⟨gt, 1, none⟩ = some (.int .i64 t2) := (blk_cell BK.out 1).trans rfl; have hz2 : w6.cell? ⟨gt, 2, none⟩ = some (.int .i64 t3) := (blk_cell BK.out 2).trans rfl; have hz3 : w6.cell? ⟨gt, 3, none⟩ = some (.int .i64 t4) := (blk_cell BK.out 3).trans rfl; have hcT : w6.cell? ⟨gT, 0, none⟩ = some (.int .i64 a2) := (blk_cell BT.out 0).trans rfl) | (go_at_call 32; refine (no_calls gT a2 _ _ ((blk_cell BT.out 0).trans rfl)).mono ?_; rintro e w7 ⟨b, rfl, hbx, hb⟩; have HX := Aside0.mk hbx; have n1 := Aside0.mk (below_step HB.out hb); clear HB BT BK hbx hb; have HB := n1; clear n1))
    all_goals go_ret
    all_goals exact ⟨by rw [HCODE.out]; first | exact jerr_some HX.out | exact jerr_none _ _, HB.out⟩
  all_goals have HCODE := Aside0.mk hr
  all_goals clear hr
  all_goals go_enter Try.func19, Try.ntmps19
  all_goals go_wp2_with (first | ((with_reducible refine gate_dst (N := 8) rfl ?_); refine box_event ?hg (N := 8) ?hd (cs := #[.int .i64 a2]) (t := 3) ?hr ?_; (case hd => rfl); (case hg => rfl); (case hr => first | (go_simp; done) | (go_simp; rfl)); intro gT hgT w1 hbT hb1; have BT := Aside0.mk hbT; have HB := Aside0.mk hb1; have GT := Aside0.mk (Nat.le_of_eq hgT.symm); clear hgT hbT hb1) | (go_at_call 14; (with_reducible refine (token_Read.calls k _ _ l1 t1 t2 t3 t4 lm te _ ?side1 ?side2 A7.out).mono ?_); (case side1 => exact Kd.C_below HR1.out HB.out); (case side2 => exact HC1.out); rintro e w2 ⟨vm, rfl, ho, hb⟩; obtain ⟨Am, cm, em⟩ := Kd.R_slice ho; subst em; have HM := Aside0.mk (Kd.R_reads' ho).2.2; have HMc := Aside0.mk (Kd.R_reads' ho).2.1; have n0 := Aside0.mk (blk_below BT.out hb); have n1 := Aside0.mk (below_step HB.out hb); clear BT HB; have BT := n0; have HB := n1; have HBm := Aside0.mk (Below.refl w2.heap.size w2); clear n0 n1 ho hb) | ((with_reducible refine gate_dst (N := 13) rfl ?_); refine box_event ?hg (N := 13) ?hd (cs := #[.int .i64 0, .int .i64 0, .int .i64 0, .int .i64 0]) (t := 24) ?hr ?_; (case hd => rfl); (case hg => rfl); (case hr => first | (go_simp; done) | (go_simp; rfl)); intro gt hgt w3 hbk hb; have n0 := Aside0.mk (blk_below BT.out hb); have n1 := Aside0.mk (below_step HB.out hb); have n2 := Aside0.mk (below_step HBm.out hb); have GG := Aside0.mk (show gT ≠ gt from by have := blk_lt BT.out; omega); have GE := Aside0.mk (show w.heap.size ≤ gt from by have := below_size HB.out; omega); have GM := Aside0.mk (Nat.le_of_eq hgt.symm); clear BT HB HBm; have BT := n0; have HB := n1; have HBm := n2; have BK := Aside0.mk hbk; clear n0 n1 n2 hgt hbk hb; have hz0 : w3.cell? ⟨gt, 0, none⟩ = some (.int .i64 0) := (blk_cell BK.out 0).trans rfl; have hz1 : w3.cell? ⟨gt, 1, none⟩ = some (.int .i64 0) := (blk_cell BK.out 1).trans rfl; have hz2 : w3.cell? ⟨gt, 2, none⟩ = some (.int .i64 0) := (blk_cell BK.out 2).trans rfl; have hz3 : w3.cell? ⟨gt, 3, none⟩ = some (.int .i64 0) := (blk_cell BK.out 3).trans rfl; have hf0 := blk_frozen BK.out 0; have hf1 := blk_frozen BK.out 1; have hf2 := blk_frozen BK.out 2; have hf3 := blk_frozen BK.out 3) | ((with_reducible refine gate_store (t := 24) (p := 13) rfl ?_); refine store_event (t := 24) (p := 13) (v := ?vo) (w1 := ((((w3.setCell ⟨gt, 0, none⟩ (.int .i64 t1)).setCell ⟨gt, 1, none⟩ (.int .i64 t2)).setCell ⟨gt, 2, none⟩ (.int .i64 t3)).setCell ⟨gt, 3, none⟩ (.int .i64 t4))) ?hg ?ho ?hn ?hr ?_; (case ho => rfl); (case hg => rfl); (case hn => rfl); (case hr => first | (go_simp; done) | (go_simp; rfl)); intro w4 hw; have n0 := Aside0.mk (show w4.heap[gT]? = some (.cells #[.int .i64 a2] 3 (0, 0)) from by rw [hw]; exact q_ne_set (q_ne_set (q_ne_set (q_ne_set BT.out GG.out) GG.out) GG.out) GG.out); have n1 := Aside0.mk (show Below w.heap.size w w4 from by rw [hw]; exact below_set (below_set (below_set (below_set HB.out GE.out) GE.out) GE.out) GE.out); have n2 := Aside0.mk (show Below w2.heap.size w2 w4 from by rw [hw]; exact below_set (below_set (below_set (below_set HBm.out GM.out) GM.out) GM.out) GM.out); have n3 := Aside0.mk (show w4.heap[gt]? = some (.cells #[.int .i64 t1, .int .i64 t2, .int .i64 t3, .int .i64 t4] 24 (0, 0)) from by rw [hw]; exact blk_put (cs := #[.int .i64 t1, .int .i64 t2, .int .i64 t3, .int .i64 0]) (blk_put (cs := #[.int .i64 t1, .int .i64 t2, .int .i64 0, .int .i64 0]) (blk_put (cs := #[.int .i64 t1, .int .i64 0, .int .i64 0, .int .i64 0]) (blk_put (cs := #[.int .i64 0, .int .i64 0, .int .i64 0, .int .i64 0]) BK.out 0 _ rfl) 1 _ rfl) 2 _ rfl) 3 _ rfl); clear BT HB HBm BK hw hz0 hz1 hz2 hz3 hf0 hf1 hf2 hf3; have BT := n0; have HB := n1; have HBm := n2; have BK := n3; clear n0 n1 n2 n3; have hz0 : w4.cell? ⟨gt, 0, none⟩ = some (.int .i64 t1) := (blk_cell BK.out 0).trans rfl; have hz1 : w4.cell? ⟨gt, 1, none⟩ = some (.int .i64 t2) := (blk_cell BK.out 1).trans rfl; have hz2 : w4.cell? ⟨gt, 2, none⟩ = some (.int .i64 t3) := (blk_cell BK.out 2).trans rfl; have hz3 : w4.cell? ⟨gt, 3, none⟩ = some (.int .i64 t4) := (blk_cell BK.out 3).trans rfl; have hcT : w4.cell? ⟨gT, 0, none⟩ = some (.int .i64 a2) := (blk_cell BT.out 0).trans rfl) | ((with_reducible refine gate_dst (N := 41) rfl ?_); have HF : Aside0 (Kd.FK (Kd.slice 5 (Kd.int .u8)) w4 (fun _ => True) (l1.take 18) [.slice A1 18 c1]) := (by have hq := Kd.FK_slice_mk (e := 5) (l := l1.take 18) HC18.out (Kd.V_F (e := 0) (base := 0) (q_V (Kd.heap_int .u8) (Kd.C_take (m := 18) (Kd.C_below HR1.out HB.out) H18.out) HC18.out)); rw [HY.out] at hq; exact ⟨hq⟩); refine Kd.N_lit (Kd.slice 5 (Kd.int .u8)) _ 22 ?hg (N' := 41) ?hd (xs := ([l1.take 18] : List (List Int))) (inner := [.slice A1 18 c1]) (ok := fun _ => True) (okp := fun _ => True) ?hr ?hp (fun _ hk => hk) trivial (Below.refl _ _) (Nat.le_refl _) (by simp) ?_; (case hd => rfl); (case hg => rfl); (case hr => first | (go_simp; done) | (go_simp; rfl)); (case hp => exact (Reps.one (show Kd.FK (Kd.slice 5 (Kd.int .u8)) _ _ (l1.take 18) [.slice A1 18 c1] from (by have hq := Kd.FK_slice_mk (e := 5) (l := l1.take 18) HC18.out (Kd.V_F (e := 0) (base := 0) (q_V (Kd.heap_int .u8) (Kd.C_take (m := 18) (Kd.C_below HR1.out HB.out) H18.out) HC18.out)); rwa [HY.out] at hq)) (Reps.none _ _))); intro vs w5 hos hb hg_ hnew_; obtain ⟨As, cs, es⟩ := Kd.N_slice hos; subst es; have n0 := Aside0.mk (blk_below BT.out hb); have n1 := Aside0.mk (below_step HB.out hb); have n2 := Aside0.mk (below_step HBm.out hb); have n3 := Aside0.mk (blk_below BK.out hb); have HS := Aside0.mk hos; clear BT HB HBm BK hg_ hnew_ hb hos hz0 hz1 hz2 hz3 hcT; have BT := n0; have HB := n1; have HBm := n2; have BK := n3; clear n0 n1 n2 n3) | (go_at_call 33; refine (hmac_Verify.calls k _ _ l0 _ _ lm (fun _ => True) _ _ [l1.take 18] _ _ ?side1 ?side2 ?side3 ?side4 ?side5 A11.out).mono ?_; (case side1 => exact Kd.C_below HR0.out HB.out); (case side2 => exact HC0.out); (case side3 => exact Kd.C_below HM.out HBm.out); (case side4 => exact HMc.out); (case side5 => exact Kd.N_V HS.out); rintro e w6 ⟨rfl, hb⟩; have n0 := Aside0.mk (blk_below BT.out hb); have n1 := Aside0.mk (below_step HB.out hb); have n3 := Aside0.mk (blk_below BK.out hb); clear BT HB HBm BK hb HS; have BT := n0; have HB := n1; have BK := n3; clear n0 n1 n3; have hz0 : w6.cell? ⟨gt, 0, none⟩ = some (.int .i64 t1) := (blk_cell BK.out 0).trans rfl; have hz1 : w6.cell? ⟨gt, 1, none⟩ = some (.int .i64 t2) := (blk_cell BK.out 1).trans rfl; have hz2 : w6.cell? ⟨gt, 2, none⟩ = some (.int .i64 t3) := (blk_cell BK.out 2).trans rfl; have hz3 : w6.cell? ⟨gt, 3, none⟩ = some (.int .i64 t4) := (blk_cell BK.out 3).trans rfl; have hcT : w6.cell? ⟨gT, 0, none⟩ = some (.int .i64 a2) := (blk_cell BT.out 0).trans rfl) | (go_at_call 32; refine (no_calls gT a2 _ _ ((blk_cell BT.out 0).trans rfl)).mono ?_; rintro e w7 ⟨b, rfl, hbx, hb⟩; have HX := Aside0.mk hbx; have n1 := Aside0.mk (below_step HB.out hb); clear HB BT BK hbx hb; have HB := n1; clear n1))
  all_goals go_ret
  all_goals exact ⟨by rw [HCODE.out]; first | exact jerr_some HX.out | exact jerr_none _ _, HB.out⟩
theorem token_judge.range {k : Nat} {l0 l1 : List Int} {a2 a3 a4 a5 r : Int} (h : token_judge.f k l0 l1 a2 a3 a4 a5 = some r) : 0 ≤ r ∧ r ≤ 6 := by
  unfold token_judge.f at h
  obtain ⟨t, _, h⟩ := Option.bind_eq_some_iff.mp h
  split at h
  · split at h
    · split at h
      · obtain ⟨v, _, h⟩ := Option.bind_eq_some_iff.mp h
        have h := Option.some.inj h
        unfold token_judge.code at h
        split at h
        · split at h
          · omega
          · split at h
            · split at h <;> omega
            · omega
        · omega
      · exact absurd h (by simp)
    · have := Option.some.inj h; omega
  · have := Option.some.inj h; omega
theorem ei_typeOf (v : Value) (w : World) : (Extern.ReflectliteType.typeOf #[.iface 48 v]).run Try.prog w = .ok (.iface 77 (.agg #[Go.typeHandle Try.prog 48])) w := by kernel_rfl
def ei_cf : Array Value → Sem Value := Extern.ReflectliteType.method fun t => do Extern.Rtype.noPackHeld "Comparable" t; pure (.bool (← typeInfo t).comparable)
theorem ei_comparable (w : World) : (ei_cf #[.agg #[Go.typeHandle Try.prog 48]]).run Try.prog w = .ok (.bool true) w := by kernel_rfl
theorem ei_methodComparable (n : Nat) (v : Value) (w : World) : (Go.method (n + 1) 77 v "Comparable").run Try.prog w = .ok (74, v) w := by kernel_rfl
theorem ei_comp : (Try.prog.info? 48).map (·.comparable) = some true := by kernel_rfl
theorem ei_noIsE (v : Value) (xT : TypeId) (w : World) : (Instr.typeAssert (.iface 48 v) xT 79 true).run Try.prog w = .ok (.tuple #[.nilIface, .bool false]) w := Go.run_typeAssert_lacksB Try.underlying79 (by kernel_rfl) (by kernel_rfl) v xT w
theorem ei_noUnwrapE (v : Value) (xT : TypeId) (w : World) : (Instr.typeAssert (.iface 48 v) xT 82 true).run Try.prog w = .ok (.tuple #[.nilIface, .bool false]) w := Go.run_typeAssert_lacksB Try.underlying82 (by kernel_rfl) (by kernel_rfl) v xT w
theorem ei_noUnwrapsE (v : Value) (xT : TypeId) (w : World) : (Instr.typeAssert (.iface 48 v) xT 84 true).run Try.prog w = .ok (.tuple #[.nilIface, .bool false]) w := Go.run_typeAssert_lacksB Try.underlying84 (by kernel_rfl) (by kernel_rfl) v xT w
theorem ei_noIsW (v : Value) (xT : TypeId) (w : World) : (Instr.typeAssert (.iface 61 v) xT 79 true).run Try.prog w = .ok (.tuple #[.nilIface, .bool false]) w := Go.run_typeAssert_lacksB Try.underlying79 (by kernel_rfl) (by kernel_rfl) v xT w
theorem ei_hasUnwrapW (v : Value) (xT : TypeId) (w : World) : (Instr.typeAssert (.iface 61 v) xT 82 true).run Try.prog w = .ok (.tuple #[.iface 61 v, .bool true]) w := Go.run_typeAssert_hasB Try.underlying82 (by kernel_rfl) v xT w
theorem ei_methodUnwrap (n : Nat) (v : Value) (w : World) : (Go.method (n + 1) 61 v "Unwrap").run Try.prog w = .ok (70, v) w := by kernel_rfl
set_option maxRecDepth 100000 in
theorem ei_nil (k : Int) (w : World) : Calls Try.prog 20 #[.nilIface, .iface 48 (.int .i64 k)] w fun e w' => e = .returned (.bool false) ∧ w' = w := by
  have hn := run_eql_iface_nil_left (P := Try.prog) w 48 (.int .i64 k) Try.underlying46
  go_enter Try.func20, Try.ntmps20
  go_wp2
  go_ret
  exact ⟨rfl, rfl⟩
set_option maxRecDepth 100000 in
theorem ei_wraps (b : Nat) (c k : Int) (w : World) (h1 : w.cell? ⟨b, 1, none⟩ = some (.int .i64 c)) :
    Calls Try.prog 20 #[.iface 61 (.pointer (some ⟨b, 0, none⟩)), .iface 48 (.int .i64 k)] w fun e w' => e = .returned (.bool (c == k)) ∧ w' = w := by
  have h8 := @run_callFunc_extern Try.prog 34 _ Extern.ReflectliteType.typeOf Try.func34 (by kernel_rfl) (by kernel_rfl) (by kernel_rfl) (by kernel_rfl)
  have h32 := @run_callFunc_extern Try.prog 74 _ ei_cf Try.func74 (by kernel_rfl) (by kernel_rfl) (by kernel_rfl) (by kernel_rfl)
  have tT := ei_typeOf
  have cT := ei_comparable
  have mR := ei_methodComparable 227
  have nE := ei_noIsE
  have uE := ei_noUnwrapE
  have vE := ei_noUnwrapsE
  have nW := ei_noIsW
  have uW := ei_hasUnwrapW
  have mU := ei_methodUnwrap 227
  have heq := fun w => Go.Lib.run_eql_iface_int (P := Try.prog) (t := 46) (tx := 48) (k := .i64) w c k Try.underlying46 ei_comp Try.underlying48
  have hty := run_eql_iface_types (P := Try.prog) 61 48 (.pointer (some ⟨b, 0, none⟩)) (.int .i64 k) Try.underlying46 (by decide) w
  go_enter Try.func20, Try.ntmps20
  go_wp2
  refine wp_loop_rounds 2 ?_
  rw [rounds_succ]
  go_wp2
  rw [rounds_succ]
  cases hck : (c == k)
  · rw [hck] at heq
    go_wp2
    go_ret
    exact ⟨congrArg (fun x => Ending.returned (.bool x)) hck.symm, rfl⟩
  · rw [hck] at heq
    go_wp2
    go_ret
    exact ⟨congrArg (fun x => Ending.returned (.bool x)) hck.symm, rfl⟩
def token_Judge.f (k : Nat) (l0 l1 : List Int) (a2 a3 a4 a5 : Int) : Option Int := token_judge.f k l0 l1 a2 a3 a4 a5
set_option maxHeartbeats 8000000 in
set_option maxRecDepth 100000 in
theorem token_Judge.calls (k : Nat) (A0 : Option Addr) (c0 : Nat) (l0 : List Int) (A1 : Option Addr) (c1 : Nat) (l1 : List Int) (a2 a3 a4 a5 r : Int) (w : World) (hr0 : Kd.C (Kd.int .u8) w A0 l0.length l0) (hc0 : l0.length ≤ c0) (hr1 : Kd.C (Kd.int .u8) w A1 l1.length l1) (hc1 : l1.length ≤ c1) (h : token_Judge.f k l0 l1 a2 a3 a4 a5 = some r) :
    Calls Try.prog 10 #[.slice A0 l0.length c0, .slice A1 l1.length c1, .int .i64 a2, .int .i64 a3, .int .i64 a4, .int .i64 a5] w fun e w' => e = .returned (.int .i64 r) ∧ Below w.heap.size w w' := by
  have hg := token_judge.range h
  have HJ := Aside0.mk (token_judge.calls k A0 c0 l0 A1 c1 l1 a2 a3 a4 a5 r w hr0 hc0 hr1 hc1 h)
  clear hr0 hc0 hr1 hc1 h
  go_enter Try.func10, Try.ntmps10
  go_wp2_with (go_at_call 19; refine HJ.out.mono ?_; clear HJ; rintro e w1 ⟨HE, hb⟩; have HB := Aside0.mk hb; clear hb; rcases HE with ⟨rfl, rfl⟩ | ⟨b, rfl, hbx⟩)
  · clear hg
    refine wp_loop_rounds 7 ?_
    iterate 7 (try (rw [rounds_succ]; go_wp2_with (go_at_call 20; refine (ei_nil _ _).mono ?_; rintro e w' ⟨rfl, rfl⟩)))
    go_ret
    exact ⟨rfl, HB.out⟩
  · have HX := Aside0.mk hbx
    clear hbx
    have hk : r = 0 ∨ r = 1 ∨ r = 2 ∨ r = 3 ∨ r = 4 ∨ r = 5 ∨ r = 6 := by omega
    clear hg
    rcases hk with rfl | rfl | rfl | rfl | rfl | rfl | rfl
    all_goals refine wp_loop_rounds 7 ?_
    all_goals iterate 7 (try (rw [rounds_succ]; go_wp2_with (go_at_call 20; refine (ei_wraps _ _ _ _ ((blk_cell HX.out 1).trans rfl)).mono ?_; rintro e w' ⟨rfl, rfl⟩)))
    all_goals go_ret
    all_goals exact ⟨rfl, HB.out⟩
def h25_B : List Int := ((token_Mint.f 100 [107] 1 3 9 0).getD ([], 0)).1
theorem h25_mint : token_Mint.f 100 [107] 1 3 9 0 = some (h25_B, 0) := by decide +kernel
theorem h25_len : h25_B.length = 50 := by decide +kernel
theorem h25_read : token_Read.f 100 h25_B = some (1, 3, 9, 0, h25_B.drop 18, 0) := by decide +kernel
theorem h25_no : token_Mint.f 100 [107] 0 0 0 0 = some ([], 250) := by decide +kernel
theorem h25_j1 : token_Judge.f 100 [107] h25_B 1 2 9 0 = some 0 := by decide +kernel
theorem h25_j2 : token_Judge.f 100 [107] h25_B 1 4 9 0 = some 6 := by decide +kernel
theorem h25_j3 : token_Judge.f 100 [107] h25_B 1 2 10 0 = some 4 := by decide +kernel
theorem h25_j4 : token_Judge.f 100 [107] h25_B 2 2 9 0 = some 2 := by decide +kernel
theorem h25_j5 : token_Judge.f 100 [] h25_B 1 2 9 0 = some 3 := by decide +kernel
theorem h25_j6 : token_Judge.f 100 [107] h25_B 1 2 9 1 = some 5 := by decide +kernel
theorem h25_j7 : token_Judge.f 100 [107] (h25_B.drop 1) 1 2 9 0 = some 1 := by decide +kernel
theorem h25_key (w : World) : Kd.C (Kd.int .u8) (w.alloc (.cells #[.int .u8 107] 5 (1, 2))) (some ⟨w.heap.size, 0, none⟩) ([107] : List Int).length [107] := q_C8 (t := 5) (fz := (1, 2)) (heap_alloc_new _ _) (by decide)
set_option maxHeartbeats 2000000 in
set_option maxRecDepth 100000 in
theorem h25_walk (B : List Int) (w : World) (hlen : B.length = 50) (hm : token_Mint.f 100 [107] 1 3 9 0 = some (B, 0)) (hrd : token_Read.f 100 B = some (1, 3, 9, 0, B.drop 18, 0)) (hno : token_Mint.f 100 [107] 0 0 0 0 = some ([], 250))
    (j1 : token_Judge.f 100 [107] B 1 2 9 0 = some 0) (j2 : token_Judge.f 100 [107] B 1 4 9 0 = some 6) (j3 : token_Judge.f 100 [107] B 1 2 10 0 = some 4) (j4 : token_Judge.f 100 [107] B 2 2 9 0 = some 2) (j5 : token_Judge.f 100 [] B 1 2 9 0 = some 3) (j6 : token_Judge.f 100 [107] B 1 2 9 1 = some 5) (j7 : token_Judge.f 100 [107] (B.drop 1) 1 2 9 0 = some 1) :
    Calls Try.prog 9 #[] w fun e w' => e = .returned (.bool true) ∧ Below w.heap.size w w' := by
  have kc := fun (w : World) (C : Array Value) (n c : Nat) => Lib.run_convert_bytes_const (P := Try.prog) w 22 5 C n c Try.underlying22 Try.underlying5
  have hB1 : ((B.length : Int) == 50) = true := by rw [hlen]; rfl
  have hB2 : 1 ≤ B.length := by omega
  have hB3 : ((B.length - 18 : Nat) : Int) = 32 := by omega
  have J1 := Aside0.mk j1
  have J2 := Aside0.mk j2
  have J3 := Aside0.mk j3
  have J4 := Aside0.mk j4
  have J5 := Aside0.mk j5
  have J6 := Aside0.mk j6
  have J7 := Aside0.mk j7
  have HM := Aside0.mk hm
  have HR := Aside0.mk hrd
  have HN := Aside0.mk hno
  have HL := Aside0.mk hlen
  clear j1 j2 j3 j4 j5 j6 j7 hm hrd hno hlen
  go_enter Try.func9, Try.ntmps9
  go_wp2_with fail
  refine (token_Mint.calls 100 _ 1 [107] 1 3 9 0 B 0 _ (h25_key w) (by decide) HM.out).mono ?_
  rintro e w1 ⟨v1, rfl, hr1, hb1⟩
  have HK := Aside0.mk (Kd.C_below (h25_key w) hb1)
  obtain ⟨_, ho1⟩ := Kd.R_own hr1
  obtain ⟨g1, c1, rfl, -, -⟩ := ho1.form (by omega)
  obtain ⟨-, hc1, hC1⟩ := Kd.R_reads' hr1
  have HB := Aside0.mk (show Below w.heap.size w w1 from below_step (below_alloc (Below.refl _ _) _) hb1)
  have HC1 := Aside0.mk hC1
  have HL1 := Aside0.mk hc1
  clear hr1 hb1 hC1 ho1
  go_wp2_with fail
  refine (token_Read.calls 100 _ _ B 1 3 9 0 (B.drop 18) 0 _ HC1.out HL1.out HR.out).mono ?_
  rintro e w2 ⟨v2, rfl, hr2, hb2⟩
  obtain ⟨A2, c2, rfl, hc2, hC2⟩ := Kd.R_reads hr2
  have n0 := Aside0.mk (Kd.C_below HK.out hb2)
  have n1 := Aside0.mk (below_step HB.out hb2)
  have n2 := Aside0.mk (Kd.C_below HC1.out hb2)
  clear HK HB HC1 hr2 hc2 hC2 hb2
  have HK := n0
  have HB := n1
  have HC1 := n2
  clear n0 n1 n2
  go_wp2_with fail
  have HX := Aside0.mk (show Below w2.heap.size w2 (w2.alloc (.cells #[.int .i64 1, .int .i64 3, .int .i64 9, .int .i64 0] 24)) from below_alloc (Below.refl _ _) _)
  have hbox := Aside0.mk (heap_alloc_new w2 (.cells #[.int .i64 1, .int .i64 3, .int .i64 9, .int .i64 0] 24))
  refine (token_Mint.calls 100 _ 1 [107] 0 0 0 0 [] 250 _ (Kd.C_below HK.out HX.out) (by decide) HN.out).mono ?_
  rintro e w3 ⟨v3, rfl, hr3, hb3⟩
  obtain ⟨A3, c3, rfl, -, -⟩ := Kd.R_reads hr3
  have hbx := blk_below hbox.out hb3
  have hz2 : w3.cell? ⟨w2.heap.size, 2, none⟩ = some (.int .i64 9) := (blk_cell hbx 2).trans rfl
  have n0 := Aside0.mk (Kd.C_below (Kd.C_below HK.out HX.out) hb3)
  have n1 := Aside0.mk (below_step (below_step HB.out HX.out) hb3)
  have n2 := Aside0.mk (Kd.C_below (Kd.C_below HC1.out HX.out) hb3)
  clear HK HB HC1 HX hbox hr3 hb3 hbx
  have HK := n0
  have HB := n1
  have HC1 := n2
  clear n0 n1 n2
  go_wp2_with fail
  refine (token_Judge.calls 100 _ 1 [107] _ _ B 1 2 9 0 0 _ HK.out (by decide) HC1.out HL1.out J1.out).mono ?_
  rintro e x1 ⟨rfl, hb⟩
  have n0 := Aside0.mk (Kd.C_below HK.out hb)
  have n1 := Aside0.mk (below_step HB.out hb)
  have n2 := Aside0.mk (Kd.C_below HC1.out hb)
  clear HK HB HC1 hb
  have HK := n0
  have HB := n1
  have HC1 := n2
  clear n0 n1 n2
  go_wp2_with fail
  refine (token_Judge.calls 100 _ 1 [107] _ _ B 1 4 9 0 6 _ HK.out (by decide) HC1.out HL1.out J2.out).mono ?_
  rintro e x2 ⟨rfl, hb⟩
  have n0 := Aside0.mk (Kd.C_below HK.out hb)
  have n1 := Aside0.mk (below_step HB.out hb)
  have n2 := Aside0.mk (Kd.C_below HC1.out hb)
  clear HK HB HC1 hb
  have HK := n0
  have HB := n1
  have HC1 := n2
  clear n0 n1 n2
  go_wp2_with fail
  refine (token_Judge.calls 100 _ 1 [107] _ _ B 1 2 10 0 4 _ HK.out (by decide) HC1.out HL1.out J3.out).mono ?_
  rintro e x3 ⟨rfl, hb⟩
  have n0 := Aside0.mk (Kd.C_below HK.out hb)
  have n1 := Aside0.mk (below_step HB.out hb)
  have n2 := Aside0.mk (Kd.C_below HC1.out hb)
  clear HK HB HC1 hb
  have HK := n0
  have HB := n1
  have HC1 := n2
  clear n0 n1 n2
  go_wp2_with fail
  refine (token_Judge.calls 100 _ 1 [107] _ _ B 2 2 9 0 2 _ HK.out (by decide) HC1.out HL1.out J4.out).mono ?_
  rintro e x4 ⟨rfl, hb⟩
  have n0 := Aside0.mk (Kd.C_below HK.out hb)
  have n1 := Aside0.mk (below_step HB.out hb)
  have n2 := Aside0.mk (Kd.C_below HC1.out hb)
  clear HK HB HC1 hb
  have HK := n0
  have HB := n1
  have HC1 := n2
  clear n0 n1 n2
  go_wp2_with fail
  refine (token_Judge.calls 100 none 0 [] _ _ B 1 2 9 0 3 _ (Kd.C_nil _ _) (by decide) HC1.out HL1.out J5.out).mono ?_
  rintro e x5 ⟨rfl, hb⟩
  have n0 := Aside0.mk (Kd.C_below HK.out hb)
  have n1 := Aside0.mk (below_step HB.out hb)
  have n2 := Aside0.mk (Kd.C_below HC1.out hb)
  clear HK HB HC1 hb
  have HK := n0
  have HB := n1
  have HC1 := n2
  clear n0 n1 n2
  go_wp2_with fail
  refine (token_Judge.calls 100 _ 1 [107] _ _ B 1 2 9 1 5 _ HK.out (by decide) HC1.out HL1.out J6.out).mono ?_
  rintro e x6 ⟨rfl, hb⟩
  have n0 := Aside0.mk (Kd.C_below HK.out hb)
  have n1 := Aside0.mk (below_step HB.out hb)
  have n2 := Aside0.mk (Kd.C_below HC1.out hb)
  clear HK HB HC1 hb
  have HK := n0
  have HB := n1
  have HC1 := n2
  clear n0 n1 n2
  go_wp2_with fail
  have HD := Aside0.mk (show Kd.C (Kd.int .u8) x6 (some ⟨g1, 1, none⟩) (B.drop 1).length (B.drop 1) from by
    have h := Kd.C_drop (m := 1) (c := c1) HC1.out (by omega) HL1.out
    rw [if_neg (by have := HL1.out; have := HL.out; omega)] at h
    have ea : Option.map (fun x : Addr => x.add (1 * (Kd.int .u8).sz)) (some ⟨g1, 0, none⟩) = some ⟨g1, 1, none⟩ := congrArg some (q_add g1 1)
    exact ea ▸ h)
  have hdl : B.length - 1 = (B.drop 1).length := (List.length_drop).symm
  rw [hdl]
  clear hdl
  refine (token_Judge.calls 100 _ 1 [107] (some ⟨g1, 1, none⟩) (c1 - 1) (B.drop 1) 1 2 9 0 1 _ HK.out (by decide) HD.out (by have := HL1.out; rw [List.length_drop]; omega) J7.out).mono ?_
  rintro e x7 ⟨rfl, hb⟩
  have n1 := Aside0.mk (below_step HB.out hb)
  clear HB hb
  go_wp2_with fail
  go_ret
  exact ⟨rfl, n1.out⟩
def fairleadlaw25_heads.f : Option Bool := some true
theorem fairleadlaw25_heads.calls (r : Bool) (w : World) (h : fairleadlaw25_heads.f = some r) : Calls Try.prog 9 #[] w fun e w' => e = .returned (.bool r) ∧ Below w.heap.size w w' := by
  obtain rfl := Option.some.inj h
  exact h25_walk h25_B w h25_len h25_mint h25_read h25_no h25_j1 h25_j2 h25_j3 h25_j4 h25_j5 h25_j6 h25_j7
end Go.Proofs.Ytgkaklpgccjmpaa.Q
