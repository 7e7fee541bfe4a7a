/- Lemmas for RT; a slim copy of this session's texts (slim.py). -/
import Derived.Test.YtejheopcipgmaaaZRTQ0
import Derived.Test.YtejheopcipgmaaaZRTQ3
namespace Go.Proofs.Ytejheopcipgmaaa.Q
open Go.RowKit Go.Proofs.YtejheopcipgmaaaW.PrintWords Go.Proofs.YtejheopcipgmaaaW.PrintLast Go.Proofs.YtejheopcipgmaaaW.PrintMore
attribute [local go_sem] max2_int min2_int max_two min_two max_three min_three max_four min_four   
set_option linter.unusedVariables false
set_option linter.unusedSimpArgs false
theorem ei_typeOf (v : Value) (w : World) : (Extern.ReflectliteType.typeOf #[.iface 100 v]).run Try.prog w = .ok (.iface 113 (.agg #[Go.typeHandle Try.prog 100])) w := by kernel_rfl
def ei_cf : Array Value → Sem Value := Extern.ReflectliteType.method fun t => do Extern.Rtype.noPackHeld "Comparable" t; pure (.bool (← typeInfo t).comparable)
theorem ei_comparable (w : World) : (ei_cf #[.agg #[Go.typeHandle Try.prog 100]]).run Try.prog w = .ok (.bool true) w := by kernel_rfl
theorem ei_methodComparable (n : Nat) (v : Value) (w : World) : (Go.method (n + 1) 113 v "Comparable").run Try.prog w = .ok (92, v) w := by kernel_rfl
theorem ei_comp : (Try.prog.info? 100).map (·.comparable) = some true := by kernel_rfl
theorem ei_noIsE (v : Value) (xT : TypeId) (w : World) : (Instr.typeAssert (.iface 100 v) xT 115 true).run Try.prog w = .ok (.tuple #[.nilIface, .bool false]) w := Go.run_typeAssert_lacksB Try.underlying115 (by kernel_rfl) (by kernel_rfl) v xT w
theorem ei_noUnwrapE (v : Value) (xT : TypeId) (w : World) : (Instr.typeAssert (.iface 100 v) xT 118 true).run Try.prog w = .ok (.tuple #[.nilIface, .bool false]) w := Go.run_typeAssert_lacksB Try.underlying118 (by kernel_rfl) (by kernel_rfl) v xT w
theorem ei_noUnwrapsE (v : Value) (xT : TypeId) (w : World) : (Instr.typeAssert (.iface 100 v) xT 120 true).run Try.prog w = .ok (.tuple #[.nilIface, .bool false]) w := Go.run_typeAssert_lacksB Try.underlying120 (by kernel_rfl) (by kernel_rfl) v xT w
theorem ei_noIsW (v : Value) (xT : TypeId) (w : World) : (Instr.typeAssert (.iface 99 v) xT 115 true).run Try.prog w = .ok (.tuple #[.nilIface, .bool false]) w := Go.run_typeAssert_lacksB Try.underlying115 (by kernel_rfl) (by kernel_rfl) v xT w
theorem ei_hasUnwrapW (v : Value) (xT : TypeId) (w : World) : (Instr.typeAssert (.iface 99 v) xT 118 true).run Try.prog w = .ok (.tuple #[.iface 99 v, .bool true]) w := Go.run_typeAssert_hasB Try.underlying118 (by kernel_rfl) v xT w
theorem ei_methodUnwrap (n : Nat) (v : Value) (w : World) : (Go.method (n + 1) 99 v "Unwrap").run Try.prog w = .ok (87, v) w := by kernel_rfl
set_option maxRecDepth 100000 in
theorem ei_nil (k : Int) (w : World) : Calls Try.prog 64 #[.nilIface, .iface 100 (.int .i64 k)] w fun e w' => e = .returned (.bool false) ∧ w' = w := by
  have hn := run_eql_iface_nil_left (P := Try.prog) w 100 (.int .i64 k) Try.underlying81
  go_enter Try.func64, Try.ntmps64
  go_wp2
  go_ret
  exact ⟨rfl, rfl⟩
set_option maxRecDepth 100000 in
theorem ei_wraps (b : Nat) (c k : Int) (w : World) (h1 : w.cell? ⟨b, 1, none⟩ = some (.int .i64 c)) :
    Calls Try.prog 64 #[.iface 99 (.pointer (some ⟨b, 0, none⟩)), .iface 100 (.int .i64 k)] w fun e w' => e = .returned (.bool (c == k)) ∧ w' = w := by
  have h8 := @run_callFunc_extern Try.prog 67 _ Extern.ReflectliteType.typeOf Try.func67 (by kernel_rfl) (by kernel_rfl) (by kernel_rfl) (by kernel_rfl)
  have h32 := @run_callFunc_extern Try.prog 92 _ ei_cf Try.func92 (by kernel_rfl) (by kernel_rfl) (by kernel_rfl) (by kernel_rfl)
  have tT := ei_typeOf
  have cT := ei_comparable
  have mR := ei_methodComparable 253
  have nE := ei_noIsE
  have uE := ei_noUnwrapE
  have vE := ei_noUnwrapsE
  have nW := ei_noIsW
  have uW := ei_hasUnwrapW
  have mU := ei_methodUnwrap 253
  have heq := fun w => Go.Lib.run_eql_iface_int (P := Try.prog) (t := 81) (tx := 100) (k := .i64) w c k Try.underlying81 ei_comp Try.underlying100
  have hty := run_eql_iface_types (P := Try.prog) 99 100 (.pointer (some ⟨b, 0, none⟩)) (.int .i64 k) Try.underlying81 (by decide) w
  go_enter Try.func64, Try.ntmps64
  go_wp2
  refine wp_loop_rounds 2 ?_
  rw [rounds_succ]
  go_wp2
  rw [rounds_succ]
  cases hck : (c == k)
  · rw [hck] at heq
    go_wp2
    go_ret
    exact ⟨congrArg (fun x => Ending.returned (.bool x)) hck.symm, rfl⟩
  · rw [hck] at heq
    go_wp2
    go_ret
    exact ⟨congrArg (fun x => Ending.returned (.bool x)) hck.symm, rfl⟩
set_option maxHeartbeats 4000000 in
set_option maxRecDepth 100000 in
theorem errno_calls (c : Int) (v : Value) (w : World) (h : RErr w c v) (hc : c = 0 ∨ c = 30 ∨ c = 140) :
    Calls Try.prog 56 #[v] w fun e w' => e = .returned (.int .i64 c) ∧ Below w.heap.size w w' := by
  rcases h with ⟨rfl, rfl⟩ | ⟨h0, b, a, rfl, hb⟩
  · go_enter Try.func56, Try.ntmps56
    go_wp2_with fail
    refine wp_loop_rounds 3 ?_
    iterate 3 (try (rw [rounds_succ]; go_wp2_with (go_at_call 64; refine (ei_nil _ _).mono ?_; rintro e w' ⟨rfl, rfl⟩)))
    go_ret
    exact ⟨rfl, below_alloc (Below.refl _ _) _⟩
  · have HB := Aside0.mk hb
    clear hb
    have hc : c = 30 ∨ c = 140 := by omega
    clear h0
    rcases hc with rfl | rfl
    all_goals
      go_enter Try.func56, Try.ntmps56
      go_wp2_with fail
      refine wp_loop_rounds 3 ?_
      iterate 3 (try (rw [rounds_succ]; go_wp2_with (go_at_call 64; refine (ei_wraps _ _ _ _ ((blk_cell (blk_alloc HB.out _) 1).trans rfl)).mono ?_; rintro e w' ⟨rfl, rfl⟩)))
      go_ret
      exact ⟨rfl, below_alloc (Below.refl _ _) _⟩
theorem rerr_below {w w1 : World} {r : Int} {v : Value} (h : RErr w r v) (hb : Below w.heap.size w w1) : RErr w1 r v := by
  rcases h with h | ⟨h0, b, a, rfl, hh⟩
  · exact .inl h
  · exact .inr ⟨h0, b, a, rfl, blk_below hh hb⟩
theorem rerr_drew {w : World} {r : Int} {v : Value} (h : RErr w r v) : RErr w.drew r v := by
  rcases h with h | ⟨h0, b, a, rfl, hh⟩
  · exact .inl h
  · exact .inr ⟨h0, b, a, rfl, blk_drew hh⟩
theorem record_next.range_j {k : Nat} {a0 : Int} {l1 : List Int} {x : Int} {b : Bool} {r1 : Int} {r2 : List Int} {r3 r4 : Int} (h : record_next.j0 k a0 l1 x b = some (r1, r2, r3, r4)) : r4 = 0 ∨ r4 = 30 ∨ r4 = 140 := by
  cases k with
  | zero => simp [record_next.j0] at h
  | succ k =>
    rw [record_next.j0] at h
    repeat' (first | (split at h) | (rw [Option.bind_eq_some_iff] at h; obtain ⟨_, _, h⟩ := h))
    all_goals first | (simp only [Option.some.injEq, Prod.mk.injEq] at h; omega) | (simp at h; done)
theorem record_next.range {k : Nat} {a0 : Int} {l1 : List Int} {r1 : Int} {r2 : List Int} {r3 r4 : Int} (h : record_next.f k a0 l1 = some (r1, r2, r3, r4)) : r4 = 0 ∨ r4 = 30 ∨ r4 = 140 := by
  unfold record_next.f at h
  repeat' (first | (exact record_next.range_j h) | (split at h) | (rw [Option.bind_eq_some_iff] at h; obtain ⟨_, _, h⟩ := h))
  all_goals first | (simp only [Option.some.injEq, Prod.mk.injEq] at h; omega) | (simp at h; done)
def record_Next.f (k : Nat) (a0 : Int) (l1 : List Int) : Option (Int × List Int × Int × Int) := record_next.f k a0 l1
set_option maxHeartbeats 4000000 in
set_option maxRecDepth 100000 in
theorem record_Next.calls (k : Nat) (a0 : Int) (A1 : Option Addr) (c1 : Nat) (l1 : List Int) (r1 : Int) (r2 : List Int) (r3 : Int) (r4 : Int) (w : World) (hr1 : Kd.C (Kd.int .u8) w A1 l1.length l1) (hc1 : l1.length ≤ c1) (h : record_Next.f k a0 l1 = some (r1, r2, r3, r4)) :
    Calls Try.prog 42 #[.int .u64 a0, .slice A1 l1.length c1] w fun e w' => ∃ v1_ : Value, e = .returned (.tuple #[.agg #[.int .i64 r1, v1_], .int .i64 r3, .int .i64 r4]) ∧ Kd.R (Kd.int .u8) 5 w' w.heap.size (fun _ => True) v1_ r2 ∧ Below w.heap.size w w' := by
  have hg := Aside0.mk (record_next.range h)
  have hu25 := Try.underlying25
  have HR := Aside0.mk hr1
  have HC := Aside0.mk hc1
  have HN := Aside0.mk h
  clear hr1 hc1 h
  go_enter Try.func42, Try.ntmps42
  go_wp2_with fail
  refine (record_next.calls k a0 _ _ l1 r1 r2 r3 r4 _ (Kd.C_alloc HR.out _) HC.out HN.out).mono ?_
  rintro e w1 ⟨v1, ev, rfl, hE, hr, hb⟩
  obtain ⟨Ar, cr, rfl⟩ := Kd.R_slice hr
  have BK := Aside0.mk (blk_below (heap_alloc_new w (.cells #[.int .i64 0, .slice none 0 0] 25)) hb)
  have HE1 := Aside0.mk hE
  have HR1 := Aside0.mk (show Kd.R (Kd.int .u8) 5 w1 w.heap.size (fun k_ => k_ ≠ w.heap.size) (.slice Ar r2.length cr) r2 from Kd.R_lower (Kd.R_mono (Kd.R_bound hr) (fun k hk => by have h1 := hk.2.1; simp at h1; omega)) (by simp))
  have HB1 := Aside0.mk (show Below w.heap.size w w1 from below_step (below_alloc (Below.refl _ _) _) hb)
  clear hE hr hb
  go_wp2_with fail
  have KR := Aside0.mk (heap_alloc_new w1 (.cells #[.int .i64 r1, .slice Ar r2.length cr] 25))
  have KW := Aside0.mk (blk_alloc BK.out (.cells #[.int .i64 r1, .slice Ar r2.length cr] 25))
  have HRr := Aside0.mk (Kd.R_alloc HR1.out (.cells #[.int .i64 r1, .slice Ar r2.length cr] 25))
  have HE := Aside0.mk (rerr_below HE1.out (below_alloc (Below.refl _ _) (.cells #[.int .i64 r1, .slice Ar r2.length cr] 25)))
  have HB := Aside0.mk (below_alloc HB1.out (.cells #[.int .i64 r1, .slice Ar r2.length cr] 25))
  clear BK HE1 HR1 HB1
  refine start_ (n := 7) (S := fun w' => w'.cell? ⟨w1.heap.size, 0, none⟩ = some (.int .i64 r1) ∧ w'.cell? ⟨w1.heap.size, 1, none⟩ = some (.slice Ar r2.length cr) ∧ w'.cell? ⟨w.heap.size, 0, none⟩ = some (.int .i64 0) ∧ w'.cell? ⟨w.heap.size, 1, none⟩ = some (.slice none 0 0) ∧ w'.frozen? ⟨w.heap.size, 0, none⟩ = false ∧ w'.frozen? ⟨w.heap.size, 1, none⟩ = false ∧ Aside0 (w'.heap[w1.heap.size]? = some (.cells #[.int .i64 r1, .slice Ar r2.length cr] 25 (0, 0))) ∧ Aside0 (w'.heap[w.heap.size]? = some (.cells #[.int .i64 0, .slice none 0 0] 25 (0, 0))) ∧ Aside0 (Kd.R (Kd.int .u8) 5 w' w.heap.size (fun k_ => k_ ≠ w.heap.size) (.slice Ar r2.length cr) r2) ∧ Aside0 (RErr w' r4 ev) ∧ Aside0 (Below w.heap.size w w')) (ds := [4]) #[false, false, false, false, false, false, false] (by kernel_rfl) rfl rfl ⟨(blk_cell (blk_drew KR.out) 0).trans rfl, (blk_cell (blk_drew KR.out) 1).trans rfl, (blk_cell (blk_drew KW.out) 0).trans rfl, (blk_cell (blk_drew KW.out) 1).trans rfl, blk_frozen (blk_drew KW.out) 0, blk_frozen (blk_drew KW.out) 1, ⟨blk_drew KR.out⟩, ⟨blk_drew KW.out⟩, ⟨Kd.R_drew HRr.out⟩, ⟨rerr_drew HE.out⟩, ⟨below_drew HB.out⟩⟩ (fun hHeld => ?_)
  refine pure_ (i := 1) (N := some 18) (v := ?_) (a' := ?_) #[false, true, false, false, false, false, false] rfl rfl (by kernel_rfl) (fun _ _ _ h => h) (Or.inl ⟨by rfl, ?_⟩) ?_ ?_
  rotate_left
  · intro w'
    go_simp
    with_reducible rfl
  rotate_left
  · simp only [Act.put, List.setIfInBounds_toArray, List.set_cons_zero, List.set_cons_succ, i64_w, i32_w]
    rfl
  refine pure_ (i := 2) (N := some 19) (v := ?_) (a' := ?_) #[false, true, true, false, false, false, false] rfl rfl (by kernel_rfl) (fun _ _ _ h => h) (Or.inl ⟨by rfl, ?_⟩) ?_ ?_
  rotate_left
  · intro w'
    go_simp
    with_reducible rfl
  rotate_left
  · simp only [Act.put, List.setIfInBounds_toArray, List.set_cons_zero, List.set_cons_succ, i64_w, i32_w]
    rfl
  refine take_ (i := 0) (N := some 17) (v := ?_) (a' := ?_) #[true, true, true, false, false, false, false] rfl rfl (by kernel_rfl) (fun _ _ _ h => h) (Or.inl ⟨by rfl, ?_⟩) hHeld ?_ ?_
  rotate_left
  · rintro w' ⟨s0, s1, s2, s3, s4, s5, s6, s7, s8, s9, s10⟩
    go_simp
    with_reducible rfl
  rotate_left
  · simp only [Act.put, List.setIfInBounds_toArray, List.set_cons_zero, List.set_cons_succ, i64_w, i32_w]
    rfl
  refine one_ (i := 3) (N := some 20) #[true, true, true, true, false, false, false] rfl rfl (by kernel_rfl) (by decide) (fun K hK => ?_)
  refine goes_ Try.func56 (by kernel_rfl) rfl #[ev] (by rfl) rfl rfl (by simp only [List.map_toArray, List.map_cons, List.map_nil]; rfl) ?_
  with_reducible refine (errno_calls r4 ev _ (hHeld.2.2.2.2.2.2.2.2.2.1).out hg.out).mono ?_
  rintro e w3 ⟨rfl, hb⟩
  refine ⟨_, rfl, ?_⟩
  refine hK.out _ _ ⟨(blk_cell (blk_below (hHeld.2.2.2.2.2.2.1).out hb) 0).trans rfl, (blk_cell (blk_below (hHeld.2.2.2.2.2.2.1).out hb) 1).trans rfl, (blk_cell (blk_below (hHeld.2.2.2.2.2.2.2.1).out hb) 0).trans rfl, (blk_cell (blk_below (hHeld.2.2.2.2.2.2.2.1).out hb) 1).trans rfl, blk_frozen (blk_below (hHeld.2.2.2.2.2.2.2.1).out hb) 0, blk_frozen (blk_below (hHeld.2.2.2.2.2.2.2.1).out hb) 1, ⟨(blk_below (hHeld.2.2.2.2.2.2.1).out hb)⟩, ⟨(blk_below (hHeld.2.2.2.2.2.2.2.1).out hb)⟩, ⟨Kd.R_below (hHeld.2.2.2.2.2.2.2.2.1).out hb⟩, ⟨rerr_below (hHeld.2.2.2.2.2.2.2.2.2.1).out hb⟩, ⟨below_step (hHeld.2.2.2.2.2.2.2.2.2.2).out hb⟩⟩ (fun hHeld => ?_)
  clear hK K
  refine norm_ (a' := ?_) ?_ ?_
  rotate_left
  · show Act.put _ (some 20) _ = _
    simp only [Act.put, List.setIfInBounds_toArray, List.set_cons_zero, List.set_cons_succ, i64_w, i32_w]
    rfl
  refine last_ (i := 4) (N := none) #[true, true, true, true, true, false, false] rfl rfl (by kernel_rfl) (by decide) (fun K hK => ?_)
  refine skip_ (w1 := ?_) (by rfl) rfl ?_ ?_
  rotate_left
  · go_simp
    rfl
  refine hK.out _ _ ?_
  clear hK K
  refine pure_ (i := 5) (N := some 5) (v := ?_) (a' := ?_) #[true, true, true, true, true, true, false] rfl rfl (by kernel_rfl) (fun _ _ _ h => h) (Or.inl ⟨by rfl, ?_⟩) ?_ ?_
  rotate_left
  · intro w'
    go_simp
    with_reducible rfl
  rotate_left
  · simp only [Act.put, List.setIfInBounds_toArray, List.set_cons_zero, List.set_cons_succ, i64_w, i32_w]
    rfl
  refine pure_ (i := 6) (N := some 6) (v := ?_) (a' := ?_) #[true, true, true, true, true, true, true] rfl rfl (by kernel_rfl) (fun _ _ _ h => h) (Or.inl ⟨by rfl, ?_⟩) ?_ ?_
  rotate_left
  · intro w'
    go_simp
    with_reducible rfl
  rotate_left
  · simp only [Act.put, List.setIfInBounds_toArray, List.set_cons_zero, List.set_cons_succ, i64_w, i32_w]
    rfl
  refine done_ (by kernel_rfl) ?_
  go_wp2
  have hh := hHeld
  obtain ⟨-, -, -, -, -, -, -, KW, HRr, -, HB⟩ := hHeld
  refine bodyPost_ret (results_ctt rfl _ _ w.heap.size 25 #[.int .i64 r1, .slice Ar r2.length cr] (0, 0) _ rfl (blk_put (cs := #[.int .i64 r1, .slice none 0 0]) (blk_put (cs := #[.int .i64 0, .slice none 0 0]) KW.out 0 _ rfl) 1 _ rfl) Try.underlying25 rfl (by kernel_rfl)) rfl ?_
  exact ⟨_, rfl, Kd.R_mono (Kd.R_far (p := ⟨w.heap.size, 1, none⟩) (Kd.R_far (p := ⟨w.heap.size, 0, none⟩) HRr.out (fun _ hk => hk) _) (fun _ hk => hk) _) (fun _ _ => trivial), below_set (below_set HB.out (Nat.le_refl _)) (Nat.le_refl _)⟩
end Go.Proofs.Ytejheopcipgmaaa.Q
