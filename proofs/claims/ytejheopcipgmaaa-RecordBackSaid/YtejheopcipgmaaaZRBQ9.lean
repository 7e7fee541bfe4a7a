/- Lemmas for RB; a slim copy of this session's texts (slim.py). -/
import Derived.Test.YtejheopcipgmaaaZRBQ0
import Derived.Test.YtejheopcipgmaaaZRBQ2
import Derived.Test.YtejheopcipgmaaaZRBQ4
import Derived.Test.YtejheopcipgmaaaZRBQ8
namespace Go.Proofs.Ytejheopcipgmaaa.Q
open Go.RowKit Go.Proofs.YtejheopcipgmaaaW.PrintWords Go.Proofs.YtejheopcipgmaaaW.PrintLast Go.Proofs.YtejheopcipgmaaaW.PrintMore
attribute [local go_sem] max2_int min2_int max_two min_two max_three min_three max_four min_four   
set_option linter.unusedVariables false
set_option linter.unusedSimpArgs false
mutual
def fairleadlaw14_RecordBack.l0 : Nat → Int → List (S25) → Int → List Int → List Int → Int → Option (Bool)
  | 0, _, _, _, _, _, _ => none
  | k + 1, x0, x1, x2, x7, x8, x9 => if x9 < (x1.length : Int) then (if 0 ≤ x9 then ((record_Frame.f k x0 ((rd_T25 x1 x9).f0) ((rd_T25 x1 x9).f1)).bind fun bt318 => (if bt318.2 = 0 then (if (((rd_T25 x1 x9).f1).length : Int) > 300 then ((fairleadlaw14_heads.f k).bind fun t323 => (some t323)) else (if x7.length + bt318.1.length < 140737488355328 then ((some (x7 ++ bt318.1 : List Int)).bind fun y324 => (if x8.length < 17592186044416 then (fairleadlaw14_RecordBack.l0 k x0 x1 x2 y324 (x8 ++ [(y324.length : Int)]) (wrap64 (x9 + 1))) else (none))) else (none))) else ((fairleadlaw14_heads.f k).bind fun t330 => (some t330)))) else (none)) else ((record_Scan.f k x0 x7).bind fun bt331 => ((fairleadref14_Same.f k bt331.1 x1).bind fun t335 => (if t335 = true then (fairleadlaw14_RecordBack.j1 k x0 x1 x2 x7 x8 (bt331.2 != (x7.length : Int))) else (fairleadlaw14_RecordBack.j1 k x0 x1 x2 x7 x8 true))))
def fairleadlaw14_RecordBack.j1 : Nat → Int → List (S25) → Int → List Int → List Int → Bool → Option (Bool)
  | 0, _, _, _, _, _, _ => none
  | k + 1, x0, x1, x2, x7, x8, x70 => if x70 = true then (some false) else (if x2 < 0 then (fairleadlaw14_RecordBack.j2 k x0 x1 x2 x7 x8 true) else (fairleadlaw14_RecordBack.j2 k x0 x1 x2 x7 x8 (decide (x2 > (x7.length : Int)))))
def fairleadlaw14_RecordBack.j2 : Nat → Int → List (S25) → Int → List Int → List Int → Bool → Option (Bool)
  | 0, _, _, _, _, _, _ => none
  | k + 1, x0, x1, x2, x7, x8, x78 => if x78 = true then ((fairleadlaw14_heads.f k).bind fun t336 => (some t336)) else (fairleadlaw14_RecordBack.l1 k x0 x1 x2 x7 x8 0)
def fairleadlaw14_RecordBack.l1 : Nat → Int → List (S25) → Int → List Int → List Int → Int → Option (Bool)
  | 0, _, _, _, _, _, _ => none
  | k + 1, x0, x1, x2, x7, x8, x14 => if (wrap64 (x14 + 1)) < (x8.length : Int) then (if 0 ≤ (wrap64 (x14 + 1)) then (if (rd x8 (wrap64 (x14 + 1))) ≤ x2 then (fairleadlaw14_RecordBack.l1 k x0 x1 x2 x7 x8 (wrap64 (x14 + 1))) else (if 0 ≤ x2 then (if x2 ≤ (x7.length : Int) then ((record_Scan.f k x0 (x7.take (x2 : Int).toNat)).bind fun bt342 => (if 0 ≤ x14 then (if x14 ≤ (x1.length : Int) then ((fairleadref14_Same.f k bt342.1 (x1.take (x14 : Int).toNat)).bind fun t350 => (if t350 = true then (if x14 < (x8.length : Int) then (if bt342.2 = (rd x8 x14) then ((fairleadlaw14_heads.f k).bind fun t352 => (some t352)) else (some false)) else (none)) else (some false))) else (none)) else (none))) else (none)) else (none))) else (none)) else (if 0 ≤ x2 then (if x2 ≤ (x7.length : Int) then ((record_Scan.f k x0 (x7.take (x2 : Int).toNat)).bind fun bt357 => (if 0 ≤ x14 then (if x14 ≤ (x1.length : Int) then ((fairleadref14_Same.f k bt357.1 (x1.take (x14 : Int).toNat)).bind fun t365 => (if t365 = true then (if x14 < (x8.length : Int) then (if bt357.2 = (rd x8 x14) then ((fairleadlaw14_heads.f k).bind fun t367 => (some t367)) else (some false)) else (none)) else (some false))) else (none)) else (none))) else (none)) else (none))
end
def fairleadlaw14_RecordBack.f (k : Nat) (a0 : Int) (l1 : List (S25)) (a2 : Int) : Option (Bool) := if (l1.length : Int) > 30 then ((fairleadlaw14_heads.f k).bind fun t313 => (some t313)) else (fairleadlaw14_RecordBack.l0 k a0 l1 a2 ([] : List Int) (([0] : List Int)) 0)
set_option maxHeartbeats 8000000 in
set_option maxRecDepth 100000 in
theorem fairleadlaw14_RecordBack.calls (k : Nat) (a0 : Int) (A1 : Option Addr) (c1 : Nat) (l1 : List (S25)) (a2 : Int) (r : Bool) (w : World) (hr1 : Kd.C k25 w A1 l1.length l1) (hc1 : l1.length ≤ c1) (h : fairleadlaw14_RecordBack.f k a0 l1 a2 = some r) :
    Calls Try.prog 4 #[.int .u64 a0, .slice A1 l1.length c1, .int .i64 a2] w fun e w' => e = .returned (.bool r) ∧ Below w.heap.size w w' := by
  have hu25 := Try.underlying25
  have HR1 := Aside0.mk hr1
  have HC1 := Aside0.mk hc1
  clear hr1 hc1
  have HB := Aside0.mk (Below.refl w.heap.size w)
  have H : (if (l1.length : Int) > 30 then ((fairleadlaw14_heads.f k).bind fun t313 => (some t313)) else (fairleadlaw14_RecordBack.l0 k a0 l1 a2 ([] : List Int) (([0] : List Int)) 0)) = some r := h
  clear h
  by_cases c4 : (l1.length : Int) > 30
  · rw [if_pos c4] at H
    have c4b0 : decide (30 < (l1.length : Int)) = true := decide_eq_true c4
    have c4b1 : decide (30 < l1.length) = true := decide_eq_true (by omega)
    clear c4
    replace H := Option.bind_eq_some_iff.mp H
    obtain ⟨t313, A50, H⟩ := H
    replace H : (some t313) = some r := H
    have A5 := Aside0.mk A50
    clear A50
    obtain rfl := Option.some.inj H
    go_enter Try.func4, Try.ntmps4
    go_wp2_with (first | ((with_reducible refine gate_callee (f := 12) rfl ?_); refine goesL_ (some 18) rfl rfl Try.func12 (by kernel_rfl) rfl #[] rfl (by (try simp only [List.map_toArray, List.map_cons, List.map_nil]); first | done | rfl | (simp only [List.length_drop, List.length_take]; rfl)) ?_; (with_reducible refine (fairleadlaw14_heads.calls k  t313 _ A5.out).mono ?_); rintro e w6 ⟨rfl, hb⟩; refine ⟨_, rfl, ?_⟩; have n0_ := Aside0.mk (below_step (by repeat (first | (with_reducible first | exact HB.out | apply below_alloc | apply pw_below_drewN | apply below_drew1) | exact HB.out)) hb); clear HB; have HB := n0_; clear n0_; (try clear hb); (try clear hb2); (try clear hk); (try clear hi)))
    go_ret
    exact ⟨by first | rfl | (simp [errW_none, errW_some] <;> rfl) | (simp [*, errW_none, errW_some] <;> rfl), by repeat (first | (with_reducible first | exact HB.out | apply below_alloc | apply pw_below_drewN | apply below_drew1) | exact HB.out)⟩
  · rw [if_neg c4] at H
    have c4b0 : decide (30 < (l1.length : Int)) = false := decide_eq_false c4
    have c4b1 : decide (30 < l1.length) = false := decide_eq_false (by omega)
    clear c4
    obtain ⟨y314, hy314⟩ : ∃ y_ : List Int, y_ = (([0] : List Int)) := ⟨_, rfl⟩
    replace H : (fairleadlaw14_RecordBack.l0 k a0 l1 a2 ([] : List Int) y314 0) = some r := by first | (rw [hy314]; with_reducible exact H) | (have H2_ := (Option.bind_some _ _).symm.trans H; rw [hy314]; with_reducible exact H2_) | (have H2_ := (Option.bind_some _ _).symm.trans H; with_reducible exact H2_) | with_reducible exact H | (rw [hy314]; exact H) | exact H
    have Ny314 := Aside0.mk hy314
    clear hy314
    have H' := Aside0.mk H
    clear H
    go_enter Try.func4, Try.ntmps4
    go_wp2_with (first | ((with_reducible refine gate_dst (N := 19) rfl ?_); (try (refine gate_guard (by rfl) ?_; dsimp only)); refine Kd.R_lit (Kd.int .i64) _ 3 ?hg (N := 19) ?hd (xs := ([0] : List Int)) (inner := [.int .i64 0]) (ok := fun _ => True) (okp := fun _ => True) ?hr ?hp (fun _ hk => hk) trivial (Below.refl _ _) (Nat.le_refl _) (by simp) ?_; (case hd => rfl); (case hg => rfl); (case hr => first | (go_simp; done) | (go_simp; rfl) | (go_simp; simp only [q_w8, q_w16, q_w32, q_max8, q_max16, q_max32, q_max64]; done) | (go_simp; simp only [q_w8, q_w16, q_w32, q_max8, q_max16, q_max32, q_max64]; rfl) | (go_simp; simp [q_w8, q_w16, q_w32, q_max8, q_max16, q_max32, q_max64]; done)); (case hp => exact (Reps.one (show Kd.M (Kd.int .i64) _ _ _ 0 [.int .i64 0] from rfl) (Reps.none _ _))); intro v315 w7 ho8 hb hg_ hnew_; clear hg_ hnew_; (first | rw [← Ny314.out] at ho8 | (simp only [Int.reduceToNat] at ho8; rw [← Ny314.out] at ho8)); have n0_ := Aside0.mk (Kd.R_lower ho8 (below_size (by repeat (first | (with_reducible first | exact HB.out | apply below_alloc | apply pw_below_drewN | apply below_drew1) | exact HB.out)))); have n1_ := Aside0.mk (below_step (by repeat (first | (with_reducible first | exact HB.out | apply below_alloc | apply pw_below_drewN | apply below_drew1) | exact HB.out)) hb); clear HB; have HO316 := n0_; have HB := n1_; clear n0_ n1_; clear hb ho8))
    go_loopg [7, 8, 9] k (fun kq v7 v8 v9 w' => ∃ (x7_1 : List Int) (x8_1 : List Int) (x9_1 : Int), v9 = .int .i64 x9_1 ∧ Aside0 (fairleadlaw14_RecordBack.l0 kq a0 l1 a2 x7_1 x8_1 x9_1 = some r) ∧ Aside0 (kq ≤ k) ∧ Aside0 (Kd.R (Kd.int .u8) 5 w' w.heap.size (fun _ => True) v7 x7_1) ∧ Aside0 (Kd.R (Kd.int .i64) 3 w' w.heap.size (fun _ => True) v8 x8_1) ∧ Aside0 (Below w.heap.size w w'))
    case atStart => exact ⟨(([] : List Int)), (y314), (0), (by first | rfl | (simp; done) | (simp [*]; done)), H', ⟨Nat.le_refl _⟩, ⟨by first | exact Kd.R_nil _ _ _ _ _ | exact Kd.N_nil _ _ _ _ _ | exact Kd.V_nil _ _ _ _ _ | exact Kd.Q_nil _ _ _ _ _ | exact Kd.S_nil _ _ _ _ _⟩, ⟨by (with_reducible repeat (first | apply Kd.R_alloc | apply Kd.R_drewN | apply Kd.R_drew)); exact HO316.out⟩, ⟨by repeat (first | (with_reducible first | exact HB.out | apply below_alloc | apply pw_below_drewN | apply below_drew1) | exact HB.out)⟩⟩
    case round =>
      clear H'
      try clear c1
      try clear p2
      try clear c4
      try clear c4b0
      try clear c4b1
      obtain ⟨x7_1, x8_1, x9_1, rfl, HA, HK1, HO_7, HO_8, HB⟩ := hrel
      cases gk with
      | zero => exact absurd HA.out (by simp [fairleadlaw14_RecordBack.l0])
      | succ k1 =>
        have H := HA.out
        clear HA
        simp only [fairleadlaw14_RecordBack.l0] at H
        by_cases c9 : x9_1 < (l1.length : Int)
        · rw [if_pos c9] at H
          have c9b0 : decide (x9_1 < (l1.length : Int)) = true := decide_eq_true c9
          clear c9
          by_cases c10 : 0 ≤ x9_1
          · rw [if_pos c10] at H
            have c10b0 : decide (0 ≤ x9_1) = true := decide_eq_true c10
            clear c10
            replace H := Option.bind_eq_some_iff.mp H
            obtain ⟨⟨t318, t321⟩, A110, H⟩ := H
            replace H : (if t321 = 0 then (if (((rd_T25 l1 x9_1).f1).length : Int) > 300 then ((fairleadlaw14_heads.f k1).bind fun t323 => (some t323)) else (if x7_1.length + t318.length < 140737488355328 then ((some (x7_1 ++ t318 : List Int)).bind fun y324 => (if x8_1.length < 17592186044416 then (fairleadlaw14_RecordBack.l0 k1 a0 l1 a2 y324 (x8_1 ++ [(y324.length : Int)]) (wrap64 (x9_1 + 1))) else (none))) else (none))) else ((fairleadlaw14_heads.f k1).bind fun t330 => (some t330))) = some r := H
            have A11 := Aside0.mk A110
            clear A110
            by_cases c12 : t321 = 0
            · rw [if_pos c12] at H
              have c12b0 : (t321 == 0) = true := beq_iff_eq.mpr c12
              have c12b1 : (t321 != 0) = false := bne_eq_false_iff_eq.mpr c12
              clear c12
              by_cases c13 : (((rd_T25 l1 x9_1).f1).length : Int) > 300
              · rw [if_pos c13] at H
                have c13b0 : decide (300 < (((rd_T25 l1 x9_1).f1).length : Int)) = true := decide_eq_true c13
                have c13b1 : decide (300 < ((rd_T25 l1 x9_1).f1).length) = true := decide_eq_true (by omega)
                clear c13
                replace H := Option.bind_eq_some_iff.mp H
                obtain ⟨t323, A140, H⟩ := H
                replace H : (some t323) = some r := H
                have A14 := Aside0.mk A140
                clear A140
                obtain rfl := Option.some.inj H
                have p317 : 0 ≤ (x9_1 : Int) := of_decide_eq_true (by first | (with_reducible assumption) | assumption)
                have q317 : x9_1 < (l1.length : Int) := of_decide_eq_true (by first | (with_reducible assumption) | assumption)
                obtain ⟨ad317, A317_1, c317_1, e317, hx317_0, hx317_1, hl317_1, hi317_1⟩ := at_T25 HR1.out x9_1 p317 q317
                cases e317
                replace hx317_0 := (HB.out.cell (World.block_lt_of_cell? w _ hx317_0)).trans hx317_0
                replace hx317_1 := (HB.out.cell (World.block_lt_of_cell? w _ hx317_1)).trans hx317_1
                have HR317_1 := Aside0.mk hi317_1
                have HC317_1 := Aside0.mk hl317_1
                clear hi317_1 hl317_1
                replace p317 := eq_true p317
                replace q317 := eq_true q317
                go_wp2_with (first | ((with_reducible refine gate_callee (f := 13) rfl ?_); refine goesL_ (some 32) rfl rfl Try.func13 (by kernel_rfl) rfl #[.int .u64 a0, .agg #[.int .i64 ((rd_T25 l1 x9_1).f0), .slice A317_1 ((rd_T25 l1 x9_1).f1).length c317_1]] rfl (by (try simp only [List.map_toArray, List.map_cons, List.map_nil]); first | done | rfl | (simp only [List.length_drop, List.length_take]; rfl)) ?_; (with_reducible refine (record_Frame.calls k1 a0 ((rd_T25 l1 x9_1).f0) _ _ ((rd_T25 l1 x9_1).f1) t318 t321 _ ?side1 ?side2 A11.out).mono ?_); (case side1 => repeat (first | exact (Kd.C_below HR317_1.out HB.out) | (with_reducible refine Kd.C_alloc ?_ _) | (with_reducible refine Kd.C_drewN ?_ _) | (with_reducible refine Kd.C_drew ?_))); (case side2 => exact HC317_1.out); rintro e w15 ⟨v319, rfl, ho0, hb⟩; refine ⟨_, rfl, ?_⟩; have n0_ := Aside0.mk (Kd.R_elder' (by (with_reducible repeat (first | apply Kd.R_alloc | apply Kd.R_drewN | apply Kd.R_drew)); exact HO_7.out) (Kd.R_base ho0) hb); have n1_ := Aside0.mk (Kd.R_below (by (with_reducible repeat (first | apply Kd.R_alloc | apply Kd.R_drewN | apply Kd.R_drew)); exact HO_8.out) hb); have n2_ := Aside0.mk (Kd.R_lower (Kd.R_new' ho0 (Kd.R_lt (by (with_reducible repeat (first | apply Kd.R_alloc | apply Kd.R_drewN | apply Kd.R_drew)); exact HO_7.out))) (below_size (by repeat (first | (with_reducible first | exact HB.out | apply below_alloc | apply pw_below_drewN | apply below_drew1) | exact HB.out)))); have n3_ := Aside0.mk (below_step (by repeat (first | (with_reducible first | exact HB.out | apply below_alloc | apply pw_below_drewN | apply below_drew1) | exact HB.out)) hb); clear HO_7; clear HO_8; clear HB; have HO_7 := n0_; have HO_8 := n1_; have HO320 := n2_; have HB := n3_; clear n0_ n1_ n2_ n3_; (try clear hb); (try clear hb2); (try clear hk); (try clear hi); (try clear ho0); have p322 : 0 ≤ (x9_1 : Int) := of_decide_eq_true (by first | (with_reducible assumption) | assumption); have q322 : x9_1 < (l1.length : Int) := of_decide_eq_true (by first | (with_reducible assumption) | assumption); obtain ⟨ad322, A322_1, c322_1, e322, hx322_0, hx322_1, hl322_1, hi322_1⟩ := at_T25 HR1.out x9_1 p322 q322; obtain rfl : ad317 = ad322 := (by injection e322); replace hx322_0 := (HB.out.cell (World.block_lt_of_cell? w _ hx322_0)).trans hx322_0; replace hx322_1 := (HB.out.cell (World.block_lt_of_cell? w _ hx322_1)).trans hx322_1; have HR322_1 := Aside0.mk hi322_1; have HC322_1 := Aside0.mk hl322_1; clear hi322_1 hl322_1; replace p322 := eq_true p322; replace q322 := eq_true q322) | ((with_reducible refine gate_callee (f := 12) rfl ?_); refine goesL_ (some 46) rfl rfl Try.func12 (by kernel_rfl) rfl #[] rfl (by (try simp only [List.map_toArray, List.map_cons, List.map_nil]); first | done | rfl | (simp only [List.length_drop, List.length_take]; rfl)) ?_; (with_reducible refine (fairleadlaw14_heads.calls k1  t323 _ A14.out).mono ?_); rintro e w16 ⟨rfl, hb⟩; refine ⟨_, rfl, ?_⟩; have n0_ := Aside0.mk (Kd.R_below (by (with_reducible repeat (first | apply Kd.R_alloc | apply Kd.R_drewN | apply Kd.R_drew)); exact HO_7.out) hb); have n1_ := Aside0.mk (Kd.R_below (by (with_reducible repeat (first | apply Kd.R_alloc | apply Kd.R_drewN | apply Kd.R_drew)); exact HO_8.out) hb); have n2_ := Aside0.mk (Kd.R_below (by (with_reducible repeat (first | apply Kd.R_alloc | apply Kd.R_drewN | apply Kd.R_drew)); exact HO320.out) hb); have n3_ := Aside0.mk (below_step (by repeat (first | (with_reducible first | exact HB.out | apply below_alloc | apply pw_below_drewN | apply below_drew1) | exact HB.out)) hb); clear HO_7; clear HO_8; clear HO320; clear HB; have HO_7 := n0_; have HO_8 := n1_; have HO320 := n2_; have HB := n3_; clear n0_ n1_ n2_ n3_; (try clear hb); (try clear hb2); (try clear hk); (try clear hi)))
                go_ret
                exact ⟨by first | rfl | (simp [errW_none, errW_some] <;> rfl) | (simp [*, errW_none, errW_some] <;> rfl), by repeat (first | (with_reducible first | exact HB.out | apply below_alloc | apply pw_below_drewN | apply below_drew1) | exact HB.out)⟩
              · rw [if_neg c13] at H
                have c13b0 : decide (300 < (((rd_T25 l1 x9_1).f1).length : Int)) = false := decide_eq_false c13
                have c13b1 : decide (300 < ((rd_T25 l1 x9_1).f1).length) = false := decide_eq_false (by omega)
                clear c13
                by_cases c17 : x7_1.length + t318.length < 140737488355328
                · rw [if_pos c17] at H
                  have LMc17 := Aside0.mk c17
                  clear c17
                  obtain ⟨y324, hy324⟩ : ∃ y_ : List Int, y_ = (x7_1 ++ t318) := ⟨_, rfl⟩
                  replace H : (if x8_1.length < 17592186044416 then (fairleadlaw14_RecordBack.l0 k1 a0 l1 a2 y324 (x8_1 ++ [(y324.length : Int)]) (wrap64 (x9_1 + 1))) else (none)) = some r := by first | (rw [hy324]; with_reducible exact H) | (have H2_ := (Option.bind_some _ _).symm.trans H; rw [hy324]; with_reducible exact H2_) | (have H2_ := (Option.bind_some _ _).symm.trans H; with_reducible exact H2_) | with_reducible exact H | (rw [hy324]; exact H) | exact H
                  have Ny324 := Aside0.mk hy324
                  clear hy324
                  by_cases c18 : x8_1.length < 17592186044416
                  · rw [if_pos c18] at H
                    have LMc18 := Aside0.mk c18
                    clear c18
                    obtain ⟨y327, hy327⟩ : ∃ y_ : List Int, y_ = (x8_1 ++ [(y324.length : Int)]) := ⟨_, rfl⟩
                    replace H : (fairleadlaw14_RecordBack.l0 k1 a0 l1 a2 y324 y327 (wrap64 (x9_1 + 1))) = some r := by first | (rw [hy327]; with_reducible exact H) | (have H2_ := (Option.bind_some _ _).symm.trans H; rw [hy327]; with_reducible exact H2_) | (have H2_ := (Option.bind_some _ _).symm.trans H; with_reducible exact H2_) | with_reducible exact H | (rw [hy327]; exact H) | exact H
                    have Ny327 := Aside0.mk hy327
                    clear hy327
                    have H' := Aside0.mk H
                    clear H
                    have p317 : 0 ≤ (x9_1 : Int) := of_decide_eq_true (by first | (with_reducible assumption) | assumption)
                    have q317 : x9_1 < (l1.length : Int) := of_decide_eq_true (by first | (with_reducible assumption) | assumption)
                    obtain ⟨ad317, A317_1, c317_1, e317, hx317_0, hx317_1, hl317_1, hi317_1⟩ := at_T25 HR1.out x9_1 p317 q317
                    cases e317
                    replace hx317_0 := (HB.out.cell (World.block_lt_of_cell? w _ hx317_0)).trans hx317_0
                    replace hx317_1 := (HB.out.cell (World.block_lt_of_cell? w _ hx317_1)).trans hx317_1
                    have HR317_1 := Aside0.mk hi317_1
                    have HC317_1 := Aside0.mk hl317_1
                    clear hi317_1 hl317_1
                    replace p317 := eq_true p317
                    replace q317 := eq_true q317
                    go_wp2_with (first | ((with_reducible refine gate_callee (f := 13) rfl ?_); refine goesL_ (some 32) rfl rfl Try.func13 (by kernel_rfl) rfl #[.int .u64 a0, .agg #[.int .i64 ((rd_T25 l1 x9_1).f0), .slice A317_1 ((rd_T25 l1 x9_1).f1).length c317_1]] rfl (by (try simp only [List.map_toArray, List.map_cons, List.map_nil]); first | done | rfl | (simp only [List.length_drop, List.length_take]; rfl)) ?_; (with_reducible refine (record_Frame.calls k1 a0 ((rd_T25 l1 x9_1).f0) _ _ ((rd_T25 l1 x9_1).f1) t318 t321 _ ?side1 ?side2 A11.out).mono ?_); (case side1 => repeat (first | exact (Kd.C_below HR317_1.out HB.out) | (with_reducible refine Kd.C_alloc ?_ _) | (with_reducible refine Kd.C_drewN ?_ _) | (with_reducible refine Kd.C_drew ?_))); (case side2 => exact HC317_1.out); rintro e w19 ⟨v319, rfl, ho0, hb⟩; refine ⟨_, rfl, ?_⟩; have n0_ := Aside0.mk (Kd.R_elder' (by (with_reducible repeat (first | apply Kd.R_alloc | apply Kd.R_drewN | apply Kd.R_drew)); exact HO_7.out) (Kd.R_base ho0) hb); have n1_ := Aside0.mk (Kd.R_below (by (with_reducible repeat (first | apply Kd.R_alloc | apply Kd.R_drewN | apply Kd.R_drew)); exact HO_8.out) hb); have n2_ := Aside0.mk (Kd.R_lower (Kd.R_new' ho0 (Kd.R_lt (by (with_reducible repeat (first | apply Kd.R_alloc | apply Kd.R_drewN | apply Kd.R_drew)); exact HO_7.out))) (below_size (by repeat (first | (with_reducible first | exact HB.out | apply below_alloc | apply pw_below_drewN | apply below_drew1) | exact HB.out)))); have n3_ := Aside0.mk (below_step (by repeat (first | (with_reducible first | exact HB.out | apply below_alloc | apply pw_below_drewN | apply below_drew1) | exact HB.out)) hb); clear HO_7; clear HO_8; clear HB; have HO_7 := n0_; have HO_8 := n1_; have HO320 := n2_; have HB := n3_; clear n0_ n1_ n2_ n3_; (try clear hb); (try clear hb2); (try clear hk); (try clear hi); (try clear ho0); have p322 : 0 ≤ (x9_1 : Int) := of_decide_eq_true (by first | (with_reducible assumption) | assumption); have q322 : x9_1 < (l1.length : Int) := of_decide_eq_true (by first | (with_reducible assumption) | assumption); obtain ⟨ad322, A322_1, c322_1, e322, hx322_0, hx322_1, hl322_1, hi322_1⟩ := at_T25 HR1.out x9_1 p322 q322; obtain rfl : ad317 = ad322 := (by injection e322); replace hx322_0 := (HB.out.cell (World.block_lt_of_cell? w _ hx322_0)).trans hx322_0; replace hx322_1 := (HB.out.cell (World.block_lt_of_cell? w _ hx322_1)).trans hx322_1; have HR322_1 := Aside0.mk hi322_1; have HC322_1 := Aside0.mk hl322_1; clear hi322_1 hl322_1; replace p322 := eq_true p322; replace q322 := eq_true q322; obtain ⟨Ao21, co21, eo21⟩ := Kd.R_slice HO320.out; subst eo21) | ((with_reducible refine gate_builtin (b := .append) (xs := #[.tmp 47, .tmp 48]) rfl ?_); (try (refine gate_guard (by rfl) ?_; dsimp only)); at_builtin; refine Kd.R_append_rows (Kd.int .u8) (w0 := w) w.heap.size rfl (.tmp 47) (.tmp 48) 23 5 (.int .u8 0) 1 rfl Try.underlying23 info5 rfl (by decide) (by omega) u7 x7_1 t318 _ _ _ (fun k_ => some k_ ≠ (.slice Ao21 t318.length co21 : Value).ownBlock) (fun _ => False) rfl rfl ?aO ?aR (fun _ _ h => h) (fun _ h => h.elim) ?aF ?aB ?aS ?aL ?_; (case aR => repeat (first | exact (Kd.R_reads' HO320.out).2.2 | (with_reducible refine Kd.C_alloc ?_ _) | (with_reducible refine Kd.C_drewN ?_ _) | (with_reducible refine Kd.C_drew ?_))); (case aB => exact (by repeat (first | (with_reducible first | exact HB.out | apply below_alloc | apply pw_below_drewN | apply below_drew1) | exact HB.out))); (case aF => exact (fun k_ hk => Kd.fresh' (Kd.R_lt (by (with_reducible repeat (first | apply Kd.R_alloc | apply Kd.R_drewN | apply Kd.R_drew)); exact HO320.out)) k_ hk)); (case aO => exact (by (with_reducible repeat (first | apply Kd.R_alloc | apply Kd.R_drewN | apply Kd.R_drew)); exact Kd.R_mono HO_7.out (fun _ hk => hk.2))); (case aS => exact (below_size (by repeat (first | (with_reducible first | exact HB.out | apply below_alloc | apply pw_below_drewN | apply below_drew1) | exact HB.out)))); (case aL => have := LMc17.out; omega); intro v325 w20 ho hb hg hat; rw [← Ny324.out] at ho; have n0_ := Aside0.mk (Kd.R_over' (by (with_reducible repeat (first | apply Kd.R_alloc | apply Kd.R_drewN | apply Kd.R_drew)); exact HO_8.out) (Kd.R_typed (by (with_reducible repeat (first | apply Kd.R_alloc | apply Kd.R_drewN | apply Kd.R_drew)); exact HO_7.out)) (by decide) hg); have n1_ := Aside0.mk (Kd.R_after (ok := (fun _ => True)) (by (with_reducible repeat (first | apply Kd.R_alloc | apply Kd.R_drewN | apply Kd.R_drew)); exact HO320.out) hg hat); have n2_ := Aside0.mk (hb); have n3_ := Aside0.mk (ho); clear HO_8; clear HO320; clear HB; clear HO_7; have HO_8 := n0_; have HO320 := n1_; have HB := n2_; have HO326 := n3_; clear n0_ n1_ n2_ n3_; clear ho hb hg hat; obtain ⟨Ao22, co22, eo22⟩ := Kd.R_slice HO326.out; subst eo22) | ((with_reducible refine gate_builtin (b := .append) (xs := #[.tmp 50, .tmp 53]) rfl ?_); (try (refine gate_guard (by rfl) ?_; dsimp only)); at_builtin; refine Kd.R_append (Kd.int .i64) (w0 := w) w.heap.size rfl (.tmp 50) (.tmp 53) 36 3 (.int .i64 0) 8 rfl Try.underlying36 info3 rfl (by decide) (by omega) u8 x8_1 (y324.length : Int) [.int .i64 (y324.length : Int)] (fun _ => True) (fun _ => False) rfl rfl ?aP (fun _ hk => hk.elim) ?aF ?aO ?aB ?aS ?aL ?_; (case aP => exact rfl); (case aB => exact (by repeat (first | (with_reducible first | exact HB.out | apply below_alloc | apply pw_below_drewN | apply below_drew1) | exact HB.out))); (case aF => exact (fun _ _ => trivial)); (case aO => exact (by (with_reducible repeat (first | apply Kd.R_alloc | apply Kd.R_drewN | apply Kd.R_drew)); exact HO_8.out)); (case aS => exact (below_size (by repeat (first | (with_reducible first | exact HB.out | apply below_alloc | apply pw_below_drewN | apply below_drew1) | exact HB.out)))); (case aL => have := LMc18.out; omega); intro v328 w23 ho hb hg hat; rw [← Ny327.out] at ho; have n0_ := Aside0.mk (Kd.R_over' (by (with_reducible repeat (first | apply Kd.R_alloc | apply Kd.R_drewN | apply Kd.R_drew)); exact HO320.out) (Kd.R_typed (by (with_reducible repeat (first | apply Kd.R_alloc | apply Kd.R_drewN | apply Kd.R_drew)); exact HO_8.out)) (by decide) hg); have n1_ := Aside0.mk (Kd.R_over' (by (with_reducible repeat (first | apply Kd.R_alloc | apply Kd.R_drewN | apply Kd.R_drew)); exact HO326.out) (Kd.R_typed (by (with_reducible repeat (first | apply Kd.R_alloc | apply Kd.R_drewN | apply Kd.R_drew)); exact HO_8.out)) (by decide) hg); have n2_ := Aside0.mk (hb); have n3_ := Aside0.mk (ho); clear HO320; clear HO326; clear HB; clear HO_8; have HO320 := n0_; have HO326 := n1_; have HB := n2_; have HO329 := n3_; clear n0_ n1_ n2_ n3_; clear ho hb hg hat))
                    go_roundg k1
                    case measure => have := HK1.out; omega
                    case rel => exact ⟨(y324), (y327), (wrap64 (x9_1 + 1)), (by first | rfl | (simp; done) | (simp [*]; done)), H', ⟨by have := HK1.out; omega⟩, ⟨by (with_reducible repeat (first | apply Kd.R_alloc | apply Kd.R_drewN | apply Kd.R_drew)); exact Kd.R_mono HO326.out (fun _ hk => trivial)⟩, ⟨by (with_reducible repeat (first | apply Kd.R_alloc | apply Kd.R_drewN | apply Kd.R_drew)); exact HO329.out⟩, ⟨by repeat (first | (with_reducible first | exact HB.out | apply below_alloc | apply pw_below_drewN | apply below_drew1) | exact HB.out)⟩⟩
                  · rw [if_neg c18] at H
                    exact absurd H (by simp)
                · rw [if_neg c17] at H
                  exact absurd H (by simp)
            · rw [if_neg c12] at H
              have c12b0 : (t321 == 0) = false := beq_eq_false_iff_ne.mpr c12
              have c12b1 : (t321 != 0) = true := bne_iff_ne.mpr c12
              replace H := Option.bind_eq_some_iff.mp H
              obtain ⟨t330, A240, H⟩ := H
              replace H : (some t330) = some r := H
              have A24 := Aside0.mk A240
              clear A240
              obtain rfl := Option.some.inj H
              have p317 : 0 ≤ (x9_1 : Int) := of_decide_eq_true (by first | (with_reducible assumption) | assumption)
              have q317 : x9_1 < (l1.length : Int) := of_decide_eq_true (by first | (with_reducible assumption) | assumption)
              obtain ⟨ad317, A317_1, c317_1, e317, hx317_0, hx317_1, hl317_1, hi317_1⟩ := at_T25 HR1.out x9_1 p317 q317
              cases e317
              replace hx317_0 := (HB.out.cell (World.block_lt_of_cell? w _ hx317_0)).trans hx317_0
              replace hx317_1 := (HB.out.cell (World.block_lt_of_cell? w _ hx317_1)).trans hx317_1
              have HR317_1 := Aside0.mk hi317_1
              have HC317_1 := Aside0.mk hl317_1
              clear hi317_1 hl317_1
              replace p317 := eq_true p317
              replace q317 := eq_true q317
              go_wp2_with (first | ((with_reducible refine gate_callee (f := 13) rfl ?_); refine goesL_ (some 32) rfl rfl Try.func13 (by kernel_rfl) rfl #[.int .u64 a0, .agg #[.int .i64 ((rd_T25 l1 x9_1).f0), .slice A317_1 ((rd_T25 l1 x9_1).f1).length c317_1]] rfl (by (try simp only [List.map_toArray, List.map_cons, List.map_nil]); first | done | rfl | (simp only [List.length_drop, List.length_take]; rfl)) ?_; (with_reducible refine (record_Frame.calls k1 a0 ((rd_T25 l1 x9_1).f0) _ _ ((rd_T25 l1 x9_1).f1) t318 t321 _ ?side1 ?side2 A11.out).mono ?_); (case side1 => repeat (first | exact (Kd.C_below HR317_1.out HB.out) | (with_reducible refine Kd.C_alloc ?_ _) | (with_reducible refine Kd.C_drewN ?_ _) | (with_reducible refine Kd.C_drew ?_))); (case side2 => exact HC317_1.out); rintro e w25 ⟨v319, rfl, ho0, hb⟩; refine ⟨_, rfl, ?_⟩; have n0_ := Aside0.mk (Kd.R_elder' (by (with_reducible repeat (first | apply Kd.R_alloc | apply Kd.R_drewN | apply Kd.R_drew)); exact HO_7.out) (Kd.R_base ho0) hb); have n1_ := Aside0.mk (Kd.R_below (by (with_reducible repeat (first | apply Kd.R_alloc | apply Kd.R_drewN | apply Kd.R_drew)); exact HO_8.out) hb); have n2_ := Aside0.mk (Kd.R_lower (Kd.R_new' ho0 (Kd.R_lt (by (with_reducible repeat (first | apply Kd.R_alloc | apply Kd.R_drewN | apply Kd.R_drew)); exact HO_7.out))) (below_size (by repeat (first | (with_reducible first | exact HB.out | apply below_alloc | apply pw_below_drewN | apply below_drew1) | exact HB.out)))); have n3_ := Aside0.mk (below_step (by repeat (first | (with_reducible first | exact HB.out | apply below_alloc | apply pw_below_drewN | apply below_drew1) | exact HB.out)) hb); clear HO_7; clear HO_8; clear HB; have HO_7 := n0_; have HO_8 := n1_; have HO320 := n2_; have HB := n3_; clear n0_ n1_ n2_ n3_; (try clear hb); (try clear hb2); (try clear hk); (try clear hi); (try clear ho0)) | ((with_reducible refine gate_callee (f := 12) rfl ?_); refine goesL_ (some 46) rfl rfl Try.func12 (by kernel_rfl) rfl #[] rfl (by (try simp only [List.map_toArray, List.map_cons, List.map_nil]); first | done | rfl | (simp only [List.length_drop, List.length_take]; rfl)) ?_; (with_reducible refine (fairleadlaw14_heads.calls k1  t330 _ A24.out).mono ?_); rintro e w26 ⟨rfl, hb⟩; refine ⟨_, rfl, ?_⟩; have n0_ := Aside0.mk (Kd.R_below (by (with_reducible repeat (first | apply Kd.R_alloc | apply Kd.R_drewN | apply Kd.R_drew)); exact HO_7.out) hb); have n1_ := Aside0.mk (Kd.R_below (by (with_reducible repeat (first | apply Kd.R_alloc | apply Kd.R_drewN | apply Kd.R_drew)); exact HO_8.out) hb); have n2_ := Aside0.mk (Kd.R_below (by (with_reducible repeat (first | apply Kd.R_alloc | apply Kd.R_drewN | apply Kd.R_drew)); exact HO320.out) hb); have n3_ := Aside0.mk (below_step (by repeat (first | (with_reducible first | exact HB.out | apply below_alloc | apply pw_below_drewN | apply below_drew1) | exact HB.out)) hb); clear HO_7; clear HO_8; clear HO320; clear HB; have HO_7 := n0_; have HO_8 := n1_; have HO320 := n2_; have HB := n3_; clear n0_ n1_ n2_ n3_; (try clear hb); (try clear hb2); (try clear hk); (try clear hi)))
              go_ret
              exact ⟨by first | rfl | (simp [errW_none, errW_some] <;> rfl) | (simp [*, errW_none, errW_some] <;> rfl), by repeat (first | (with_reducible first | exact HB.out | apply below_alloc | apply pw_below_drewN | apply below_drew1) | exact HB.out)⟩
          · rw [if_neg c10] at H
            exact absurd H (by simp)
        · rw [if_neg c9] at H
          have c9b0 : decide (x9_1 < (l1.length : Int)) = false := decide_eq_false c9
          clear c9
          replace H := Option.bind_eq_some_iff.mp H
          obtain ⟨⟨t331, t332⟩, A270, H⟩ := H
          replace H : ((fairleadref14_Same.f k1 t331 l1).bind fun t335 => (if t335 = true then (fairleadlaw14_RecordBack.j1 k1 a0 l1 a2 x7_1 x8_1 (t332 != (x7_1.length : Int))) else (fairleadlaw14_RecordBack.j1 k1 a0 l1 a2 x7_1 x8_1 true))) = some r := H
          have A27 := Aside0.mk A270
          clear A270
          have HC28 := Aside0.mk H
          clear H
          obtain ⟨Ao29, co29, eo29⟩ := Kd.R_slice HO_7.out
          subst eo29
          go_upto_region 14 with (first | ((with_reducible refine gate_callee (f := 18) rfl ?_); refine goesL_ (some 58) rfl rfl Try.func18 (by kernel_rfl) rfl #[.int .u64 a0, .slice Ao29 x7_1.length co29] rfl (by (try simp only [List.map_toArray, List.map_cons, List.map_nil]); first | done | rfl | (simp only [List.length_drop, List.length_take]; rfl)) ?_; (with_reducible refine (record_Scan.calls k1 a0 _ _ x7_1 t331 t332 _ ?side1 ?side2 A27.out).mono ?_); (case side1 => repeat (first | exact (Kd.R_reads' HO_7.out).2.2 | (with_reducible refine Kd.C_alloc ?_ _) | (with_reducible refine Kd.C_drewN ?_ _) | (with_reducible refine Kd.C_drew ?_))); (case side2 => exact (Kd.R_reads' HO_7.out).2.1); rintro e w30 ⟨v333, rfl, ho0, hb⟩; refine ⟨_, rfl, ?_⟩; have n0_ := Aside0.mk (Kd.R_below (by (with_reducible repeat (first | apply Kd.R_alloc | apply Kd.R_drewN | apply Kd.R_drew)); exact HO_7.out) hb); have n1_ := Aside0.mk (Kd.R_below (by (with_reducible repeat (first | apply Kd.R_alloc | apply Kd.R_drewN | apply Kd.R_drew)); exact HO_8.out) hb); have n2_ := Aside0.mk (Kd.S_lower (Kd.S_new' ho0 (Kd.R_lt (by (with_reducible repeat (first | apply Kd.R_alloc | apply Kd.R_drewN | apply Kd.R_drew)); exact HO_7.out))) (below_size (by repeat (first | (with_reducible first | exact HB.out | apply below_alloc | apply pw_below_drewN | apply below_drew1) | exact HB.out)))); have n3_ := Aside0.mk (below_step (by repeat (first | (with_reducible first | exact HB.out | apply below_alloc | apply pw_below_drewN | apply below_drew1) | exact HB.out)) hb); clear HO_7; clear HO_8; clear HB; have HO_7 := n0_; have HO_8 := n1_; have HO334 := n2_; have HB := n3_; clear n0_ n1_ n2_ n3_; (try clear hb); (try clear hb2); (try clear hk); (try clear hi); (try clear ho0)))
          (try simp only [Act.put, List.setIfInBounds_toArray, List.set_cons_zero, List.set_cons_succ])
          go_cut [70] (fun v70 wc => ∃ (kq : Nat) (x70_27 : Bool), v70 = .bool x70_27 ∧ Aside0 (fairleadlaw14_RecordBack.j1 kq a0 l1 a2 x7_1 x8_1 x70_27 = some r) ∧ Aside0 (kq ≤ k1) ∧ Aside0 (Kd.R (Kd.int .u8) 5 wc w.heap.size (fun _ => True) (.slice Ao29 x7_1.length co29) x7_1) ∧ Aside0 (Kd.R (Kd.int .i64) 3 wc w.heap.size (fun _ => True) u8 x8_1) ∧ Aside0 (Below w.heap.size w wc))
          case first =>
            have H := HC28.out
            clear HC28
            replace H := Option.bind_eq_some_iff.mp H
            obtain ⟨t335, A310, H⟩ := H
            replace H : (if t335 = true then (fairleadlaw14_RecordBack.j1 k1 a0 l1 a2 x7_1 x8_1 (t332 != (x7_1.length : Int))) else (fairleadlaw14_RecordBack.j1 k1 a0 l1 a2 x7_1 x8_1 true)) = some r := H
            have A31 := Aside0.mk A310
            clear A310
            by_cases c32 : t335 = true
            · subst c32
              have H1 : (fairleadlaw14_RecordBack.j1 k1 a0 l1 a2 x7_1 x8_1 (t332 != (x7_1.length : Int))) = some r := by rw [if_pos rfl] at H; exact H
              clear H
              have H := H1
              clear H1
              have H' := Aside0.mk H
              clear H
              obtain ⟨Ao33, co33, eo33⟩ := Kd.S_slice HO334.out
              subst eo33
              go_wp2_with (first | ((with_reducible refine gate_callee (f := 19) rfl ?_); refine goesL_ (some 63) rfl rfl Try.func19 (by kernel_rfl) rfl #[.slice Ao33 t331.length co33, .slice A1 l1.length c1] rfl (by (try simp only [List.map_toArray, List.map_cons, List.map_nil]); first | done | rfl | (simp only [List.length_drop, List.length_take]; rfl)) ?_; (with_reducible refine (fairleadref14_Same.calls k1 _ _ t331 _ _ l1 true _ ?side1 ?side2 ?side3 ?side4 A31.out).mono ?_); (case side1 => repeat (first | exact (Kd.S_reads' HO334.out).2.2 | (with_reducible refine Kd.C_alloc ?_ _) | (with_reducible refine Kd.C_drewN ?_ _) | (with_reducible refine Kd.C_drew ?_))); (case side2 => exact (Kd.S_reads' HO334.out).2.1); (case side3 => repeat (first | exact (Kd.C_below HR1.out HB.out) | (with_reducible refine Kd.C_alloc ?_ _) | (with_reducible refine Kd.C_drewN ?_ _) | (with_reducible refine Kd.C_drew ?_))); (case side4 => exact HC1.out); rintro e w34 ⟨rfl, hb⟩; refine ⟨_, rfl, ?_⟩; have n0_ := Aside0.mk (Kd.R_below (by (with_reducible repeat (first | apply Kd.R_alloc | apply Kd.R_drewN | apply Kd.R_drew)); exact HO_7.out) hb); have n1_ := Aside0.mk (Kd.R_below (by (with_reducible repeat (first | apply Kd.R_alloc | apply Kd.R_drewN | apply Kd.R_drew)); exact HO_8.out) hb); have n2_ := Aside0.mk (Kd.S_below (by (with_reducible repeat (first | apply Kd.S_alloc | apply Kd.S_drewN | apply Kd.S_drew)); exact HO334.out) hb); have n3_ := Aside0.mk (below_step (by repeat (first | (with_reducible first | exact HB.out | apply below_alloc | apply pw_below_drewN | apply below_drew1) | exact HB.out)) hb); clear HO_7; clear HO_8; clear HO334; clear HB; have HO_7 := n0_; have HO_8 := n1_; have HO334 := n2_; have HB := n3_; clear n0_ n1_ n2_ n3_; (try clear hb); (try clear hb2); (try clear hk); (try clear hi)))
              go_meet
              case rel => exact ⟨_, ((t332 != (x7_1.length : Int))), (by first | rfl | (simp; done) | (simp [*]; done)), H', ⟨by have := HK1.out; first | omega | exact Nat.le_refl _⟩, ⟨by (with_reducible repeat (first | apply Kd.R_alloc | apply Kd.R_drewN | apply Kd.R_drew)); exact HO_7.out⟩, ⟨by (with_reducible repeat (first | apply Kd.R_alloc | apply Kd.R_drewN | apply Kd.R_drew)); exact HO_8.out⟩, ⟨by repeat (first | (with_reducible first | exact HB.out | apply below_alloc | apply pw_below_drewN | apply below_drew1) | exact HB.out)⟩⟩
            · replace c32 := Bool.eq_false_iff.mpr c32
              subst c32
              have H1 : (fairleadlaw14_RecordBack.j1 k1 a0 l1 a2 x7_1 x8_1 true) = some r := by rw [if_neg (show ¬ (false = true) by decide)] at H; exact H
              clear H
              have H := H1
              clear H1
              have H' := Aside0.mk H
              clear H
              obtain ⟨Ao35, co35, eo35⟩ := Kd.S_slice HO334.out
              subst eo35
              go_wp2_with (first | ((with_reducible refine gate_callee (f := 19) rfl ?_); refine goesL_ (some 63) rfl rfl Try.func19 (by kernel_rfl) rfl #[.slice Ao35 t331.length co35, .slice A1 l1.length c1] rfl (by (try simp only [List.map_toArray, List.map_cons, List.map_nil]); first | done | rfl | (simp only [List.length_drop, List.length_take]; rfl)) ?_; (with_reducible refine (fairleadref14_Same.calls k1 _ _ t331 _ _ l1 false _ ?side1 ?side2 ?side3 ?side4 A31.out).mono ?_); (case side1 => repeat (first | exact (Kd.S_reads' HO334.out).2.2 | (with_reducible refine Kd.C_alloc ?_ _) | (with_reducible refine Kd.C_drewN ?_ _) | (with_reducible refine Kd.C_drew ?_))); (case side2 => exact (Kd.S_reads' HO334.out).2.1); (case side3 => repeat (first | exact (Kd.C_below HR1.out HB.out) | (with_reducible refine Kd.C_alloc ?_ _) | (with_reducible refine Kd.C_drewN ?_ _) | (with_reducible refine Kd.C_drew ?_))); (case side4 => exact HC1.out); rintro e w36 ⟨rfl, hb⟩; refine ⟨_, rfl, ?_⟩; have n0_ := Aside0.mk (Kd.R_below (by (with_reducible repeat (first | apply Kd.R_alloc | apply Kd.R_drewN | apply Kd.R_drew)); exact HO_7.out) hb); have n1_ := Aside0.mk (Kd.R_below (by (with_reducible repeat (first | apply Kd.R_alloc | apply Kd.R_drewN | apply Kd.R_drew)); exact HO_8.out) hb); have n2_ := Aside0.mk (Kd.S_below (by (with_reducible repeat (first | apply Kd.S_alloc | apply Kd.S_drewN | apply Kd.S_drew)); exact HO334.out) hb); have n3_ := Aside0.mk (below_step (by repeat (first | (with_reducible first | exact HB.out | apply below_alloc | apply pw_below_drewN | apply below_drew1) | exact HB.out)) hb); clear HO_7; clear HO_8; clear HO334; clear HB; have HO_7 := n0_; have HO_8 := n1_; have HO334 := n2_; have HB := n3_; clear n0_ n1_ n2_ n3_; (try clear hb); (try clear hb2); (try clear hk); (try clear hi)))
              go_meet
              case rel => exact ⟨_, (true), (by first | rfl | (simp; done) | (simp [*]; done)), H', ⟨by have := HK1.out; first | omega | exact Nat.le_refl _⟩, ⟨by (with_reducible repeat (first | apply Kd.R_alloc | apply Kd.R_drewN | apply Kd.R_drew)); exact HO_7.out⟩, ⟨by (with_reducible repeat (first | apply Kd.R_alloc | apply Kd.R_drewN | apply Kd.R_drew)); exact HO_8.out⟩, ⟨by repeat (first | (with_reducible first | exact HB.out | apply below_alloc | apply pw_below_drewN | apply below_drew1) | exact HB.out)⟩⟩
          case rest =>
            clear HC28
            try clear c1
            try clear p2
            try clear c3
            try clear p3
            try clear q3
            try clear hx3
            try clear c4
            try clear c4b0
            try clear c4b1
            try clear p6
            try clear c9
            try clear c9b0
            try clear c10
            try clear c10b0
            try clear c12
            try clear c12b0
            try clear c12b1
            try clear c13
            try clear c13b0
            try clear c13b1
            try clear c17
            try clear c18
            try clear c19
            try clear c31
            try clear p31
            try clear q31
            try clear hx31
            try clear c32
            try clear p32
            try clear q32
            try clear hx32
            try clear hx317_0
            try clear hx317_1
            try clear hx322_0
            try clear hx322_1
            try clear p2
            try clear p317
            try clear p322
            try clear q317
            try clear q322
            obtain ⟨kq, x70_27, rfl, HA, HJ27, HO_7, HO_8, HB⟩ := hcut
            cases kq with
            | zero => exact absurd HA.out (by simp [fairleadlaw14_RecordBack.j1])
            | succ kj27 =>
              have H := HA.out
              clear HA
              simp only [fairleadlaw14_RecordBack.j1] at H
              by_cases c37 : x70_27 = true
              · subst c37
                have H1 : (some false) = some r := by rw [if_pos rfl] at H; exact H
                clear H
                have H := H1
                clear H1
                obtain rfl := Option.some.inj H
                go_wp2
                go_ret
                exact ⟨by first | rfl | (simp [errW_none, errW_some] <;> rfl) | (simp [*, errW_none, errW_some] <;> rfl), by repeat (first | (with_reducible first | exact HB.out | apply below_alloc | apply pw_below_drewN | apply below_drew1) | exact HB.out)⟩
              · replace c37 := Bool.eq_false_iff.mpr c37
                subst c37
                have H1 : (if a2 < 0 then (fairleadlaw14_RecordBack.j2 kj27 a0 l1 a2 x7_1 x8_1 true) else (fairleadlaw14_RecordBack.j2 kj27 a0 l1 a2 x7_1 x8_1 (decide (a2 > (x7_1.length : Int))))) = some r := by rw [if_neg (show ¬ (false = true) by decide)] at H; exact H
                clear H
                have H := H1
                clear H1
                have HC38 := Aside0.mk H
                clear H
                go_upto_region 16 with (fail)
                go_cut [78] (fun v78 wc => ∃ (kq : Nat) (x78_37 : Bool), v78 = .bool x78_37 ∧ Aside0 (fairleadlaw14_RecordBack.j2 kq a0 l1 a2 x7_1 x8_1 x78_37 = some r) ∧ Aside0 (kq ≤ kj27) ∧ Aside0 (Kd.R (Kd.int .u8) 5 wc w.heap.size (fun _ => True) (.slice Ao29 x7_1.length co29) x7_1) ∧ Aside0 (Kd.R (Kd.int .i64) 3 wc w.heap.size (fun _ => True) u8 x8_1) ∧ Aside0 (Below w.heap.size w wc))
                case first =>
                  have H := HC38.out
                  clear HC38
                  by_cases c39 : a2 < 0
                  · rw [if_pos c39] at H
                    have c39b0 : decide (a2 < 0) = true := decide_eq_true c39
                    clear c39
                    (first | rw [c39b0] | (simp only [i64_w, i32_w]; rw [c39b0]) | skip)
                    have H' := Aside0.mk H
                    clear H
                    go_wp2
                    go_meet
                    case rel => exact ⟨_, (true), (by first | rfl | (simp; done) | (simp [*]; done)), H', ⟨by have := HK1.out; have := HJ27.out; first | omega | exact Nat.le_refl _⟩, ⟨by (with_reducible repeat (first | apply Kd.R_alloc | apply Kd.R_drewN | apply Kd.R_drew)); exact HO_7.out⟩, ⟨by (with_reducible repeat (first | apply Kd.R_alloc | apply Kd.R_drewN | apply Kd.R_drew)); exact HO_8.out⟩, ⟨by repeat (first | (with_reducible first | exact HB.out | apply below_alloc | apply pw_below_drewN | apply below_drew1) | exact HB.out)⟩⟩
                  · rw [if_neg c39] at H
                    have c39b0 : decide (a2 < 0) = false := decide_eq_false c39
                    clear c39
                    (first | rw [c39b0] | (simp only [i64_w, i32_w]; rw [c39b0]) | skip)
                    have H' := Aside0.mk H
                    clear H
                    go_wp2
                    go_meet
                    case rel => exact ⟨_, (decide (a2 > (x7_1.length : Int))), (by first | rfl | (simp; done) | (simp [*]; done)), H', ⟨by have := HK1.out; have := HJ27.out; first | omega | exact Nat.le_refl _⟩, ⟨by (with_reducible repeat (first | apply Kd.R_alloc | apply Kd.R_drewN | apply Kd.R_drew)); exact HO_7.out⟩, ⟨by (with_reducible repeat (first | apply Kd.R_alloc | apply Kd.R_drewN | apply Kd.R_drew)); exact HO_8.out⟩, ⟨by repeat (first | (with_reducible first | exact HB.out | apply below_alloc | apply pw_below_drewN | apply below_drew1) | exact HB.out)⟩⟩
                case rest =>
                  clear HC38
                  try clear c1
                  try clear p2
                  try clear c3
                  try clear p3
                  try clear q3
                  try clear hx3
                  try clear c4
                  try clear c4b0
                  try clear c4b1
                  try clear p6
                  try clear c9
                  try clear c9b0
                  try clear c10
                  try clear c10b0
                  try clear c12
                  try clear c12b0
                  try clear c12b1
                  try clear c13
                  try clear c13b0
                  try clear c13b1
                  try clear c17
                  try clear c18
                  try clear c19
                  try clear c31
                  try clear p31
                  try clear q31
                  try clear hx31
                  try clear c32
                  try clear p32
                  try clear q32
                  try clear hx32
                  try clear c37
                  try clear c39
                  try clear c39b0
                  try clear hx317_0
                  try clear hx317_1
                  try clear hx322_0
                  try clear hx322_1
                  try clear p2
                  try clear p3
                  try clear p31
                  try clear p317
                  try clear p32
                  try clear p322
                  try clear p6
                  try clear q3
                  try clear q31
                  try clear q317
                  try clear q32
                  try clear q322
                  obtain ⟨kq, x78_37, rfl, HA, HJ37, HO_7, HO_8, HB⟩ := hcut
                  cases kq with
                  | zero => exact absurd HA.out (by simp [fairleadlaw14_RecordBack.j2])
                  | succ kj37 =>
                    have H := HA.out
                    clear HA
                    simp only [fairleadlaw14_RecordBack.j2] at H
                    by_cases c40 : x78_37 = true
                    · subst c40
                      have H1 : ((fairleadlaw14_heads.f kj37).bind fun t336 => (some t336)) = some r := by rw [if_pos rfl] at H; exact H
                      clear H
                      have H := H1
                      clear H1
                      replace H := Option.bind_eq_some_iff.mp H
                      obtain ⟨t336, A410, H⟩ := H
                      replace H : (some t336) = some r := H
                      have A41 := Aside0.mk A410
                      clear A410
                      obtain rfl := Option.some.inj H
                      go_wp2_with (first | ((with_reducible refine gate_callee (f := 12) rfl ?_); refine goesL_ (some 79) rfl rfl Try.func12 (by kernel_rfl) rfl #[] rfl (by (try simp only [List.map_toArray, List.map_cons, List.map_nil]); first | done | rfl | (simp only [List.length_drop, List.length_take]; rfl)) ?_; (with_reducible refine (fairleadlaw14_heads.calls kj37  t336 _ A41.out).mono ?_); rintro e w42 ⟨rfl, hb⟩; refine ⟨_, rfl, ?_⟩; have n0_ := Aside0.mk (Kd.R_below (by (with_reducible repeat (first | apply Kd.R_alloc | apply Kd.R_drewN | apply Kd.R_drew)); exact HO_7.out) hb); have n1_ := Aside0.mk (Kd.R_below (by (with_reducible repeat (first | apply Kd.R_alloc | apply Kd.R_drewN | apply Kd.R_drew)); exact HO_8.out) hb); have n2_ := Aside0.mk (below_step (by repeat (first | (with_reducible first | exact HB.out | apply below_alloc | apply pw_below_drewN | apply below_drew1) | exact HB.out)) hb); clear HO_7; clear HO_8; clear HB; have HO_7 := n0_; have HO_8 := n1_; have HB := n2_; clear n0_ n1_ n2_; (try clear hb); (try clear hb2); (try clear hk); (try clear hi)))
                      go_ret
                      exact ⟨by first | rfl | (simp [errW_none, errW_some] <;> rfl) | (simp [*, errW_none, errW_some] <;> rfl), by repeat (first | (with_reducible first | exact HB.out | apply below_alloc | apply pw_below_drewN | apply below_drew1) | exact HB.out)⟩
                    · replace c40 := Bool.eq_false_iff.mpr c40
                      subst c40
                      have H1 : (fairleadlaw14_RecordBack.l1 kj37 a0 l1 a2 x7_1 x8_1 0) = some r := by rw [if_neg (show ¬ (false = true) by decide)] at H; exact H
                      clear H
                      have H := H1
                      clear H1
                      have H' := Aside0.mk H
                      clear H
                      go_wp2
                      go_loopg [14] kj37 (fun kq v14 w' => ∃ (x14_4 : Int), v14 = .int .i64 x14_4 ∧ Aside0 (fairleadlaw14_RecordBack.l1 kq a0 l1 a2 x7_1 x8_1 x14_4 = some r) ∧ Aside0 (kq ≤ kj37) ∧ Aside0 (Kd.R (Kd.int .u8) 5 w' w.heap.size (fun _ => True) (.slice Ao29 x7_1.length co29) x7_1) ∧ Aside0 (Kd.R (Kd.int .i64) 3 w' w.heap.size (fun _ => True) u8 x8_1) ∧ Aside0 (Below w.heap.size w w'))
                      case atStart => exact ⟨(0), (by first | rfl | (simp; done) | (simp [*]; done)), H', ⟨Nat.le_refl _⟩, ⟨by (with_reducible repeat (first | apply Kd.R_alloc | apply Kd.R_drewN | apply Kd.R_drew)); exact HO_7.out⟩, ⟨by (with_reducible repeat (first | apply Kd.R_alloc | apply Kd.R_drewN | apply Kd.R_drew)); exact HO_8.out⟩, ⟨by repeat (first | (with_reducible first | exact HB.out | apply below_alloc | apply pw_below_drewN | apply below_drew1) | exact HB.out)⟩⟩
                      case round =>
                        clear H'
                        try clear c1
                        try clear p2
                        try clear c3
                        try clear p3
                        try clear q3
                        try clear hx3
                        try clear c4
                        try clear c4b0
                        try clear c4b1
                        try clear p6
                        try clear c9
                        try clear c9b0
                        try clear c10
                        try clear c10b0
                        try clear c12
                        try clear c12b0
                        try clear c12b1
                        try clear c13
                        try clear c13b0
                        try clear c13b1
                        try clear c17
                        try clear c18
                        try clear c19
                        try clear c31
                        try clear p31
                        try clear q31
                        try clear hx31
                        try clear c32
                        try clear p32
                        try clear q32
                        try clear hx32
                        try clear c37
                        try clear c39
                        try clear c39b0
                        try clear c40
                        try clear hx317_0
                        try clear hx317_1
                        try clear hx322_0
                        try clear hx322_1
                        try clear p2
                        try clear p3
                        try clear p31
                        try clear p317
                        try clear p32
                        try clear p322
                        try clear p6
                        try clear q3
                        try clear q31
                        try clear q317
                        try clear q32
                        try clear q322
                        obtain ⟨x14_4, rfl, HA, HK4, HO_7, HO_8, HB⟩ := hrel
                        cases gk with
                        | zero => exact absurd HA.out (by simp [fairleadlaw14_RecordBack.l1])
                        | succ k4 =>
                          have H := HA.out
                          clear HA
                          simp only [fairleadlaw14_RecordBack.l1] at H
                          by_cases c43 : (wrap64 (x14_4 + 1)) < (x8_1.length : Int)
                          · rw [if_pos c43] at H
                            have c43b0 : decide ((wrap64 (x14_4 + 1)) < (x8_1.length : Int)) = true := decide_eq_true c43
                            clear c43
                            obtain ⟨ji44, hji44⟩ : ∃ j_ : Int, (wrap64 (x14_4 + 1)) = j_ := ⟨_, rfl⟩
                            replace H : (if 0 ≤ (ji44) then (if (rd x8_1 (ji44)) ≤ a2 then (fairleadlaw14_RecordBack.l1 k4 a0 l1 a2 x7_1 x8_1 ji44) else (if 0 ≤ a2 then (if a2 ≤ (x7_1.length : Int) then ((record_Scan.f k4 a0 (x7_1.take (a2 : Int).toNat)).bind fun bt342 => (if 0 ≤ x14_4 then (if x14_4 ≤ (l1.length : Int) then ((fairleadref14_Same.f k4 bt342.1 (l1.take (x14_4 : Int).toNat)).bind fun t350 => (if t350 = true then (if x14_4 < (x8_1.length : Int) then (if bt342.2 = (rd x8_1 x14_4) then ((fairleadlaw14_heads.f k4).bind fun t352 => (some t352)) else (some false)) else (none)) else (some false))) else (none)) else (none))) else (none)) else (none))) else (none)) = some r := by first | (rw [hji44] at H; exact H) | (simp only [hji44] at H ⊢; exact H)
                            (try rw [hji44] at c43b0)
                            have hji44w : (IntKind.i64.wrap (x14_4 + 1)) = ji44 := (i64_w _).trans hji44
                            by_cases c45 : 0 ≤ (ji44)
                            · rw [if_pos c45] at H
                              have c45b0 : decide (0 ≤ (ji44)) = true := decide_eq_true c45
                              clear c45
                              by_cases c46 : (rd x8_1 (ji44)) ≤ a2
                              · rw [if_pos c46] at H
                                have c46b0 : decide ((rd x8_1 (ji44)) ≤ a2) = true := decide_eq_true c46
                                clear c46
                                have H' := Aside0.mk H
                                clear H
                                obtain ⟨Ao47, co47, eo47⟩ := Kd.R_slice HO_8.out
                                subst eo47
                                have p337 : 0 ≤ ((ji44) : Int) := of_decide_eq_true (by first | (with_reducible assumption) | assumption)
                                have q337 : (ji44) < (x8_1.length : Int) := of_decide_eq_true (by first | (with_reducible assumption) | assumption)
                                obtain ⟨ad337, e337, hx337_0⟩ := Kd.at_int (Kd.R_reads' HO_8.out).2.2 (ji44) p337 q337
                                cases e337
                                replace p337 := eq_true p337
                                replace q337 := eq_true q337
                                go_wp2
                                go_roundg k4
                                case measure => have := HK1.out; have := HJ27.out; have := HJ37.out; have := HK4.out; omega
                                case rel => exact ⟨(ji44), (by first | rfl | (simp; done) | (simp only [← hji44] <;> (first | rfl | simp)) | (simp [*]; done)), H', ⟨by have := HK1.out; have := HJ27.out; have := HJ37.out; have := HK4.out; omega⟩, ⟨by (with_reducible repeat (first | apply Kd.R_alloc | apply Kd.R_drewN | apply Kd.R_drew)); exact HO_7.out⟩, ⟨by (with_reducible repeat (first | apply Kd.R_alloc | apply Kd.R_drewN | apply Kd.R_drew)); exact HO_8.out⟩, ⟨by repeat (first | (with_reducible first | exact HB.out | apply below_alloc | apply pw_below_drewN | apply below_drew1) | exact HB.out)⟩⟩
                              · rw [if_neg c46] at H
                                have c46b0 : decide ((rd x8_1 (ji44)) ≤ a2) = false := decide_eq_false c46
                                clear c46
                                by_cases c48 : 0 ≤ a2
                                · rw [if_pos c48] at H
                                  have c48b0 := eq_true c48
                                  have c48b1 : decide (0 ≤ a2) = true := decide_eq_true c48
                                  clear c48
                                  by_cases c49 : a2 ≤ (x7_1.length : Int)
                                  · rw [if_pos c49] at H
                                    have c49b0 := eq_true c49
                                    have c49b1 : decide (a2 ≤ (x7_1.length : Int)) = true := decide_eq_true c49
                                    clear c49
                                    obtain ⟨y338, hy338⟩ : ∃ y_ : List Int, y_ = (x7_1.take (a2 : Int).toNat) := ⟨_, rfl⟩
                                    replace H : ((record_Scan.f k4 a0 y338).bind fun bt342 => (if 0 ≤ x14_4 then (if x14_4 ≤ (l1.length : Int) then ((fairleadref14_Same.f k4 bt342.1 (l1.take (x14_4 : Int).toNat)).bind fun t350 => (if t350 = true then (if x14_4 < (x8_1.length : Int) then (if bt342.2 = (rd x8_1 x14_4) then ((fairleadlaw14_heads.f k4).bind fun t352 => (some t352)) else (some false)) else (none)) else (some false))) else (none)) else (none))) = some r := by first | (rw [hy338]; with_reducible exact H) | (have H2_ := (Option.bind_some _ _).symm.trans H; rw [hy338]; with_reducible exact H2_) | (have H2_ := (Option.bind_some _ _).symm.trans H; with_reducible exact H2_) | with_reducible exact H | (rw [hy338]; exact H) | exact H
                                    have Ny338 := Aside0.mk hy338
                                    clear hy338
                                    replace H := Option.bind_eq_some_iff.mp H
                                    obtain ⟨⟨t342, t343⟩, A500, H⟩ := H
                                    replace H : (if 0 ≤ x14_4 then (if x14_4 ≤ (l1.length : Int) then ((fairleadref14_Same.f k4 t342 (l1.take (x14_4 : Int).toNat)).bind fun t350 => (if t350 = true then (if x14_4 < (x8_1.length : Int) then (if t343 = (rd x8_1 x14_4) then ((fairleadlaw14_heads.f k4).bind fun t352 => (some t352)) else (some false)) else (none)) else (some false))) else (none)) else (none)) = some r := H
                                    have A50 := Aside0.mk A500
                                    clear A500
                                    by_cases c51 : 0 ≤ x14_4
                                    · rw [if_pos c51] at H
                                      have c51b0 := eq_true c51
                                      have c51b1 : decide (0 ≤ x14_4) = true := decide_eq_true c51
                                      clear c51
                                      by_cases c52 : x14_4 ≤ (l1.length : Int)
                                      · rw [if_pos c52] at H
                                        have c52b0 := eq_true c52
                                        have c52b1 : decide (x14_4 ≤ (l1.length : Int)) = true := decide_eq_true c52
                                        clear c52
                                        obtain ⟨y346, hy346⟩ : ∃ y_ : List (S25), y_ = (l1.take (x14_4 : Int).toNat) := ⟨_, rfl⟩
                                        replace H : ((fairleadref14_Same.f k4 t342 y346).bind fun t350 => (if t350 = true then (if x14_4 < (x8_1.length : Int) then (if t343 = (rd x8_1 x14_4) then ((fairleadlaw14_heads.f k4).bind fun t352 => (some t352)) else (some false)) else (none)) else (some false))) = some r := by first | (rw [hy346]; with_reducible exact H) | (have H2_ := (Option.bind_some _ _).symm.trans H; rw [hy346]; with_reducible exact H2_) | (have H2_ := (Option.bind_some _ _).symm.trans H; with_reducible exact H2_) | with_reducible exact H | (rw [hy346]; exact H) | exact H
                                        have Ny346 := Aside0.mk hy346
                                        clear hy346
                                        replace H := Option.bind_eq_some_iff.mp H
                                        obtain ⟨t350, A530, H⟩ := H
                                        replace H : (if t350 = true then (if x14_4 < (x8_1.length : Int) then (if t343 = (rd x8_1 x14_4) then ((fairleadlaw14_heads.f k4).bind fun t352 => (some t352)) else (some false)) else (none)) else (some false)) = some r := H
                                        have A53 := Aside0.mk A530
                                        clear A530
                                        by_cases c54 : t350 = true
                                        · subst c54
                                          have H1 : (if x14_4 < (x8_1.length : Int) then (if t343 = (rd x8_1 x14_4) then ((fairleadlaw14_heads.f k4).bind fun t352 => (some t352)) else (some false)) else (none)) = some r := by rw [if_pos rfl] at H; exact H
                                          clear H
                                          have H := H1
                                          clear H1
                                          by_cases c55 : x14_4 < (x8_1.length : Int)
                                          · rw [if_pos c55] at H
                                            have c55b0 : decide (x14_4 < (x8_1.length : Int)) = true := decide_eq_true c55
                                            clear c55
                                            by_cases c56 : t343 = (rd x8_1 x14_4)
                                            · rw [if_pos c56] at H
                                              have c56b0 : (t343 == (rd x8_1 x14_4)) = true := beq_iff_eq.mpr c56
                                              have c56b1 : (t343 != (rd x8_1 x14_4)) = false := bne_eq_false_iff_eq.mpr c56
                                              clear c56
                                              replace H := Option.bind_eq_some_iff.mp H
                                              obtain ⟨t352, A570, H⟩ := H
                                              replace H : (some t352) = some r := H
                                              have A57 := Aside0.mk A570
                                              clear A570
                                              obtain rfl := Option.some.inj H
                                              obtain ⟨Ao58, co58, eo58⟩ := Kd.R_slice HO_8.out
                                              subst eo58
                                              have p337 : 0 ≤ ((ji44) : Int) := of_decide_eq_true (by first | (with_reducible assumption) | assumption)
                                              have q337 : (ji44) < (x8_1.length : Int) := of_decide_eq_true (by first | (with_reducible assumption) | assumption)
                                              obtain ⟨ad337, e337, hx337_0⟩ := Kd.at_int (Kd.R_reads' HO_8.out).2.2 (ji44) p337 q337
                                              cases e337
                                              replace p337 := eq_true p337
                                              replace q337 := eq_true q337
                                              have q59 : (a2 : Int) ≤ ((x7_1.length : Int) : Int) := of_decide_eq_true (by first | (with_reducible assumption) | assumption)
                                              obtain ⟨i059, hi059, _, hsz59, _⟩ := info_parts info5
                                              have hroom59 : x7_1.length ≤ co29 := (Kd.R_reads' HO_7.out).2.1
                                              have hC59 : Kd.C (Kd.int .u8) _ Ao29 x7_1.length x7_1 := (Kd.R_reads' HO_7.out).2.2
                                              have hcut59 := cut_to (P := Try.prog) 23 5 .i64 Try.underlying23 hi059 Ao29 x7_1.length co29 a2 (of_decide_eq_true (by first | (with_reducible assumption) | assumption)) q59 hroom59
                                              have hr59 := Kd.C_take (m := (a2 : Int).toNat) hC59 (by omega)
                                              have hy59 : y338.length = (a2 : Int).toNat := (by rw [Ny338.out, List.length_take]; omega)
                                              rw [← Ny338.out] at hr59
                                              rw [← hy59] at hcut59
                                              have HR341 := Aside0.mk hr59
                                              have HC341 := Aside0.mk (show y338.length ≤ co29 from by omega)
                                              clear hr59 hC59 hroom59 hi059 hsz59
                                              have KY59 := Aside0.mk hy59
                                              clear hy59
                                              have KL59 := Aside0.mk (show (a2 : Int).toNat ≤ x7_1.length from by omega)
                                              replace q59 := eq_true q59
                                              go_wp2_with (first | ((with_reducible refine gate_callee (f := 18) rfl ?_); refine goesL_ (some 101) rfl rfl Try.func18 (by kernel_rfl) rfl #[.int .u64 a0, .slice Ao29 y338.length co29] rfl (by (try simp only [List.map_toArray, List.map_cons, List.map_nil]); first | done | rfl | (simp only [List.length_drop, List.length_take]; rfl)) ?_; (with_reducible refine (record_Scan.calls k4 a0 _ _ y338 t342 t343 _ ?side1 ?side2 A50.out).mono ?_); (case side1 => repeat (first | exact (by repeat (first | (with_reducible exact HR341.out) | (with_reducible refine Kd.C_alloc ?_ _) | (with_reducible refine Kd.C_drewN ?_ _) | (with_reducible refine Kd.C_drew ?_) | exact HR341.out)) | (with_reducible refine Kd.C_alloc ?_ _) | (with_reducible refine Kd.C_drewN ?_ _) | (with_reducible refine Kd.C_drew ?_))); (case side2 => exact HC341.out); rintro e w60 ⟨v344, rfl, ho0, hb⟩; refine ⟨_, rfl, ?_⟩; have n0_ := Aside0.mk (Kd.R_below (by (with_reducible repeat (first | apply Kd.R_alloc | apply Kd.R_drewN | apply Kd.R_drew)); exact HO_7.out) hb); have n1_ := Aside0.mk (Kd.R_below (by (with_reducible repeat (first | apply Kd.R_alloc | apply Kd.R_drewN | apply Kd.R_drew)); exact HO_8.out) hb); have n2_ := Aside0.mk (Kd.S_lower (Kd.S_new' ho0 (Kd.R_lt (by (with_reducible repeat (first | apply Kd.R_alloc | apply Kd.R_drewN | apply Kd.R_drew)); exact HO_7.out))) (below_size (by repeat (first | (with_reducible first | exact HB.out | apply below_alloc | apply pw_below_drewN | apply below_drew1) | exact HB.out)))); have n3_ := Aside0.mk (Kd.C_below (by repeat (first | (with_reducible exact HR341.out) | (with_reducible refine Kd.C_alloc ?_ _) | (with_reducible refine Kd.C_drewN ?_ _) | (with_reducible refine Kd.C_drew ?_) | exact HR341.out)) hb); have n4_ := Aside0.mk (below_step (by repeat (first | (with_reducible first | exact HB.out | apply below_alloc | apply pw_below_drewN | apply below_drew1) | exact HB.out)) hb); clear HO_7; clear HO_8; clear HR341; clear HB; have HO_7 := n0_; have HO_8 := n1_; have HO345 := n2_; have HR341 := n3_; have HB := n4_; clear n0_ n1_ n2_ n3_ n4_; (try clear hb); (try clear hb2); (try clear hk); (try clear hi); (try clear ho0); have q61 : (x14_4 : Int) ≤ ((l1.length : Int) : Int) := of_decide_eq_true (by first | (with_reducible assumption) | assumption); obtain ⟨i061, hi061, _, hsz61, _⟩ := info_parts info25; have hroom61 : l1.length ≤ c1 := HC1.out; have hC61 : Kd.C k25 _ A1 l1.length l1 := HR1.out; have hcut61 := cut_to (P := Try.prog) 35 25 .i64 Try.underlying35 hi061 A1 l1.length c1 x14_4 (of_decide_eq_true (by first | (with_reducible assumption) | assumption)) q61 hroom61; have hr61 := Kd.C_take (m := (x14_4 : Int).toNat) hC61 (by omega); have hy61 : y346.length = (x14_4 : Int).toNat := (by rw [Ny346.out, List.length_take]; omega); rw [← Ny346.out] at hr61; rw [← hy61] at hcut61; have HR349 := Aside0.mk hr61; have HC349 := Aside0.mk (show y346.length ≤ c1 from by omega); clear hr61 hC61 hroom61 hi061 hsz61; have KY61 := Aside0.mk hy61; clear hy61; replace q61 := eq_true q61; obtain ⟨Ao62, co62, eo62⟩ := Kd.S_slice HO345.out; subst eo62) | ((with_reducible refine gate_callee (f := 19) rfl ?_); refine goesL_ (some 108) rfl rfl Try.func19 (by kernel_rfl) rfl #[.slice Ao62 t342.length co62, .slice A1 y346.length c1] rfl (by (try simp only [List.map_toArray, List.map_cons, List.map_nil]); first | done | rfl | (simp only [List.length_drop, List.length_take]; rfl)) ?_; (with_reducible refine (fairleadref14_Same.calls k4 _ _ t342 _ _ y346 true _ ?side1 ?side2 ?side3 ?side4 A53.out).mono ?_); (case side1 => repeat (first | exact (Kd.S_reads' HO345.out).2.2 | (with_reducible refine Kd.C_alloc ?_ _) | (with_reducible refine Kd.C_drewN ?_ _) | (with_reducible refine Kd.C_drew ?_))); (case side2 => exact (Kd.S_reads' HO345.out).2.1); (case side3 => repeat (first | exact (Kd.C_below HR349.out HB.out) | (with_reducible refine Kd.C_alloc ?_ _) | (with_reducible refine Kd.C_drewN ?_ _) | (with_reducible refine Kd.C_drew ?_))); (case side4 => exact HC349.out); rintro e w63 ⟨rfl, hb⟩; refine ⟨_, rfl, ?_⟩; have n0_ := Aside0.mk (Kd.R_below (by (with_reducible repeat (first | apply Kd.R_alloc | apply Kd.R_drewN | apply Kd.R_drew)); exact HO_7.out) hb); have n1_ := Aside0.mk (Kd.R_below (by (with_reducible repeat (first | apply Kd.R_alloc | apply Kd.R_drewN | apply Kd.R_drew)); exact HO_8.out) hb); have n2_ := Aside0.mk (Kd.S_below (by (with_reducible repeat (first | apply Kd.S_alloc | apply Kd.S_drewN | apply Kd.S_drew)); exact HO345.out) hb); have n3_ := Aside0.mk (Kd.C_below (by repeat (first | (with_reducible exact HR341.out) | (with_reducible refine Kd.C_alloc ?_ _) | (with_reducible refine Kd.C_drewN ?_ _) | (with_reducible refine Kd.C_drew ?_) | exact HR341.out)) hb); have n4_ := Aside0.mk (below_step (by repeat (first | (with_reducible first | exact HB.out | apply below_alloc | apply pw_below_drewN | apply below_drew1) | exact HB.out)) hb); clear HO_7; clear HO_8; clear HO345; clear HR341; clear HB; have HO_7 := n0_; have HO_8 := n1_; have HO345 := n2_; have HR341 := n3_; have HB := n4_; clear n0_ n1_ n2_ n3_ n4_; (try clear hb); (try clear hb2); (try clear hk); (try clear hi); have p351 : 0 ≤ (x14_4 : Int) := of_decide_eq_true (by first | (with_reducible assumption) | assumption); have q351 : x14_4 < (x8_1.length : Int) := of_decide_eq_true (by first | (with_reducible assumption) | assumption); obtain ⟨ad351, e351, hx351_0⟩ := Kd.at_int (Kd.R_reads' HO_8.out).2.2 x14_4 p351 q351; obtain rfl : ad337 = ad351 := (by injection e351); replace p351 := eq_true p351; replace q351 := eq_true q351) | (go_at_call 12; (with_reducible refine (fairleadlaw14_heads.calls k4  t352 _ A57.out).mono ?_); rintro e w64 ⟨rfl, hb⟩; have n0_ := Aside0.mk (Kd.R_below (by (with_reducible repeat (first | apply Kd.R_alloc | apply Kd.R_drewN | apply Kd.R_drew)); exact HO_7.out) hb); have n1_ := Aside0.mk (Kd.R_below (by (with_reducible repeat (first | apply Kd.R_alloc | apply Kd.R_drewN | apply Kd.R_drew)); exact HO_8.out) hb); have n2_ := Aside0.mk (Kd.S_below (by (with_reducible repeat (first | apply Kd.S_alloc | apply Kd.S_drewN | apply Kd.S_drew)); exact HO345.out) hb); have n3_ := Aside0.mk (Kd.C_below (by repeat (first | (with_reducible exact HR341.out) | (with_reducible refine Kd.C_alloc ?_ _) | (with_reducible refine Kd.C_drewN ?_ _) | (with_reducible refine Kd.C_drew ?_) | exact HR341.out)) hb); have n4_ := Aside0.mk (below_step (by repeat (first | (with_reducible first | exact HB.out | apply below_alloc | apply pw_below_drewN | apply below_drew1) | exact HB.out)) hb); clear HO_7; clear HO_8; clear HO345; clear HR341; clear HB; have HO_7 := n0_; have HO_8 := n1_; have HO345 := n2_; have HR341 := n3_; have HB := n4_; clear n0_ n1_ n2_ n3_ n4_; (try clear hb); (try clear hb2); (try clear hk); (try clear hi)))
                                              go_ret
                                              exact ⟨by first | rfl | (simp [errW_none, errW_some] <;> rfl) | (simp only [← hji44]; first | rfl | (simp [errW_none, errW_some] <;> rfl)) | (simp [*, errW_none, errW_some] <;> rfl), by repeat (first | (with_reducible first | exact HB.out | apply below_alloc | apply pw_below_drewN | apply below_drew1) | exact HB.out)⟩
                                            · rw [if_neg c56] at H
                                              have c56b0 : (t343 == (rd x8_1 x14_4)) = false := beq_eq_false_iff_ne.mpr c56
                                              have c56b1 : (t343 != (rd x8_1 x14_4)) = true := bne_iff_ne.mpr c56
                                              obtain rfl := Option.some.inj H
                                              obtain ⟨Ao65, co65, eo65⟩ := Kd.R_slice HO_8.out
                                              subst eo65
                                              have p337 : 0 ≤ ((ji44) : Int) := of_decide_eq_true (by first | (with_reducible assumption) | assumption)
                                              have q337 : (ji44) < (x8_1.length : Int) := of_decide_eq_true (by first | (with_reducible assumption) | assumption)
                                              obtain ⟨ad337, e337, hx337_0⟩ := Kd.at_int (Kd.R_reads' HO_8.out).2.2 (ji44) p337 q337
                                              cases e337
                                              replace p337 := eq_true p337
                                              replace q337 := eq_true q337
                                              have q66 : (a2 : Int) ≤ ((x7_1.length : Int) : Int) := of_decide_eq_true (by first | (with_reducible assumption) | assumption)
                                              obtain ⟨i066, hi066, _, hsz66, _⟩ := info_parts info5
                                              have hroom66 : x7_1.length ≤ co29 := (Kd.R_reads' HO_7.out).2.1
                                              have hC66 : Kd.C (Kd.int .u8) _ Ao29 x7_1.length x7_1 := (Kd.R_reads' HO_7.out).2.2
                                              have hcut66 := cut_to (P := Try.prog) 23 5 .i64 Try.underlying23 hi066 Ao29 x7_1.length co29 a2 (of_decide_eq_true (by first | (with_reducible assumption) | assumption)) q66 hroom66
                                              have hr66 := Kd.C_take (m := (a2 : Int).toNat) hC66 (by omega)
                                              have hy66 : y338.length = (a2 : Int).toNat := (by rw [Ny338.out, List.length_take]; omega)
                                              rw [← Ny338.out] at hr66
                                              rw [← hy66] at hcut66
                                              have HR341 := Aside0.mk hr66
                                              have HC341 := Aside0.mk (show y338.length ≤ co29 from by omega)
                                              clear hr66 hC66 hroom66 hi066 hsz66
                                              have KY66 := Aside0.mk hy66
                                              clear hy66
                                              have KL66 := Aside0.mk (show (a2 : Int).toNat ≤ x7_1.length from by omega)
                                              replace q66 := eq_true q66
                                              go_wp2_with (first | ((with_reducible refine gate_callee (f := 18) rfl ?_); refine goesL_ (some 101) rfl rfl Try.func18 (by kernel_rfl) rfl #[.int .u64 a0, .slice Ao29 y338.length co29] rfl (by (try simp only [List.map_toArray, List.map_cons, List.map_nil]); first | done | rfl | (simp only [List.length_drop, List.length_take]; rfl)) ?_; (with_reducible refine (record_Scan.calls k4 a0 _ _ y338 t342 t343 _ ?side1 ?side2 A50.out).mono ?_); (case side1 => repeat (first | exact (by repeat (first | (with_reducible exact HR341.out) | (with_reducible refine Kd.C_alloc ?_ _) | (with_reducible refine Kd.C_drewN ?_ _) | (with_reducible refine Kd.C_drew ?_) | exact HR341.out)) | (with_reducible refine Kd.C_alloc ?_ _) | (with_reducible refine Kd.C_drewN ?_ _) | (with_reducible refine Kd.C_drew ?_))); (case side2 => exact HC341.out); rintro e w67 ⟨v344, rfl, ho0, hb⟩; refine ⟨_, rfl, ?_⟩; have n0_ := Aside0.mk (Kd.R_below (by (with_reducible repeat (first | apply Kd.R_alloc | apply Kd.R_drewN | apply Kd.R_drew)); exact HO_7.out) hb); have n1_ := Aside0.mk (Kd.R_below (by (with_reducible repeat (first | apply Kd.R_alloc | apply Kd.R_drewN | apply Kd.R_drew)); exact HO_8.out) hb); have n2_ := Aside0.mk (Kd.S_lower (Kd.S_new' ho0 (Kd.R_lt (by (with_reducible repeat (first | apply Kd.R_alloc | apply Kd.R_drewN | apply Kd.R_drew)); exact HO_7.out))) (below_size (by repeat (first | (with_reducible first | exact HB.out | apply below_alloc | apply pw_below_drewN | apply below_drew1) | exact HB.out)))); have n3_ := Aside0.mk (Kd.C_below (by repeat (first | (with_reducible exact HR341.out) | (with_reducible refine Kd.C_alloc ?_ _) | (with_reducible refine Kd.C_drewN ?_ _) | (with_reducible refine Kd.C_drew ?_) | exact HR341.out)) hb); have n4_ := Aside0.mk (below_step (by repeat (first | (with_reducible first | exact HB.out | apply below_alloc | apply pw_below_drewN | apply below_drew1) | exact HB.out)) hb); clear HO_7; clear HO_8; clear HR341; clear HB; have HO_7 := n0_; have HO_8 := n1_; have HO345 := n2_; have HR341 := n3_; have HB := n4_; clear n0_ n1_ n2_ n3_ n4_; (try clear hb); (try clear hb2); (try clear hk); (try clear hi); (try clear ho0); have q68 : (x14_4 : Int) ≤ ((l1.length : Int) : Int) := of_decide_eq_true (by first | (with_reducible assumption) | assumption); obtain ⟨i068, hi068, _, hsz68, _⟩ := info_parts info25; have hroom68 : l1.length ≤ c1 := HC1.out; have hC68 : Kd.C k25 _ A1 l1.length l1 := HR1.out; have hcut68 := cut_to (P := Try.prog) 35 25 .i64 Try.underlying35 hi068 A1 l1.length c1 x14_4 (of_decide_eq_true (by first | (with_reducible assumption) | assumption)) q68 hroom68; have hr68 := Kd.C_take (m := (x14_4 : Int).toNat) hC68 (by omega); have hy68 : y346.length = (x14_4 : Int).toNat := (by rw [Ny346.out, List.length_take]; omega); rw [← Ny346.out] at hr68; rw [← hy68] at hcut68; have HR349 := Aside0.mk hr68; have HC349 := Aside0.mk (show y346.length ≤ c1 from by omega); clear hr68 hC68 hroom68 hi068 hsz68; have KY68 := Aside0.mk hy68; clear hy68; replace q68 := eq_true q68; obtain ⟨Ao69, co69, eo69⟩ := Kd.S_slice HO345.out; subst eo69) | ((with_reducible refine gate_callee (f := 19) rfl ?_); refine goesL_ (some 108) rfl rfl Try.func19 (by kernel_rfl) rfl #[.slice Ao69 t342.length co69, .slice A1 y346.length c1] rfl (by (try simp only [List.map_toArray, List.map_cons, List.map_nil]); first | done | rfl | (simp only [List.length_drop, List.length_take]; rfl)) ?_; (with_reducible refine (fairleadref14_Same.calls k4 _ _ t342 _ _ y346 true _ ?side1 ?side2 ?side3 ?side4 A53.out).mono ?_); (case side1 => repeat (first | exact (Kd.S_reads' HO345.out).2.2 | (with_reducible refine Kd.C_alloc ?_ _) | (with_reducible refine Kd.C_drewN ?_ _) | (with_reducible refine Kd.C_drew ?_))); (case side2 => exact (Kd.S_reads' HO345.out).2.1); (case side3 => repeat (first | exact (Kd.C_below HR349.out HB.out) | (with_reducible refine Kd.C_alloc ?_ _) | (with_reducible refine Kd.C_drewN ?_ _) | (with_reducible refine Kd.C_drew ?_))); (case side4 => exact HC349.out); rintro e w70 ⟨rfl, hb⟩; refine ⟨_, rfl, ?_⟩; have n0_ := Aside0.mk (Kd.R_below (by (with_reducible repeat (first | apply Kd.R_alloc | apply Kd.R_drewN | apply Kd.R_drew)); exact HO_7.out) hb); have n1_ := Aside0.mk (Kd.R_below (by (with_reducible repeat (first | apply Kd.R_alloc | apply Kd.R_drewN | apply Kd.R_drew)); exact HO_8.out) hb); have n2_ := Aside0.mk (Kd.S_below (by (with_reducible repeat (first | apply Kd.S_alloc | apply Kd.S_drewN | apply Kd.S_drew)); exact HO345.out) hb); have n3_ := Aside0.mk (Kd.C_below (by repeat (first | (with_reducible exact HR341.out) | (with_reducible refine Kd.C_alloc ?_ _) | (with_reducible refine Kd.C_drewN ?_ _) | (with_reducible refine Kd.C_drew ?_) | exact HR341.out)) hb); have n4_ := Aside0.mk (below_step (by repeat (first | (with_reducible first | exact HB.out | apply below_alloc | apply pw_below_drewN | apply below_drew1) | exact HB.out)) hb); clear HO_7; clear HO_8; clear HO345; clear HR341; clear HB; have HO_7 := n0_; have HO_8 := n1_; have HO345 := n2_; have HR341 := n3_; have HB := n4_; clear n0_ n1_ n2_ n3_ n4_; (try clear hb); (try clear hb2); (try clear hk); (try clear hi); have p351 : 0 ≤ (x14_4 : Int) := of_decide_eq_true (by first | (with_reducible assumption) | assumption); have q351 : x14_4 < (x8_1.length : Int) := of_decide_eq_true (by first | (with_reducible assumption) | assumption); obtain ⟨ad351, e351, hx351_0⟩ := Kd.at_int (Kd.R_reads' HO_8.out).2.2 x14_4 p351 q351; obtain rfl : ad337 = ad351 := (by injection e351); replace p351 := eq_true p351; replace q351 := eq_true q351))
                                              go_ret
                                              exact ⟨by first | rfl | (simp [errW_none, errW_some] <;> rfl) | (simp only [← hji44]; first | rfl | (simp [errW_none, errW_some] <;> rfl)) | (simp [*, errW_none, errW_some] <;> rfl), by repeat (first | (with_reducible first | exact HB.out | apply below_alloc | apply pw_below_drewN | apply below_drew1) | exact HB.out)⟩
                                          · rw [if_neg c55] at H
                                            exact absurd H (by simp)
                                        · replace c54 := Bool.eq_false_iff.mpr c54
                                          subst c54
                                          have H1 : (some false) = some r := by rw [if_neg (show ¬ (false = true) by decide)] at H; exact H
                                          clear H
                                          have H := H1
                                          clear H1
                                          obtain rfl := Option.some.inj H
                                          obtain ⟨Ao71, co71, eo71⟩ := Kd.R_slice HO_8.out
                                          subst eo71
                                          have p337 : 0 ≤ ((ji44) : Int) := of_decide_eq_true (by first | (with_reducible assumption) | assumption)
                                          have q337 : (ji44) < (x8_1.length : Int) := of_decide_eq_true (by first | (with_reducible assumption) | assumption)
                                          obtain ⟨ad337, e337, hx337_0⟩ := Kd.at_int (Kd.R_reads' HO_8.out).2.2 (ji44) p337 q337
                                          cases e337
                                          replace p337 := eq_true p337
                                          replace q337 := eq_true q337
                                          have q72 : (a2 : Int) ≤ ((x7_1.length : Int) : Int) := of_decide_eq_true (by first | (with_reducible assumption) | assumption)
                                          obtain ⟨i072, hi072, _, hsz72, _⟩ := info_parts info5
                                          have hroom72 : x7_1.length ≤ co29 := (Kd.R_reads' HO_7.out).2.1
                                          have hC72 : Kd.C (Kd.int .u8) _ Ao29 x7_1.length x7_1 := (Kd.R_reads' HO_7.out).2.2
                                          have hcut72 := cut_to (P := Try.prog) 23 5 .i64 Try.underlying23 hi072 Ao29 x7_1.length co29 a2 (of_decide_eq_true (by first | (with_reducible assumption) | assumption)) q72 hroom72
                                          have hr72 := Kd.C_take (m := (a2 : Int).toNat) hC72 (by omega)
                                          have hy72 : y338.length = (a2 : Int).toNat := (by rw [Ny338.out, List.length_take]; omega)
                                          rw [← Ny338.out] at hr72
                                          rw [← hy72] at hcut72
                                          have HR341 := Aside0.mk hr72
                                          have HC341 := Aside0.mk (show y338.length ≤ co29 from by omega)
                                          clear hr72 hC72 hroom72 hi072 hsz72
                                          have KY72 := Aside0.mk hy72
                                          clear hy72
                                          have KL72 := Aside0.mk (show (a2 : Int).toNat ≤ x7_1.length from by omega)
                                          replace q72 := eq_true q72
                                          go_wp2_with (first | ((with_reducible refine gate_callee (f := 18) rfl ?_); refine goesL_ (some 101) rfl rfl Try.func18 (by kernel_rfl) rfl #[.int .u64 a0, .slice Ao29 y338.length co29] rfl (by (try simp only [List.map_toArray, List.map_cons, List.map_nil]); first | done | rfl | (simp only [List.length_drop, List.length_take]; rfl)) ?_; (with_reducible refine (record_Scan.calls k4 a0 _ _ y338 t342 t343 _ ?side1 ?side2 A50.out).mono ?_); (case side1 => repeat (first | exact (by repeat (first | (with_reducible exact HR341.out) | (with_reducible refine Kd.C_alloc ?_ _) | (with_reducible refine Kd.C_drewN ?_ _) | (with_reducible refine Kd.C_drew ?_) | exact HR341.out)) | (with_reducible refine Kd.C_alloc ?_ _) | (with_reducible refine Kd.C_drewN ?_ _) | (with_reducible refine Kd.C_drew ?_))); (case side2 => exact HC341.out); rintro e w73 ⟨v344, rfl, ho0, hb⟩; refine ⟨_, rfl, ?_⟩; have n0_ := Aside0.mk (Kd.R_below (by (with_reducible repeat (first | apply Kd.R_alloc | apply Kd.R_drewN | apply Kd.R_drew)); exact HO_7.out) hb); have n1_ := Aside0.mk (Kd.R_below (by (with_reducible repeat (first | apply Kd.R_alloc | apply Kd.R_drewN | apply Kd.R_drew)); exact HO_8.out) hb); have n2_ := Aside0.mk (Kd.S_lower (Kd.S_new' ho0 (Kd.R_lt (by (with_reducible repeat (first | apply Kd.R_alloc | apply Kd.R_drewN | apply Kd.R_drew)); exact HO_7.out))) (below_size (by repeat (first | (with_reducible first | exact HB.out | apply below_alloc | apply pw_below_drewN | apply below_drew1) | exact HB.out)))); have n3_ := Aside0.mk (Kd.C_below (by repeat (first | (with_reducible exact HR341.out) | (with_reducible refine Kd.C_alloc ?_ _) | (with_reducible refine Kd.C_drewN ?_ _) | (with_reducible refine Kd.C_drew ?_) | exact HR341.out)) hb); have n4_ := Aside0.mk (below_step (by repeat (first | (with_reducible first | exact HB.out | apply below_alloc | apply pw_below_drewN | apply below_drew1) | exact HB.out)) hb); clear HO_7; clear HO_8; clear HR341; clear HB; have HO_7 := n0_; have HO_8 := n1_; have HO345 := n2_; have HR341 := n3_; have HB := n4_; clear n0_ n1_ n2_ n3_ n4_; (try clear hb); (try clear hb2); (try clear hk); (try clear hi); (try clear ho0); have q74 : (x14_4 : Int) ≤ ((l1.length : Int) : Int) := of_decide_eq_true (by first | (with_reducible assumption) | assumption); obtain ⟨i074, hi074, _, hsz74, _⟩ := info_parts info25; have hroom74 : l1.length ≤ c1 := HC1.out; have hC74 : Kd.C k25 _ A1 l1.length l1 := HR1.out; have hcut74 := cut_to (P := Try.prog) 35 25 .i64 Try.underlying35 hi074 A1 l1.length c1 x14_4 (of_decide_eq_true (by first | (with_reducible assumption) | assumption)) q74 hroom74; have hr74 := Kd.C_take (m := (x14_4 : Int).toNat) hC74 (by omega); have hy74 : y346.length = (x14_4 : Int).toNat := (by rw [Ny346.out, List.length_take]; omega); rw [← Ny346.out] at hr74; rw [← hy74] at hcut74; have HR349 := Aside0.mk hr74; have HC349 := Aside0.mk (show y346.length ≤ c1 from by omega); clear hr74 hC74 hroom74 hi074 hsz74; have KY74 := Aside0.mk hy74; clear hy74; replace q74 := eq_true q74; obtain ⟨Ao75, co75, eo75⟩ := Kd.S_slice HO345.out; subst eo75) | ((with_reducible refine gate_callee (f := 19) rfl ?_); refine goesL_ (some 108) rfl rfl Try.func19 (by kernel_rfl) rfl #[.slice Ao75 t342.length co75, .slice A1 y346.length c1] rfl (by (try simp only [List.map_toArray, List.map_cons, List.map_nil]); first | done | rfl | (simp only [List.length_drop, List.length_take]; rfl)) ?_; (with_reducible refine (fairleadref14_Same.calls k4 _ _ t342 _ _ y346 false _ ?side1 ?side2 ?side3 ?side4 A53.out).mono ?_); (case side1 => repeat (first | exact (Kd.S_reads' HO345.out).2.2 | (with_reducible refine Kd.C_alloc ?_ _) | (with_reducible refine Kd.C_drewN ?_ _) | (with_reducible refine Kd.C_drew ?_))); (case side2 => exact (Kd.S_reads' HO345.out).2.1); (case side3 => repeat (first | exact (Kd.C_below HR349.out HB.out) | (with_reducible refine Kd.C_alloc ?_ _) | (with_reducible refine Kd.C_drewN ?_ _) | (with_reducible refine Kd.C_drew ?_))); (case side4 => exact HC349.out); rintro e w76 ⟨rfl, hb⟩; refine ⟨_, rfl, ?_⟩; have n0_ := Aside0.mk (Kd.R_below (by (with_reducible repeat (first | apply Kd.R_alloc | apply Kd.R_drewN | apply Kd.R_drew)); exact HO_7.out) hb); have n1_ := Aside0.mk (Kd.R_below (by (with_reducible repeat (first | apply Kd.R_alloc | apply Kd.R_drewN | apply Kd.R_drew)); exact HO_8.out) hb); have n2_ := Aside0.mk (Kd.S_below (by (with_reducible repeat (first | apply Kd.S_alloc | apply Kd.S_drewN | apply Kd.S_drew)); exact HO345.out) hb); have n3_ := Aside0.mk (Kd.C_below (by repeat (first | (with_reducible exact HR341.out) | (with_reducible refine Kd.C_alloc ?_ _) | (with_reducible refine Kd.C_drewN ?_ _) | (with_reducible refine Kd.C_drew ?_) | exact HR341.out)) hb); have n4_ := Aside0.mk (below_step (by repeat (first | (with_reducible first | exact HB.out | apply below_alloc | apply pw_below_drewN | apply below_drew1) | exact HB.out)) hb); clear HO_7; clear HO_8; clear HO345; clear HR341; clear HB; have HO_7 := n0_; have HO_8 := n1_; have HO345 := n2_; have HR341 := n3_; have HB := n4_; clear n0_ n1_ n2_ n3_ n4_; (try clear hb); (try clear hb2); (try clear hk); (try clear hi)))
                                          go_ret
                                          exact ⟨by first | rfl | (simp [errW_none, errW_some] <;> rfl) | (simp only [← hji44]; first | rfl | (simp [errW_none, errW_some] <;> rfl)) | (simp [*, errW_none, errW_some] <;> rfl), by repeat (first | (with_reducible first | exact HB.out | apply below_alloc | apply pw_below_drewN | apply below_drew1) | exact HB.out)⟩
                                      · rw [if_neg c52] at H
                                        exact absurd H (by simp)
                                    · rw [if_neg c51] at H
                                      exact absurd H (by simp)
                                  · rw [if_neg c49] at H
                                    exact absurd H (by simp)
                                · rw [if_neg c48] at H
                                  exact absurd H (by simp)
                            · rw [if_neg c45] at H
                              exact absurd H (by simp)
                          · rw [if_neg c43] at H
                            have c43b0 : decide ((wrap64 (x14_4 + 1)) < (x8_1.length : Int)) = false := decide_eq_false c43
                            clear c43
                            by_cases c77 : 0 ≤ a2
                            · rw [if_pos c77] at H
                              have c77b0 := eq_true c77
                              have c77b1 : decide (0 ≤ a2) = true := decide_eq_true c77
                              clear c77
                              by_cases c78 : a2 ≤ (x7_1.length : Int)
                              · rw [if_pos c78] at H
                                have c78b0 := eq_true c78
                                have c78b1 : decide (a2 ≤ (x7_1.length : Int)) = true := decide_eq_true c78
                                clear c78
                                obtain ⟨y353, hy353⟩ : ∃ y_ : List Int, y_ = (x7_1.take (a2 : Int).toNat) := ⟨_, rfl⟩
                                replace H : ((record_Scan.f k4 a0 y353).bind fun bt357 => (if 0 ≤ x14_4 then (if x14_4 ≤ (l1.length : Int) then ((fairleadref14_Same.f k4 bt357.1 (l1.take (x14_4 : Int).toNat)).bind fun t365 => (if t365 = true then (if x14_4 < (x8_1.length : Int) then (if bt357.2 = (rd x8_1 x14_4) then ((fairleadlaw14_heads.f k4).bind fun t367 => (some t367)) else (some false)) else (none)) else (some false))) else (none)) else (none))) = some r := by first | (rw [hy353]; with_reducible exact H) | (have H2_ := (Option.bind_some _ _).symm.trans H; rw [hy353]; with_reducible exact H2_) | (have H2_ := (Option.bind_some _ _).symm.trans H; with_reducible exact H2_) | with_reducible exact H | (rw [hy353]; exact H) | exact H
                                have Ny353 := Aside0.mk hy353
                                clear hy353
                                replace H := Option.bind_eq_some_iff.mp H
                                obtain ⟨⟨t357, t358⟩, A790, H⟩ := H
                                replace H : (if 0 ≤ x14_4 then (if x14_4 ≤ (l1.length : Int) then ((fairleadref14_Same.f k4 t357 (l1.take (x14_4 : Int).toNat)).bind fun t365 => (if t365 = true then (if x14_4 < (x8_1.length : Int) then (if t358 = (rd x8_1 x14_4) then ((fairleadlaw14_heads.f k4).bind fun t367 => (some t367)) else (some false)) else (none)) else (some false))) else (none)) else (none)) = some r := H
                                have A79 := Aside0.mk A790
                                clear A790
                                by_cases c80 : 0 ≤ x14_4
                                · rw [if_pos c80] at H
                                  have c80b0 := eq_true c80
                                  have c80b1 : decide (0 ≤ x14_4) = true := decide_eq_true c80
                                  clear c80
                                  by_cases c81 : x14_4 ≤ (l1.length : Int)
                                  · rw [if_pos c81] at H
                                    have c81b0 := eq_true c81
                                    have c81b1 : decide (x14_4 ≤ (l1.length : Int)) = true := decide_eq_true c81
                                    clear c81
                                    obtain ⟨y361, hy361⟩ : ∃ y_ : List (S25), y_ = (l1.take (x14_4 : Int).toNat) := ⟨_, rfl⟩
                                    replace H : ((fairleadref14_Same.f k4 t357 y361).bind fun t365 => (if t365 = true then (if x14_4 < (x8_1.length : Int) then (if t358 = (rd x8_1 x14_4) then ((fairleadlaw14_heads.f k4).bind fun t367 => (some t367)) else (some false)) else (none)) else (some false))) = some r := by first | (rw [hy361]; with_reducible exact H) | (have H2_ := (Option.bind_some _ _).symm.trans H; rw [hy361]; with_reducible exact H2_) | (have H2_ := (Option.bind_some _ _).symm.trans H; with_reducible exact H2_) | with_reducible exact H | (rw [hy361]; exact H) | exact H
                                    have Ny361 := Aside0.mk hy361
                                    clear hy361
                                    replace H := Option.bind_eq_some_iff.mp H
                                    obtain ⟨t365, A820, H⟩ := H
                                    replace H : (if t365 = true then (if x14_4 < (x8_1.length : Int) then (if t358 = (rd x8_1 x14_4) then ((fairleadlaw14_heads.f k4).bind fun t367 => (some t367)) else (some false)) else (none)) else (some false)) = some r := H
                                    have A82 := Aside0.mk A820
                                    clear A820
                                    by_cases c83 : t365 = true
                                    · subst c83
                                      have H1 : (if x14_4 < (x8_1.length : Int) then (if t358 = (rd x8_1 x14_4) then ((fairleadlaw14_heads.f k4).bind fun t367 => (some t367)) else (some false)) else (none)) = some r := by rw [if_pos rfl] at H; exact H
                                      clear H
                                      have H := H1
                                      clear H1
                                      by_cases c84 : x14_4 < (x8_1.length : Int)
                                      · rw [if_pos c84] at H
                                        have c84b0 : decide (x14_4 < (x8_1.length : Int)) = true := decide_eq_true c84
                                        clear c84
                                        by_cases c85 : t358 = (rd x8_1 x14_4)
                                        · rw [if_pos c85] at H
                                          have c85b0 : (t358 == (rd x8_1 x14_4)) = true := beq_iff_eq.mpr c85
                                          have c85b1 : (t358 != (rd x8_1 x14_4)) = false := bne_eq_false_iff_eq.mpr c85
                                          clear c85
                                          replace H := Option.bind_eq_some_iff.mp H
                                          obtain ⟨t367, A860, H⟩ := H
                                          replace H : (some t367) = some r := H
                                          have A86 := Aside0.mk A860
                                          clear A860
                                          obtain rfl := Option.some.inj H
                                          obtain ⟨Ao87, co87, eo87⟩ := Kd.R_slice HO_8.out
                                          subst eo87
                                          have q88 : (a2 : Int) ≤ ((x7_1.length : Int) : Int) := of_decide_eq_true (by first | (with_reducible assumption) | assumption)
                                          obtain ⟨i088, hi088, _, hsz88, _⟩ := info_parts info5
                                          have hroom88 : x7_1.length ≤ co29 := (Kd.R_reads' HO_7.out).2.1
                                          have hC88 : Kd.C (Kd.int .u8) _ Ao29 x7_1.length x7_1 := (Kd.R_reads' HO_7.out).2.2
                                          have hcut88 := cut_to (P := Try.prog) 23 5 .i64 Try.underlying23 hi088 Ao29 x7_1.length co29 a2 (of_decide_eq_true (by first | (with_reducible assumption) | assumption)) q88 hroom88
                                          have hr88 := Kd.C_take (m := (a2 : Int).toNat) hC88 (by omega)
                                          have hy88 : y353.length = (a2 : Int).toNat := (by rw [Ny353.out, List.length_take]; omega)
                                          rw [← Ny353.out] at hr88
                                          rw [← hy88] at hcut88
                                          have HR356 := Aside0.mk hr88
                                          have HC356 := Aside0.mk (show y353.length ≤ co29 from by omega)
                                          clear hr88 hC88 hroom88 hi088 hsz88
                                          have KY88 := Aside0.mk hy88
                                          clear hy88
                                          have KL88 := Aside0.mk (show (a2 : Int).toNat ≤ x7_1.length from by omega)
                                          replace q88 := eq_true q88
                                          go_wp2_with (first | ((with_reducible refine gate_callee (f := 18) rfl ?_); refine goesL_ (some 101) rfl rfl Try.func18 (by kernel_rfl) rfl #[.int .u64 a0, .slice Ao29 y353.length co29] rfl (by (try simp only [List.map_toArray, List.map_cons, List.map_nil]); first | done | rfl | (simp only [List.length_drop, List.length_take]; rfl)) ?_; (with_reducible refine (record_Scan.calls k4 a0 _ _ y353 t357 t358 _ ?side1 ?side2 A79.out).mono ?_); (case side1 => repeat (first | exact (by repeat (first | (with_reducible exact HR356.out) | (with_reducible refine Kd.C_alloc ?_ _) | (with_reducible refine Kd.C_drewN ?_ _) | (with_reducible refine Kd.C_drew ?_) | exact HR356.out)) | (with_reducible refine Kd.C_alloc ?_ _) | (with_reducible refine Kd.C_drewN ?_ _) | (with_reducible refine Kd.C_drew ?_))); (case side2 => exact HC356.out); rintro e w89 ⟨v359, rfl, ho0, hb⟩; refine ⟨_, rfl, ?_⟩; have n0_ := Aside0.mk (Kd.R_below (by (with_reducible repeat (first | apply Kd.R_alloc | apply Kd.R_drewN | apply Kd.R_drew)); exact HO_7.out) hb); have n1_ := Aside0.mk (Kd.R_below (by (with_reducible repeat (first | apply Kd.R_alloc | apply Kd.R_drewN | apply Kd.R_drew)); exact HO_8.out) hb); have n2_ := Aside0.mk (Kd.S_lower (Kd.S_new' ho0 (Kd.R_lt (by (with_reducible repeat (first | apply Kd.R_alloc | apply Kd.R_drewN | apply Kd.R_drew)); exact HO_7.out))) (below_size (by repeat (first | (with_reducible first | exact HB.out | apply below_alloc | apply pw_below_drewN | apply below_drew1) | exact HB.out)))); have n3_ := Aside0.mk (Kd.C_below (by repeat (first | (with_reducible exact HR356.out) | (with_reducible refine Kd.C_alloc ?_ _) | (with_reducible refine Kd.C_drewN ?_ _) | (with_reducible refine Kd.C_drew ?_) | exact HR356.out)) hb); have n4_ := Aside0.mk (below_step (by repeat (first | (with_reducible first | exact HB.out | apply below_alloc | apply pw_below_drewN | apply below_drew1) | exact HB.out)) hb); clear HO_7; clear HO_8; clear HR356; clear HB; have HO_7 := n0_; have HO_8 := n1_; have HO360 := n2_; have HR356 := n3_; have HB := n4_; clear n0_ n1_ n2_ n3_ n4_; (try clear hb); (try clear hb2); (try clear hk); (try clear hi); (try clear ho0); have q90 : (x14_4 : Int) ≤ ((l1.length : Int) : Int) := of_decide_eq_true (by first | (with_reducible assumption) | assumption); obtain ⟨i090, hi090, _, hsz90, _⟩ := info_parts info25; have hroom90 : l1.length ≤ c1 := HC1.out; have hC90 : Kd.C k25 _ A1 l1.length l1 := HR1.out; have hcut90 := cut_to (P := Try.prog) 35 25 .i64 Try.underlying35 hi090 A1 l1.length c1 x14_4 (of_decide_eq_true (by first | (with_reducible assumption) | assumption)) q90 hroom90; have hr90 := Kd.C_take (m := (x14_4 : Int).toNat) hC90 (by omega); have hy90 : y361.length = (x14_4 : Int).toNat := (by rw [Ny361.out, List.length_take]; omega); rw [← Ny361.out] at hr90; rw [← hy90] at hcut90; have HR364 := Aside0.mk hr90; have HC364 := Aside0.mk (show y361.length ≤ c1 from by omega); clear hr90 hC90 hroom90 hi090 hsz90; have KY90 := Aside0.mk hy90; clear hy90; replace q90 := eq_true q90; obtain ⟨Ao91, co91, eo91⟩ := Kd.S_slice HO360.out; subst eo91) | ((with_reducible refine gate_callee (f := 19) rfl ?_); refine goesL_ (some 108) rfl rfl Try.func19 (by kernel_rfl) rfl #[.slice Ao91 t357.length co91, .slice A1 y361.length c1] rfl (by (try simp only [List.map_toArray, List.map_cons, List.map_nil]); first | done | rfl | (simp only [List.length_drop, List.length_take]; rfl)) ?_; (with_reducible refine (fairleadref14_Same.calls k4 _ _ t357 _ _ y361 true _ ?side1 ?side2 ?side3 ?side4 A82.out).mono ?_); (case side1 => repeat (first | exact (Kd.S_reads' HO360.out).2.2 | (with_reducible refine Kd.C_alloc ?_ _) | (with_reducible refine Kd.C_drewN ?_ _) | (with_reducible refine Kd.C_drew ?_))); (case side2 => exact (Kd.S_reads' HO360.out).2.1); (case side3 => repeat (first | exact (Kd.C_below HR364.out HB.out) | (with_reducible refine Kd.C_alloc ?_ _) | (with_reducible refine Kd.C_drewN ?_ _) | (with_reducible refine Kd.C_drew ?_))); (case side4 => exact HC364.out); rintro e w92 ⟨rfl, hb⟩; refine ⟨_, rfl, ?_⟩; have n0_ := Aside0.mk (Kd.R_below (by (with_reducible repeat (first | apply Kd.R_alloc | apply Kd.R_drewN | apply Kd.R_drew)); exact HO_7.out) hb); have n1_ := Aside0.mk (Kd.R_below (by (with_reducible repeat (first | apply Kd.R_alloc | apply Kd.R_drewN | apply Kd.R_drew)); exact HO_8.out) hb); have n2_ := Aside0.mk (Kd.S_below (by (with_reducible repeat (first | apply Kd.S_alloc | apply Kd.S_drewN | apply Kd.S_drew)); exact HO360.out) hb); have n3_ := Aside0.mk (Kd.C_below (by repeat (first | (with_reducible exact HR356.out) | (with_reducible refine Kd.C_alloc ?_ _) | (with_reducible refine Kd.C_drewN ?_ _) | (with_reducible refine Kd.C_drew ?_) | exact HR356.out)) hb); have n4_ := Aside0.mk (below_step (by repeat (first | (with_reducible first | exact HB.out | apply below_alloc | apply pw_below_drewN | apply below_drew1) | exact HB.out)) hb); clear HO_7; clear HO_8; clear HO360; clear HR356; clear HB; have HO_7 := n0_; have HO_8 := n1_; have HO360 := n2_; have HR356 := n3_; have HB := n4_; clear n0_ n1_ n2_ n3_ n4_; (try clear hb); (try clear hb2); (try clear hk); (try clear hi); have p366 : 0 ≤ (x14_4 : Int) := of_decide_eq_true (by first | (with_reducible assumption) | assumption); have q366 : x14_4 < (x8_1.length : Int) := of_decide_eq_true (by first | (with_reducible assumption) | assumption); obtain ⟨ad366, e366, hx366_0⟩ := Kd.at_int (Kd.R_reads' HO_8.out).2.2 x14_4 p366 q366; cases e366; replace p366 := eq_true p366; replace q366 := eq_true q366) | (go_at_call 12; (with_reducible refine (fairleadlaw14_heads.calls k4  t367 _ A86.out).mono ?_); rintro e w93 ⟨rfl, hb⟩; have n0_ := Aside0.mk (Kd.R_below (by (with_reducible repeat (first | apply Kd.R_alloc | apply Kd.R_drewN | apply Kd.R_drew)); exact HO_7.out) hb); have n1_ := Aside0.mk (Kd.R_below (by (with_reducible repeat (first | apply Kd.R_alloc | apply Kd.R_drewN | apply Kd.R_drew)); exact HO_8.out) hb); have n2_ := Aside0.mk (Kd.S_below (by (with_reducible repeat (first | apply Kd.S_alloc | apply Kd.S_drewN | apply Kd.S_drew)); exact HO360.out) hb); have n3_ := Aside0.mk (Kd.C_below (by repeat (first | (with_reducible exact HR356.out) | (with_reducible refine Kd.C_alloc ?_ _) | (with_reducible refine Kd.C_drewN ?_ _) | (with_reducible refine Kd.C_drew ?_) | exact HR356.out)) hb); have n4_ := Aside0.mk (below_step (by repeat (first | (with_reducible first | exact HB.out | apply below_alloc | apply pw_below_drewN | apply below_drew1) | exact HB.out)) hb); clear HO_7; clear HO_8; clear HO360; clear HR356; clear HB; have HO_7 := n0_; have HO_8 := n1_; have HO360 := n2_; have HR356 := n3_; have HB := n4_; clear n0_ n1_ n2_ n3_ n4_; (try clear hb); (try clear hb2); (try clear hk); (try clear hi)))
                                          go_ret
                                          exact ⟨by first | rfl | (simp [errW_none, errW_some] <;> rfl) | (simp [*, errW_none, errW_some] <;> rfl), by repeat (first | (with_reducible first | exact HB.out | apply below_alloc | apply pw_below_drewN | apply below_drew1) | exact HB.out)⟩
                                        · rw [if_neg c85] at H
                                          have c85b0 : (t358 == (rd x8_1 x14_4)) = false := beq_eq_false_iff_ne.mpr c85
                                          have c85b1 : (t358 != (rd x8_1 x14_4)) = true := bne_iff_ne.mpr c85
                                          obtain rfl := Option.some.inj H
                                          obtain ⟨Ao94, co94, eo94⟩ := Kd.R_slice HO_8.out
                                          subst eo94
                                          have q95 : (a2 : Int) ≤ ((x7_1.length : Int) : Int) := of_decide_eq_true (by first | (with_reducible assumption) | assumption)
                                          obtain ⟨i095, hi095, _, hsz95, _⟩ := info_parts info5
                                          have hroom95 : x7_1.length ≤ co29 := (Kd.R_reads' HO_7.out).2.1
                                          have hC95 : Kd.C (Kd.int .u8) _ Ao29 x7_1.length x7_1 := (Kd.R_reads' HO_7.out).2.2
                                          have hcut95 := cut_to (P := Try.prog) 23 5 .i64 Try.underlying23 hi095 Ao29 x7_1.length co29 a2 (of_decide_eq_true (by first | (with_reducible assumption) | assumption)) q95 hroom95
                                          have hr95 := Kd.C_take (m := (a2 : Int).toNat) hC95 (by omega)
                                          have hy95 : y353.length = (a2 : Int).toNat := (by rw [Ny353.out, List.length_take]; omega)
                                          rw [← Ny353.out] at hr95
                                          rw [← hy95] at hcut95
                                          have HR356 := Aside0.mk hr95
                                          have HC356 := Aside0.mk (show y353.length ≤ co29 from by omega)
                                          clear hr95 hC95 hroom95 hi095 hsz95
                                          have KY95 := Aside0.mk hy95
                                          clear hy95
                                          have KL95 := Aside0.mk (show (a2 : Int).toNat ≤ x7_1.length from by omega)
                                          replace q95 := eq_true q95
                                          go_wp2_with (first | ((with_reducible refine gate_callee (f := 18) rfl ?_); refine goesL_ (some 101) rfl rfl Try.func18 (by kernel_rfl) rfl #[.int .u64 a0, .slice Ao29 y353.length co29] rfl (by (try simp only [List.map_toArray, List.map_cons, List.map_nil]); first | done | rfl | (simp only [List.length_drop, List.length_take]; rfl)) ?_; (with_reducible refine (record_Scan.calls k4 a0 _ _ y353 t357 t358 _ ?side1 ?side2 A79.out).mono ?_); (case side1 => repeat (first | exact (by repeat (first | (with_reducible exact HR356.out) | (with_reducible refine Kd.C_alloc ?_ _) | (with_reducible refine Kd.C_drewN ?_ _) | (with_reducible refine Kd.C_drew ?_) | exact HR356.out)) | (with_reducible refine Kd.C_alloc ?_ _) | (with_reducible refine Kd.C_drewN ?_ _) | (with_reducible refine Kd.C_drew ?_))); (case side2 => exact HC356.out); rintro e w96 ⟨v359, rfl, ho0, hb⟩; refine ⟨_, rfl, ?_⟩; have n0_ := Aside0.mk (Kd.R_below (by (with_reducible repeat (first | apply Kd.R_alloc | apply Kd.R_drewN | apply Kd.R_drew)); exact HO_7.out) hb); have n1_ := Aside0.mk (Kd.R_below (by (with_reducible repeat (first | apply Kd.R_alloc | apply Kd.R_drewN | apply Kd.R_drew)); exact HO_8.out) hb); have n2_ := Aside0.mk (Kd.S_lower (Kd.S_new' ho0 (Kd.R_lt (by (with_reducible repeat (first | apply Kd.R_alloc | apply Kd.R_drewN | apply Kd.R_drew)); exact HO_7.out))) (below_size (by repeat (first | (with_reducible first | exact HB.out | apply below_alloc | apply pw_below_drewN | apply below_drew1) | exact HB.out)))); have n3_ := Aside0.mk (Kd.C_below (by repeat (first | (with_reducible exact HR356.out) | (with_reducible refine Kd.C_alloc ?_ _) | (with_reducible refine Kd.C_drewN ?_ _) | (with_reducible refine Kd.C_drew ?_) | exact HR356.out)) hb); have n4_ := Aside0.mk (below_step (by repeat (first | (with_reducible first | exact HB.out | apply below_alloc | apply pw_below_drewN | apply below_drew1) | exact HB.out)) hb); clear HO_7; clear HO_8; clear HR356; clear HB; have HO_7 := n0_; have HO_8 := n1_; have HO360 := n2_; have HR356 := n3_; have HB := n4_; clear n0_ n1_ n2_ n3_ n4_; (try clear hb); (try clear hb2); (try clear hk); (try clear hi); (try clear ho0); have q97 : (x14_4 : Int) ≤ ((l1.length : Int) : Int) := of_decide_eq_true (by first | (with_reducible assumption) | assumption); obtain ⟨i097, hi097, _, hsz97, _⟩ := info_parts info25; have hroom97 : l1.length ≤ c1 := HC1.out; have hC97 : Kd.C k25 _ A1 l1.length l1 := HR1.out; have hcut97 := cut_to (P := Try.prog) 35 25 .i64 Try.underlying35 hi097 A1 l1.length c1 x14_4 (of_decide_eq_true (by first | (with_reducible assumption) | assumption)) q97 hroom97; have hr97 := Kd.C_take (m := (x14_4 : Int).toNat) hC97 (by omega); have hy97 : y361.length = (x14_4 : Int).toNat := (by rw [Ny361.out, List.length_take]; omega); rw [← Ny361.out] at hr97; rw [← hy97] at hcut97; have HR364 := Aside0.mk hr97; have HC364 := Aside0.mk (show y361.length ≤ c1 from by omega); clear hr97 hC97 hroom97 hi097 hsz97; have KY97 := Aside0.mk hy97; clear hy97; replace q97 := eq_true q97; obtain ⟨Ao98, co98, eo98⟩ := Kd.S_slice HO360.out; subst eo98) | ((with_reducible refine gate_callee (f := 19) rfl ?_); refine goesL_ (some 108) rfl rfl Try.func19 (by kernel_rfl) rfl #[.slice Ao98 t357.length co98, .slice A1 y361.length c1] rfl (by (try simp only [List.map_toArray, List.map_cons, List.map_nil]); first | done | rfl | (simp only [List.length_drop, List.length_take]; rfl)) ?_; (with_reducible refine (fairleadref14_Same.calls k4 _ _ t357 _ _ y361 true _ ?side1 ?side2 ?side3 ?side4 A82.out).mono ?_); (case side1 => repeat (first | exact (Kd.S_reads' HO360.out).2.2 | (with_reducible refine Kd.C_alloc ?_ _) | (with_reducible refine Kd.C_drewN ?_ _) | (with_reducible refine Kd.C_drew ?_))); (case side2 => exact (Kd.S_reads' HO360.out).2.1); (case side3 => repeat (first | exact (Kd.C_below HR364.out HB.out) | (with_reducible refine Kd.C_alloc ?_ _) | (with_reducible refine Kd.C_drewN ?_ _) | (with_reducible refine Kd.C_drew ?_))); (case side4 => exact HC364.out); rintro e w99 ⟨rfl, hb⟩; refine ⟨_, rfl, ?_⟩; have n0_ := Aside0.mk (Kd.R_below (by (with_reducible repeat (first | apply Kd.R_alloc | apply Kd.R_drewN | apply Kd.R_drew)); exact HO_7.out) hb); have n1_ := Aside0.mk (Kd.R_below (by (with_reducible repeat (first | apply Kd.R_alloc | apply Kd.R_drewN | apply Kd.R_drew)); exact HO_8.out) hb); have n2_ := Aside0.mk (Kd.S_below (by (with_reducible repeat (first | apply Kd.S_alloc | apply Kd.S_drewN | apply Kd.S_drew)); exact HO360.out) hb); have n3_ := Aside0.mk (Kd.C_below (by repeat (first | (with_reducible exact HR356.out) | (with_reducible refine Kd.C_alloc ?_ _) | (with_reducible refine Kd.C_drewN ?_ _) | (with_reducible refine Kd.C_drew ?_) | exact HR356.out)) hb); have n4_ := Aside0.mk (below_step (by repeat (first | (with_reducible first | exact HB.out | apply below_alloc | apply pw_below_drewN | apply below_drew1) | exact HB.out)) hb); clear HO_7; clear HO_8; clear HO360; clear HR356; clear HB; have HO_7 := n0_; have HO_8 := n1_; have HO360 := n2_; have HR356 := n3_; have HB := n4_; clear n0_ n1_ n2_ n3_ n4_; (try clear hb); (try clear hb2); (try clear hk); (try clear hi); have p366 : 0 ≤ (x14_4 : Int) := of_decide_eq_true (by first | (with_reducible assumption) | assumption); have q366 : x14_4 < (x8_1.length : Int) := of_decide_eq_true (by first | (with_reducible assumption) | assumption); obtain ⟨ad366, e366, hx366_0⟩ := Kd.at_int (Kd.R_reads' HO_8.out).2.2 x14_4 p366 q366; cases e366; replace p366 := eq_true p366; replace q366 := eq_true q366))
                                          go_ret
                                          exact ⟨by first | rfl | (simp [errW_none, errW_some] <;> rfl) | (simp [*, errW_none, errW_some] <;> rfl), by repeat (first | (with_reducible first | exact HB.out | apply below_alloc | apply pw_below_drewN | apply below_drew1) | exact HB.out)⟩
                                      · rw [if_neg c84] at H
                                        exact absurd H (by simp)
                                    · replace c83 := Bool.eq_false_iff.mpr c83
                                      subst c83
                                      have H1 : (some false) = some r := by rw [if_neg (show ¬ (false = true) by decide)] at H; exact H
                                      clear H
                                      have H := H1
                                      clear H1
                                      obtain rfl := Option.some.inj H
                                      obtain ⟨Ao100, co100, eo100⟩ := Kd.R_slice HO_8.out
                                      subst eo100
                                      have q101 : (a2 : Int) ≤ ((x7_1.length : Int) : Int) := of_decide_eq_true (by first | (with_reducible assumption) | assumption)
                                      obtain ⟨i0101, hi0101, _, hsz101, _⟩ := info_parts info5
                                      have hroom101 : x7_1.length ≤ co29 := (Kd.R_reads' HO_7.out).2.1
                                      have hC101 : Kd.C (Kd.int .u8) _ Ao29 x7_1.length x7_1 := (Kd.R_reads' HO_7.out).2.2
                                      have hcut101 := cut_to (P := Try.prog) 23 5 .i64 Try.underlying23 hi0101 Ao29 x7_1.length co29 a2 (of_decide_eq_true (by first | (with_reducible assumption) | assumption)) q101 hroom101
                                      have hr101 := Kd.C_take (m := (a2 : Int).toNat) hC101 (by omega)
                                      have hy101 : y353.length = (a2 : Int).toNat := (by rw [Ny353.out, List.length_take]; omega)
                                      rw [← Ny353.out] at hr101
                                      rw [← hy101] at hcut101
                                      have HR356 := Aside0.mk hr101
                                      have HC356 := Aside0.mk (show y353.length ≤ co29 from by omega)
                                      clear hr101 hC101 hroom101 hi0101 hsz101
                                      have KY101 := Aside0.mk hy101
                                      clear hy101
                                      have KL101 := Aside0.mk (show (a2 : Int).toNat ≤ x7_1.length from by omega)
                                      replace q101 := eq_true q101
                                      go_wp2_with (first | ((with_reducible refine gate_callee (f := 18) rfl ?_); refine goesL_ (some 101) rfl rfl Try.func18 (by kernel_rfl) rfl #[.int .u64 a0, .slice Ao29 y353.length co29] rfl (by (try simp only [List.map_toArray, List.map_cons, List.map_nil]); first | done | rfl | (simp only [List.length_drop, List.length_take]; rfl)) ?_; (with_reducible refine (record_Scan.calls k4 a0 _ _ y353 t357 t358 _ ?side1 ?side2 A79.out).mono ?_); (case side1 => repeat (first | exact (by repeat (first | (with_reducible exact HR356.out) | (with_reducible refine Kd.C_alloc ?_ _) | (with_reducible refine Kd.C_drewN ?_ _) | (with_reducible refine Kd.C_drew ?_) | exact HR356.out)) | (with_reducible refine Kd.C_alloc ?_ _) | (with_reducible refine Kd.C_drewN ?_ _) | (with_reducible refine Kd.C_drew ?_))); (case side2 => exact HC356.out); rintro e w102 ⟨v359, rfl, ho0, hb⟩; refine ⟨_, rfl, ?_⟩; have n0_ := Aside0.mk (Kd.R_below (by (with_reducible repeat (first | apply Kd.R_alloc | apply Kd.R_drewN | apply Kd.R_drew)); exact HO_7.out) hb); have n1_ := Aside0.mk (Kd.R_below (by (with_reducible repeat (first | apply Kd.R_alloc | apply Kd.R_drewN | apply Kd.R_drew)); exact HO_8.out) hb); have n2_ := Aside0.mk (Kd.S_lower (Kd.S_new' ho0 (Kd.R_lt (by (with_reducible repeat (first | apply Kd.R_alloc | apply Kd.R_drewN | apply Kd.R_drew)); exact HO_7.out))) (below_size (by repeat (first | (with_reducible first | exact HB.out | apply below_alloc | apply pw_below_drewN | apply below_drew1) | exact HB.out)))); have n3_ := Aside0.mk (Kd.C_below (by repeat (first | (with_reducible exact HR356.out) | (with_reducible refine Kd.C_alloc ?_ _) | (with_reducible refine Kd.C_drewN ?_ _) | (with_reducible refine Kd.C_drew ?_) | exact HR356.out)) hb); have n4_ := Aside0.mk (below_step (by repeat (first | (with_reducible first | exact HB.out | apply below_alloc | apply pw_below_drewN | apply below_drew1) | exact HB.out)) hb); clear HO_7; clear HO_8; clear HR356; clear HB; have HO_7 := n0_; have HO_8 := n1_; have HO360 := n2_; have HR356 := n3_; have HB := n4_; clear n0_ n1_ n2_ n3_ n4_; (try clear hb); (try clear hb2); (try clear hk); (try clear hi); (try clear ho0); have q103 : (x14_4 : Int) ≤ ((l1.length : Int) : Int) := of_decide_eq_true (by first | (with_reducible assumption) | assumption); obtain ⟨i0103, hi0103, _, hsz103, _⟩ := info_parts info25; have hroom103 : l1.length ≤ c1 := HC1.out; have hC103 : Kd.C k25 _ A1 l1.length l1 := HR1.out; have hcut103 := cut_to (P := Try.prog) 35 25 .i64 Try.underlying35 hi0103 A1 l1.length c1 x14_4 (of_decide_eq_true (by first | (with_reducible assumption) | assumption)) q103 hroom103; have hr103 := Kd.C_take (m := (x14_4 : Int).toNat) hC103 (by omega); have hy103 : y361.length = (x14_4 : Int).toNat := (by rw [Ny361.out, List.length_take]; omega); rw [← Ny361.out] at hr103; rw [← hy103] at hcut103; have HR364 := Aside0.mk hr103; have HC364 := Aside0.mk (show y361.length ≤ c1 from by omega); clear hr103 hC103 hroom103 hi0103 hsz103; have KY103 := Aside0.mk hy103; clear hy103; replace q103 := eq_true q103; obtain ⟨Ao104, co104, eo104⟩ := Kd.S_slice HO360.out; subst eo104) | ((with_reducible refine gate_callee (f := 19) rfl ?_); refine goesL_ (some 108) rfl rfl Try.func19 (by kernel_rfl) rfl #[.slice Ao104 t357.length co104, .slice A1 y361.length c1] rfl (by (try simp only [List.map_toArray, List.map_cons, List.map_nil]); first | done | rfl | (simp only [List.length_drop, List.length_take]; rfl)) ?_; (with_reducible refine (fairleadref14_Same.calls k4 _ _ t357 _ _ y361 false _ ?side1 ?side2 ?side3 ?side4 A82.out).mono ?_); (case side1 => repeat (first | exact (Kd.S_reads' HO360.out).2.2 | (with_reducible refine Kd.C_alloc ?_ _) | (with_reducible refine Kd.C_drewN ?_ _) | (with_reducible refine Kd.C_drew ?_))); (case side2 => exact (Kd.S_reads' HO360.out).2.1); (case side3 => repeat (first | exact (Kd.C_below HR364.out HB.out) | (with_reducible refine Kd.C_alloc ?_ _) | (with_reducible refine Kd.C_drewN ?_ _) | (with_reducible refine Kd.C_drew ?_))); (case side4 => exact HC364.out); rintro e w105 ⟨rfl, hb⟩; refine ⟨_, rfl, ?_⟩; have n0_ := Aside0.mk (Kd.R_below (by (with_reducible repeat (first | apply Kd.R_alloc | apply Kd.R_drewN | apply Kd.R_drew)); exact HO_7.out) hb); have n1_ := Aside0.mk (Kd.R_below (by (with_reducible repeat (first | apply Kd.R_alloc | apply Kd.R_drewN | apply Kd.R_drew)); exact HO_8.out) hb); have n2_ := Aside0.mk (Kd.S_below (by (with_reducible repeat (first | apply Kd.S_alloc | apply Kd.S_drewN | apply Kd.S_drew)); exact HO360.out) hb); have n3_ := Aside0.mk (Kd.C_below (by repeat (first | (with_reducible exact HR356.out) | (with_reducible refine Kd.C_alloc ?_ _) | (with_reducible refine Kd.C_drewN ?_ _) | (with_reducible refine Kd.C_drew ?_) | exact HR356.out)) hb); have n4_ := Aside0.mk (below_step (by repeat (first | (with_reducible first | exact HB.out | apply below_alloc | apply pw_below_drewN | apply below_drew1) | exact HB.out)) hb); clear HO_7; clear HO_8; clear HO360; clear HR356; clear HB; have HO_7 := n0_; have HO_8 := n1_; have HO360 := n2_; have HR356 := n3_; have HB := n4_; clear n0_ n1_ n2_ n3_ n4_; (try clear hb); (try clear hb2); (try clear hk); (try clear hi)))
                                      go_ret
                                      exact ⟨by first | rfl | (simp [errW_none, errW_some] <;> rfl) | (simp [*, errW_none, errW_some] <;> rfl), by repeat (first | (with_reducible first | exact HB.out | apply below_alloc | apply pw_below_drewN | apply below_drew1) | exact HB.out)⟩
                                  · rw [if_neg c81] at H
                                    exact absurd H (by simp)
                                · rw [if_neg c80] at H
                                  exact absurd H (by simp)
                              · rw [if_neg c78] at H
                                exact absurd H (by simp)
                            · rw [if_neg c77] at H
                              exact absurd H (by simp)
end Go.Proofs.Ytejheopcipgmaaa.Q
