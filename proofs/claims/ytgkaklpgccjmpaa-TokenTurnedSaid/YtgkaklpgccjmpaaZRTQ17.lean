/- Lemmas for RT; a slim copy of this session's texts (slim.py). -/
import Derived.Test.YtgkaklpgccjmpaaZRTQ0
import Derived.Test.YtgkaklpgccjmpaaZRTQ5
import Derived.Test.YtgkaklpgccjmpaaZRTQ7
namespace Go.Proofs.Ytgkaklpgccjmpaa.Q
open Go.RowKit Go.Proofs.YtgkaklpgccjmpaaW.PrintWords Go.Proofs.YtgkaklpgccjmpaaW.PrintLast Go.Proofs.YtgkaklpgccjmpaaW.PrintMore
attribute [local go_sem] max2_int min2_int max_two min_two max_three min_three max_four min_four   
set_option linter.unusedVariables false
set_option linter.unusedSimpArgs false
def fairleadlaw25_TokenTurned.j0 : Nat → List Int → Int → Int → List Int → Int → Bool → Int → Int → Int → Int → Option (Bool)
  | 0, _, _, _, _, _, _, _, _, _, _ => none
  | k + 1, x0, x2, x3, x9, x10, x29, x525000, x525001, x525002, x525003 => if x29 = true then (if x10 = 0 then (some (decide ((x0.length : Int) > 200))) else ((fairleadlaw25_heads.f).bind fun t529 => (if t529 = true then (some true) else (some (decide ((x0.length : Int) > 200)))))) else (if 0 ≤ (wrap64 (18 + (wrap64 (Int.tdiv (wrap64 (Int.tmod (IntKind.u64.wrap (x3)) 256)) 8)))) then (if (wrap64 (18 + (wrap64 (Int.tdiv (wrap64 (Int.tmod (IntKind.u64.wrap (x3)) 256)) 8)))) < (x9.length : Int) then (if 0 ≤ (IntKind.u64.wrap (Int.tmod (wrap64 (Int.tmod (IntKind.u64.wrap (x3)) 256)) 8)) then ((token_Judge.f k x0 (x9.set ((wrap64 (18 + (wrap64 (Int.tdiv (wrap64 (Int.tmod (IntKind.u64.wrap (x3)) 256)) 8)))) : Int).toNat (Go.bits .xor .u8 (rd x9 (wrap64 (18 + (wrap64 (Int.tdiv (wrap64 (Int.tmod (IntKind.u64.wrap (x3)) 256)) 8))))) (shl .u8 1 (IntKind.u64.wrap (Int.tmod (wrap64 (Int.tmod (IntKind.u64.wrap (x3)) 256)) 8))))) x525000 x2 0 x525003).bind fun t532 => (if t532 = 3 then ((fairleadlaw25_heads.f).bind fun t533 => (some t533)) else (some false))) else (none)) else (none)) else (none))
def fairleadlaw25_TokenTurned.f (k : Nat) (l0 : List Int) (a1_0 : Int) (a1_1 : Int) (a1_2 : Int) (a1_3 : Int) (a2 : Int) (a3 : Int) : Option (Bool) := (token_Mint.f k l0 a1_0 a1_1 a1_2 a1_3).bind fun bt525 => (if bt525.2 = 0 then (if (l0.length : Int) > 200 then (fairleadlaw25_TokenTurned.j0 k l0 a2 a3 bt525.1 bt525.2 true a1_0 a1_1 a1_2 a1_3) else (fairleadlaw25_TokenTurned.j0 k l0 a2 a3 bt525.1 bt525.2 ((bt525.1.length : Int) != 50) a1_0 a1_1 a1_2 a1_3)) else (fairleadlaw25_TokenTurned.j0 k l0 a2 a3 bt525.1 bt525.2 true a1_0 a1_1 a1_2 a1_3))
set_option maxHeartbeats 8000000 in
set_option maxRecDepth 100000 in
theorem fairleadlaw25_TokenTurned.calls (k : Nat) (A0 : Option Addr) (c0 : Nat) (l0 : List Int) (a1_0 : Int) (a1_1 : Int) (a1_2 : Int) (a1_3 : Int) (a2 : Int) (a3 : Int) (r : Bool) (w : World) (hr0 : Kd.C (Kd.int .u8) w A0 l0.length l0) (hc0 : l0.length ≤ c0) (h : fairleadlaw25_TokenTurned.f k l0 a1_0 a1_1 a1_2 a1_3 a2 a3 = some r) :
    Calls Try.prog 7 #[.slice A0 l0.length c0, .agg #[.int .i64 a1_0, .int .i64 a1_1, .int .i64 a1_2, .int .i64 a1_3], .int .i64 a2, .int .i64 a3] w fun e w' => e = .returned (.bool r) ∧ Below w.heap.size w w' := by
  have hu24 := Try.underlying24
  have HR0 := Aside0.mk hr0
  have HC0 := Aside0.mk hc0
  clear hr0 hc0
  have HB := Aside0.mk (Below.refl w.heap.size w)
  have H : ((token_Mint.f k l0 a1_0 a1_1 a1_2 a1_3).bind fun bt525 => (if bt525.2 = 0 then (if (l0.length : Int) > 200 then (fairleadlaw25_TokenTurned.j0 k l0 a2 a3 bt525.1 bt525.2 true a1_0 a1_1 a1_2 a1_3) else (fairleadlaw25_TokenTurned.j0 k l0 a2 a3 bt525.1 bt525.2 ((bt525.1.length : Int) != 50) a1_0 a1_1 a1_2 a1_3)) else (fairleadlaw25_TokenTurned.j0 k l0 a2 a3 bt525.1 bt525.2 true a1_0 a1_1 a1_2 a1_3))) = some r := h
  clear h
  replace H := Option.bind_eq_some_iff.mp H
  obtain ⟨⟨t525, t528⟩, A50, H⟩ := H
  replace H : (if t528 = 0 then (if (l0.length : Int) > 200 then (fairleadlaw25_TokenTurned.j0 k l0 a2 a3 t525 t528 true a1_0 a1_1 a1_2 a1_3) else (fairleadlaw25_TokenTurned.j0 k l0 a2 a3 t525 t528 ((t525.length : Int) != 50) a1_0 a1_1 a1_2 a1_3)) else (fairleadlaw25_TokenTurned.j0 k l0 a2 a3 t525 t528 true a1_0 a1_1 a1_2 a1_3)) = some r := H
  have A5 := Aside0.mk A50
  clear A50
  have HC6 := Aside0.mk H
  clear H
  go_enter Try.func7, Try.ntmps7
  go_upto_region 2 with (first | ((with_reducible refine gate_dst (N := 5) rfl ?_); (try (refine gate_guard (by rfl) ?_; dsimp only)); refine box_event ?hg (N := 5) ?hd (cs := #[.int .i64 a1_0, .int .i64 a1_1, .int .i64 a1_2, .int .i64 a1_3]) (t := 24) ?hr ?_; (case hd => rfl); (case hg => rfl); (case hr => first | (go_simp; done) | (go_simp; rfl) | (go_simp; simp only [q_w8, q_w16, q_w32, q_max8, q_max16, q_max32, q_max64]; done) | (go_simp; simp only [q_w8, q_w16, q_w32, q_max8, q_max16, q_max32, q_max64]; rfl) | (go_simp; simp [q_w8, q_w16, q_w32, q_max8, q_max16, q_max32, q_max64]; done)); intro gb524 hg w7 hbox hb; have n0_ := Aside0.mk (below_step (by repeat (first | (with_reducible first | exact HB.out | apply below_alloc | apply pw_below_drewN | apply below_drew1) | exact HB.out)) hb); have n1_ := Aside0.mk (hbox); have n2_ := Aside0.mk ((by rw [hg]; exact (below_size (by repeat (first | (with_reducible first | exact HB.out | apply below_alloc | apply pw_below_drewN | apply below_drew1) | exact HB.out))) : w.heap.size ≤ gb524)); have n3_ := Aside0.mk ((by rw [hg]; exact (below_size (by repeat (first | (with_reducible first | exact HB.out | apply below_alloc | apply pw_below_drewN | apply below_drew1) | exact HB.out))) : w.heap.size ≤ gb524)); clear HB; have HB := n0_; have BK524 := n1_; have GW524 := n2_; have GE524 := n3_; clear n0_ n1_ n2_ n3_; clear hb hbox hg; have hcz8_0 : w7.cell? ⟨gb524, 0, none⟩ = some (.int .i64 a1_0) := (blk_cell BK524.out 0).trans rfl; have hcz8_1 : w7.cell? ⟨gb524, 1, none⟩ = some (.int .i64 a1_1) := (blk_cell BK524.out 1).trans rfl; have hcz8_2 : w7.cell? ⟨gb524, 2, none⟩ = some (.int .i64 a1_2) := (blk_cell BK524.out 2).trans rfl; have hcz8_3 : w7.cell? ⟨gb524, 3, none⟩ = some (.int .i64 a1_3) := (blk_cell BK524.out 3).trans rfl; have hfz8_0 := blk_frozen BK524.out 0; have hfz8_1 := blk_frozen BK524.out 1; have hfz8_2 := blk_frozen BK524.out 2; have hfz8_3 := blk_frozen BK524.out 3) | ((with_reducible refine gate_callee (f := 8) rfl ?_); refine goesL_ (some 15) rfl rfl Try.func8 (by kernel_rfl) rfl #[.slice A0 l0.length c0, .agg #[.int .i64 a1_0, .int .i64 a1_1, .int .i64 a1_2, .int .i64 a1_3]] rfl (by (try simp only [List.map_toArray, List.map_cons, List.map_nil]); first | done | rfl | (simp only [List.length_drop, List.length_take]; rfl)) ?_; (with_reducible refine (token_Mint.calls k _ _ l0 a1_0 a1_1 a1_2 a1_3 t525 t528 _ ?side1 ?side2 A5.out).mono ?_); (case side1 => repeat (first | exact (Kd.C_below HR0.out HB.out) | (with_reducible refine Kd.C_alloc ?_ _) | (with_reducible refine Kd.C_drewN ?_ _) | (with_reducible refine Kd.C_drew ?_))); (case side2 => exact HC0.out); rintro e w9 ⟨v526, rfl, ho0, hb⟩; refine ⟨_, rfl, ?_⟩; have n0_ := Aside0.mk (Kd.R_lower ho0 (below_size (by repeat (first | (with_reducible first | exact HB.out | apply below_alloc | apply pw_below_drewN | apply below_drew1 | refine below_set ?_ GE524.out) | exact HB.out)))); have n1_ := Aside0.mk (blk_below (g := gb524) (o := .cells #[.int .i64 a1_0, .int .i64 a1_1, .int .i64 a1_2, .int .i64 a1_3] 24 (0, 0)) (by (with_reducible repeat (first | refine blk_drewN ?_ _ | refine blk_drew ?_ | refine blk_alloc ?_ _)); exact BK524.out) hb); have n2_ := Aside0.mk (below_step (by repeat (first | (with_reducible first | exact HB.out | apply below_alloc | apply pw_below_drewN | apply below_drew1 | refine below_set ?_ GE524.out) | exact HB.out)) hb); clear BK524; clear HB; have HO527 := n0_; have BK524 := n1_; have HB := n2_; clear n0_ n1_ n2_; (try clear hb); (try clear hb2); (try clear hk); (try clear hi); (try clear ho0)))
  (try simp only [Act.put, List.setIfInBounds_toArray, List.set_cons_zero, List.set_cons_succ])
  go_cut [29] (fun v29 wc => ∃ (kq : Nat) (x29_5 : Bool), v29 = .bool x29_5 ∧ Aside0 (fairleadlaw25_TokenTurned.j0 kq l0 a2 a3 t525 t528 x29_5 a1_0 a1_1 a1_2 a1_3 = some r) ∧ Aside0 (kq ≤ k) ∧ Aside0 (Kd.R (Kd.int .u8) 5 wc w.heap.size (fun _ => True) v526 t525) ∧ Aside0 (wc.heap[gb524]? = some (.cells #[.int .i64 a1_0, .int .i64 a1_1, .int .i64 a1_2, .int .i64 a1_3] 24 (0, 0))) ∧ Aside0 (Below w.heap.size w wc))
  case first =>
    have H := HC6.out
    clear HC6
    by_cases c10 : t528 = 0
    · rw [if_pos c10] at H
      have c10b0 : (t528 == 0) = true := beq_iff_eq.mpr c10
      have c10b1 : (t528 != 0) = false := bne_eq_false_iff_eq.mpr c10
      clear c10
      (first | rw [c10b0] | (simp only [i64_w, i32_w]; rw [c10b0]) | skip)
      by_cases c11 : (l0.length : Int) > 200
      · rw [if_pos c11] at H
        have c11b0 : decide (200 < (l0.length : Int)) = true := decide_eq_true c11
        have c11b1 : decide (200 < l0.length) = true := decide_eq_true (by omega)
        clear c11
        have H' := Aside0.mk H
        clear H
        go_wp2
        go_meet
        case rel => exact ⟨_, (true), (by first | rfl | (simp; done) | (simp [*]; done)), H', ⟨by first | omega | exact Nat.le_refl _⟩, ⟨by (with_reducible repeat (first | apply Kd.R_alloc | apply Kd.R_drewN | apply Kd.R_drew)); exact HO527.out⟩, ⟨by (with_reducible repeat (first | refine blk_drewN ?_ _ | refine blk_drew ?_ | refine blk_alloc ?_ _)); exact BK524.out⟩, ⟨by repeat (first | (with_reducible first | exact HB.out | apply below_alloc | apply pw_below_drewN | apply below_drew1 | refine below_set ?_ GE524.out) | exact HB.out)⟩⟩
      · rw [if_neg c11] at H
        have c11b0 : decide (200 < (l0.length : Int)) = false := decide_eq_false c11
        have c11b1 : decide (200 < l0.length) = false := decide_eq_false (by omega)
        clear c11
        have H' := Aside0.mk H
        clear H
        obtain ⟨Ao12, co12, eo12⟩ := Kd.R_slice HO527.out
        subst eo12
        go_wp2
        go_meet
        case rel => exact ⟨_, (((t525.length : Int) != 50)), (by first | rfl | (simp; done) | (simp [*]; done)), H', ⟨by first | omega | exact Nat.le_refl _⟩, ⟨by (with_reducible repeat (first | apply Kd.R_alloc | apply Kd.R_drewN | apply Kd.R_drew)); exact HO527.out⟩, ⟨by (with_reducible repeat (first | refine blk_drewN ?_ _ | refine blk_drew ?_ | refine blk_alloc ?_ _)); exact BK524.out⟩, ⟨by repeat (first | (with_reducible first | exact HB.out | apply below_alloc | apply pw_below_drewN | apply below_drew1 | refine below_set ?_ GE524.out) | exact HB.out)⟩⟩
    · rw [if_neg c10] at H
      have c10b0 : (t528 == 0) = false := beq_eq_false_iff_ne.mpr c10
      have c10b1 : (t528 != 0) = true := bne_iff_ne.mpr c10
      (first | rw [c10b0] | (simp only [i64_w, i32_w]; rw [c10b0]) | skip)
      have H' := Aside0.mk H
      clear H
      go_wp2
      go_meet
      case rel => exact ⟨_, (true), (by first | rfl | (simp; done) | (simp [*]; done)), H', ⟨by first | omega | exact Nat.le_refl _⟩, ⟨by (with_reducible repeat (first | apply Kd.R_alloc | apply Kd.R_drewN | apply Kd.R_drew)); exact HO527.out⟩, ⟨by (with_reducible repeat (first | refine blk_drewN ?_ _ | refine blk_drew ?_ | refine blk_alloc ?_ _)); exact BK524.out⟩, ⟨by repeat (first | (with_reducible first | exact HB.out | apply below_alloc | apply pw_below_drewN | apply below_drew1 | refine below_set ?_ GE524.out) | exact HB.out)⟩⟩
  case rest =>
    clear HC6
    try clear c1
    try clear p2
    try clear c7
    try clear c8
    try clear c10
    try clear c10b0
    try clear c10b1
    try clear c11
    try clear c11b0
    try clear c11b1
    try clear hcz8_0
    try clear hcz8_1
    try clear hcz8_2
    try clear hcz8_3
    try clear hfz8_0
    try clear hfz8_1
    try clear hfz8_2
    try clear hfz8_3
    obtain ⟨kq, x29_5, rfl, HA, HJ5, HO_9, BK524, HB⟩ := hcut
    cases kq with
    | zero => exact absurd HA.out (by simp [fairleadlaw25_TokenTurned.j0])
    | succ kj5 =>
      have H := HA.out
      clear HA
      simp only [fairleadlaw25_TokenTurned.j0] at H
      by_cases c13 : x29_5 = true
      · subst c13
        have H1 : (if t528 = 0 then (some (decide ((l0.length : Int) > 200))) else ((fairleadlaw25_heads.f).bind fun t529 => (if t529 = true then (some true) else (some (decide ((l0.length : Int) > 200)))))) = some r := by rw [if_pos rfl] at H; exact H
        clear H
        have H := H1
        clear H1
        by_cases c14 : t528 = 0
        · rw [if_pos c14] at H
          have c14b0 : (t528 == 0) = true := beq_iff_eq.mpr c14
          have c14b1 : (t528 != 0) = false := bne_eq_false_iff_eq.mpr c14
          clear c14
          obtain rfl := Option.some.inj H
          go_wp2
          go_ret
          exact ⟨by first | rfl | (simp [errW_none, errW_some] <;> rfl) | (simp [*, errW_none, errW_some] <;> rfl), by repeat (first | (with_reducible first | exact HB.out | apply below_alloc | apply pw_below_drewN | apply below_drew1 | refine below_set ?_ GE524.out) | exact HB.out)⟩
        · rw [if_neg c14] at H
          have c14b0 : (t528 == 0) = false := beq_eq_false_iff_ne.mpr c14
          have c14b1 : (t528 != 0) = true := bne_iff_ne.mpr c14
          replace H := Option.bind_eq_some_iff.mp H
          obtain ⟨t529, A150, H⟩ := H
          replace H : (if t529 = true then (some true) else (some (decide ((l0.length : Int) > 200)))) = some r := H
          have A15 := Aside0.mk A150
          clear A150
          by_cases c16 : t529 = true
          · subst c16
            have H1 : (some true) = some r := by rw [if_pos rfl] at H; exact H
            clear H
            have H := H1
            clear H1
            obtain rfl := Option.some.inj H
            go_wp2_with (first | (go_at_call 9; (with_reducible refine (fairleadlaw25_heads.calls  true _ A15.out).mono ?_); rintro e w17 ⟨rfl, hb⟩; have n0_ := Aside0.mk (Kd.R_below (by (with_reducible repeat (first | apply Kd.R_alloc | apply Kd.R_drewN | apply Kd.R_drew)); exact HO_9.out) hb); have n1_ := Aside0.mk (blk_below (g := gb524) (o := .cells #[.int .i64 a1_0, .int .i64 a1_1, .int .i64 a1_2, .int .i64 a1_3] 24 (0, 0)) (by (with_reducible repeat (first | refine blk_drewN ?_ _ | refine blk_drew ?_ | refine blk_alloc ?_ _)); exact BK524.out) hb); have n2_ := Aside0.mk (below_step (by repeat (first | (with_reducible first | exact HB.out | apply below_alloc | apply pw_below_drewN | apply below_drew1 | refine below_set ?_ GE524.out) | exact HB.out)) hb); clear HO_9; clear BK524; clear HB; have HO_9 := n0_; have BK524 := n1_; have HB := n2_; clear n0_ n1_ n2_; (try clear hb); (try clear hb2); (try clear hk); (try clear hi)))
            go_ret
            exact ⟨by first | rfl | (simp [errW_none, errW_some] <;> rfl) | (simp [*, errW_none, errW_some] <;> rfl), by repeat (first | (with_reducible first | exact HB.out | apply below_alloc | apply pw_below_drewN | apply below_drew1 | refine below_set ?_ GE524.out) | exact HB.out)⟩
          · replace c16 := Bool.eq_false_iff.mpr c16
            subst c16
            have H1 : (some (decide ((l0.length : Int) > 200))) = some r := by rw [if_neg (show ¬ (false = true) by decide)] at H; exact H
            clear H
            have H := H1
            clear H1
            obtain rfl := Option.some.inj H
            go_wp2_with (first | (go_at_call 9; (with_reducible refine (fairleadlaw25_heads.calls  false _ A15.out).mono ?_); rintro e w18 ⟨rfl, hb⟩; have n0_ := Aside0.mk (Kd.R_below (by (with_reducible repeat (first | apply Kd.R_alloc | apply Kd.R_drewN | apply Kd.R_drew)); exact HO_9.out) hb); have n1_ := Aside0.mk (blk_below (g := gb524) (o := .cells #[.int .i64 a1_0, .int .i64 a1_1, .int .i64 a1_2, .int .i64 a1_3] 24 (0, 0)) (by (with_reducible repeat (first | refine blk_drewN ?_ _ | refine blk_drew ?_ | refine blk_alloc ?_ _)); exact BK524.out) hb); have n2_ := Aside0.mk (below_step (by repeat (first | (with_reducible first | exact HB.out | apply below_alloc | apply pw_below_drewN | apply below_drew1 | refine below_set ?_ GE524.out) | exact HB.out)) hb); clear HO_9; clear BK524; clear HB; have HO_9 := n0_; have BK524 := n1_; have HB := n2_; clear n0_ n1_ n2_; (try clear hb); (try clear hb2); (try clear hk); (try clear hi)))
            go_ret
            exact ⟨by first | rfl | (simp [errW_none, errW_some] <;> rfl) | (simp [*, errW_none, errW_some] <;> rfl), by repeat (first | (with_reducible first | exact HB.out | apply below_alloc | apply pw_below_drewN | apply below_drew1 | refine below_set ?_ GE524.out) | exact HB.out)⟩
      · replace c13 := Bool.eq_false_iff.mpr c13
        subst c13
        have H1 : (if 0 ≤ (wrap64 (18 + (wrap64 (Int.tdiv (wrap64 (Int.tmod (IntKind.u64.wrap (a3)) 256)) 8)))) then (if (wrap64 (18 + (wrap64 (Int.tdiv (wrap64 (Int.tmod (IntKind.u64.wrap (a3)) 256)) 8)))) < (t525.length : Int) then (if 0 ≤ (IntKind.u64.wrap (Int.tmod (wrap64 (Int.tmod (IntKind.u64.wrap (a3)) 256)) 8)) then ((token_Judge.f kj5 l0 (t525.set ((wrap64 (18 + (wrap64 (Int.tdiv (wrap64 (Int.tmod (IntKind.u64.wrap (a3)) 256)) 8)))) : Int).toNat (Go.bits .xor .u8 (rd t525 (wrap64 (18 + (wrap64 (Int.tdiv (wrap64 (Int.tmod (IntKind.u64.wrap (a3)) 256)) 8))))) (shl .u8 1 (IntKind.u64.wrap (Int.tmod (wrap64 (Int.tmod (IntKind.u64.wrap (a3)) 256)) 8))))) a1_0 a2 0 a1_3).bind fun t532 => (if t532 = 3 then ((fairleadlaw25_heads.f).bind fun t533 => (some t533)) else (some false))) else (none)) else (none)) else (none)) = some r := by rw [if_neg (show ¬ (false = true) by decide)] at H; exact H
        clear H
        have H := H1
        clear H1
        obtain ⟨ji19, hji19⟩ : ∃ j_ : Int, (wrap64 (18 + (wrap64 (Int.tdiv (wrap64 (Int.tmod (IntKind.u64.wrap (a3)) 256)) 8)))) = j_ := ⟨_, rfl⟩
        replace H : (if 0 ≤ (ji19) then (if (ji19) < (t525.length : Int) then (if 0 ≤ (IntKind.u64.wrap (Int.tmod (wrap64 (Int.tmod (IntKind.u64.wrap (a3)) 256)) 8)) then ((token_Judge.f kj5 l0 (t525.set ((ji19) : Int).toNat (Go.bits .xor .u8 (rd t525 (ji19)) (shl .u8 1 (IntKind.u64.wrap (Int.tmod (wrap64 (Int.tmod (IntKind.u64.wrap (a3)) 256)) 8))))) a1_0 a2 0 a1_3).bind fun t532 => (if t532 = 3 then ((fairleadlaw25_heads.f).bind fun t533 => (some t533)) else (some false))) else (none)) else (none)) else (none)) = some r := by first | (rw [hji19] at H; exact H) | (simp only [hji19] at H ⊢; exact H)
        have hji19w : (IntKind.i64.wrap (18 + (wrap64 (Int.tdiv (wrap64 (Int.tmod (IntKind.u64.wrap (a3)) 256)) 8)))) = ji19 := (i64_w _).trans hji19
        by_cases c20 : 0 ≤ (ji19)
        · rw [if_pos c20] at H
          have c20b0 : decide (0 ≤ (ji19)) = true := decide_eq_true c20
          clear c20
          by_cases c21 : (ji19) < (t525.length : Int)
          · rw [if_pos c21] at H
            have c21b0 : decide ((ji19) < (t525.length : Int)) = true := decide_eq_true c21
            clear c21
            obtain ⟨ji22, hji22⟩ : ∃ j_ : Int, (IntKind.u64.wrap (Int.tmod (wrap64 (Int.tmod (IntKind.u64.wrap (a3)) 256)) 8)) = j_ := ⟨_, rfl⟩
            replace H : (if 0 ≤ (ji22) then ((token_Judge.f kj5 l0 (t525.set ((ji19) : Int).toNat (Go.bits .xor .u8 (rd t525 (ji19)) (shl .u8 1 (ji22)))) a1_0 a2 0 a1_3).bind fun t532 => (if t532 = 3 then ((fairleadlaw25_heads.f).bind fun t533 => (some t533)) else (some false))) else (none)) = some r := by first | (rw [hji22] at H; exact H) | (simp only [hji22] at H ⊢; exact H)
            by_cases c23 : 0 ≤ (ji22)
            · rw [if_pos c23] at H
              have c23b0 := eq_true c23
              have c23b1 : decide (0 ≤ (ji22)) = true := decide_eq_true c23
              clear c23
              obtain ⟨ji24, hji24⟩ : ∃ j_ : Int, (shl .u8 1 (ji22)) = j_ := ⟨_, rfl⟩
              replace H : ((token_Judge.f kj5 l0 (t525.set ((ji19) : Int).toNat (Go.bits .xor .u8 (rd t525 (ji19)) (ji24))) a1_0 a2 0 a1_3).bind fun t532 => (if t532 = 3 then ((fairleadlaw25_heads.f).bind fun t533 => (some t533)) else (some false))) = some r := by first | (rw [hji24] at H; exact H) | (simp only [hji24] at H ⊢; exact H)
              have hji24_ : (IntKind.u8.wrap (1 * 2 ^ min (ji22).toNat 8)) = ji24 := hji24
              have hji24z : (ji22) ≤ 8 → (IntKind.u8.wrap (1 * 2 ^ (ji22).toNat)) = ji24 := shl_small hji24
              have hji24u : (IntKind.u8.wrap (2 ^ min (ji22).toNat 8)) = ji24 := by have h_ := hji24_; rw [Int.one_mul] at h_; exact h_
              have hji24v : (ji22) ≤ 8 → (IntKind.u8.wrap (2 ^ (ji22).toNat)) = ji24 := fun hle_ => by have h_ := hji24z hle_; rw [Int.one_mul] at h_; exact h_
              obtain ⟨y531, hy531⟩ : ∃ y_ : List Int, y_ = (t525.set ((ji19) : Int).toNat (Go.bits .xor .u8 (rd t525 (ji19)) (ji24))) := ⟨_, rfl⟩
              replace H : ((token_Judge.f kj5 l0 y531 a1_0 a2 0 a1_3).bind fun t532 => (if t532 = 3 then ((fairleadlaw25_heads.f).bind fun t533 => (some t533)) else (some false))) = some r := by first | (rw [hy531]; with_reducible exact H) | (have H2_ := (Option.bind_some _ _).symm.trans H; rw [hy531]; with_reducible exact H2_) | (have H2_ := (Option.bind_some _ _).symm.trans H; with_reducible exact H2_) | with_reducible exact H | (rw [hy531]; exact H) | exact H
              have Ny531 := Aside0.mk hy531
              clear hy531
              replace H := Option.bind_eq_some_iff.mp H
              obtain ⟨t532, A260, H⟩ := H
              replace H : (if t532 = 3 then ((fairleadlaw25_heads.f).bind fun t533 => (some t533)) else (some false)) = some r := H
              have A26 := Aside0.mk A260
              clear A260
              by_cases c27 : t532 = 3
              · rw [if_pos c27] at H
                have c27b0 : (t532 == 3) = true := beq_iff_eq.mpr c27
                have c27b1 : (t532 != 3) = false := bne_eq_false_iff_eq.mpr c27
                clear c27
                replace H := Option.bind_eq_some_iff.mp H
                obtain ⟨t533, A280, H⟩ := H
                replace H : (some t533) = some r := H
                have A28 := Aside0.mk A280
                clear A280
                obtain rfl := Option.some.inj H
                obtain ⟨Ao29, co29, eo29⟩ := Kd.R_slice HO_9.out
                subst eo29
                have p530 : 0 ≤ ((ji19) : Int) := of_decide_eq_true (by first | (with_reducible assumption) | assumption)
                have q530 : (ji19) < (t525.length : Int) := of_decide_eq_true (by first | (with_reducible assumption) | assumption)
                obtain ⟨ad530, e530, hx530_0⟩ := Kd.at_int (Kd.R_reads' HO_9.out).2.2 (ji19) p530 q530
                cases e530
                replace p530 := eq_true p530
                replace q530 := eq_true q530
                have p25 : 0 ≤ ((ji19) : Int) := of_decide_eq_true (by first | (with_reducible assumption) | assumption)
                have q25 : ((ji19) : Int) < ((t525.length : Int) : Int) := of_decide_eq_true (by first | (with_reducible assumption) | assumption)
                obtain ⟨go25, co25, eo25, gb25, gl25, cl25, HG25⟩ := Kd.R_form HO_9.out (by omega)
                (first | cases eo25 | (injection eo25 with ea_ en_ ec_; (first | subst ea_ | (injection ea_ with ea_; subst ea_)); subst ec_; clear en_))
                have GB25 := Aside0.mk gb25
                have GG25 := Aside0.mk HG25
                clear gb25 gl25 HG25
                (first | simp only [add_plain] at hx530_0 | skip)
                obtain ⟨hx25_0, hf25_0⟩ := Kd.R_celln 0 HO_9.out ((ji19) : Int) p25 q25
                replace p25 := eq_true p25
                replace q25 := eq_true q25
                have HP30 := Kd.R_putg HO_9.out ((ji19) : Int) (Go.bits .xor .u8 (rd t525 (ji19)) (ji24))
                go_wp2_with (first | ((with_reducible refine gate_store (t := 5) (p := 59) rfl ?_); refine store_event (t := 5) (p := 59) (v := ?vo_w31) (w1 := (wc.setCell ⟨go25, ((ji19) : Int).toNat, none⟩ (.int .u8 (Go.bits .xor .u8 (rd t525 (ji19)) (ji24))))) ?hg ?ho ?hn ?hr ?_; (case ho => rfl); (case hg => rfl); (case hn => rfl); (case hr => first | (go_simp; done) | (go_simp; rfl) | (go_simp; simp only [q_w8, q_w16, q_w32, q_max8, q_max16, q_max32, q_max64]; done) | (go_simp; simp only [q_w8, q_w16, q_w32, q_max8, q_max16, q_max32, q_max64]; rfl) | (go_simp; simp [q_w8, q_w16, q_w32, q_max8, q_max16, q_max32, q_max64]; done)); intro w31 hw; have hg : wc.grownBy w31 (some go25) := (by rw [hw]; exact HP30.2); have hp_ : Kd.R (Kd.int .u8) 5 w31 w.heap.size (fun _ => True) (.slice (some ⟨go25, 0, none⟩) t525.length co29) y531 := (by rw [hw, Ny531.out]; exact HP30.1); clear HP30; have n0_ := Aside0.mk (hp_); have n1_ := Aside0.mk (blk_grown (g := gb524) (o := .cells #[.int .i64 a1_0, .int .i64 a1_1, .int .i64 a1_2, .int .i64 a1_3] 24 (0, 0)) (by (with_reducible repeat (first | refine blk_drewN ?_ _ | refine blk_drew ?_ | refine blk_alloc ?_ _)); exact BK524.out) hg (Kd.R_ne HO_9.out BK524.out (by decide))); have n2_ := Aside0.mk ((by rw [hw]; exact below_set (HB.out) GB25.out : Below w.heap.size w w31)); clear HO_9; clear BK524; clear HB; have HO_9 := n0_; have BK524 := n1_; have HB := n2_; clear n0_ n1_ n2_; clear hg hw hp_; have hcz32_0 : w31.cell? ⟨gb524, 0, none⟩ = some (.int .i64 a1_0) := (blk_cell BK524.out 0).trans rfl; have hcz32_1 : w31.cell? ⟨gb524, 1, none⟩ = some (.int .i64 a1_1) := (blk_cell BK524.out 1).trans rfl; have hcz32_2 : w31.cell? ⟨gb524, 2, none⟩ = some (.int .i64 a1_2) := (blk_cell BK524.out 2).trans rfl; have hcz32_3 : w31.cell? ⟨gb524, 3, none⟩ = some (.int .i64 a1_3) := (blk_cell BK524.out 3).trans rfl; have hfz32_0 := blk_frozen BK524.out 0; have hfz32_1 := blk_frozen BK524.out 1; have hfz32_2 := blk_frozen BK524.out 2; have hfz32_3 := blk_frozen BK524.out 3) | ((with_reducible refine gate_callee (f := 10) rfl ?_); refine goesL_ (some 67) rfl rfl Try.func10 (by kernel_rfl) rfl #[.slice A0 l0.length c0, .slice (some ⟨go25, 0, none⟩) y531.length co29, .int .i64 a1_0, .int .i64 a2, .int .i64 0, .int .i64 a1_3] rfl (by (try simp only [List.map_toArray, List.map_cons, List.map_nil]); first | done | (rw [show y531.length = t525.length from (Kd.R_reads' HO_9.out).1.symm] <;> rfl) | rfl | (simp only [List.length_drop, List.length_take]; rfl)) ?_; (with_reducible refine (token_Judge.calls kj5 _ _ l0 _ _ y531 a1_0 a2 0 a1_3 t532 _ ?side1 ?side2 ?side3 ?side4 A26.out).mono ?_); (case side1 => repeat (first | exact (Kd.C_below HR0.out HB.out) | (with_reducible refine Kd.C_alloc ?_ _) | (with_reducible refine Kd.C_drewN ?_ _) | (with_reducible refine Kd.C_drew ?_))); (case side2 => exact HC0.out); (case side3 => repeat (first | exact (Kd.R_reads' HO_9.out).2.2 | (with_reducible refine Kd.C_alloc ?_ _) | (with_reducible refine Kd.C_drewN ?_ _) | (with_reducible refine Kd.C_drew ?_))); (case side4 => rw [show y531.length = t525.length from (Kd.R_reads' HO_9.out).1.symm]; exact (Kd.R_reads' HO_9.out).2.1); rintro e w33 ⟨rfl, hb⟩; refine ⟨_, rfl, ?_⟩; have n0_ := Aside0.mk (Kd.R_below (by (with_reducible repeat (first | apply Kd.R_alloc | apply Kd.R_drewN | apply Kd.R_drew)); exact HO_9.out) hb); have n1_ := Aside0.mk (blk_below (g := gb524) (o := .cells #[.int .i64 a1_0, .int .i64 a1_1, .int .i64 a1_2, .int .i64 a1_3] 24 (0, 0)) (by (with_reducible repeat (first | refine blk_drewN ?_ _ | refine blk_drew ?_ | refine blk_alloc ?_ _)); exact BK524.out) hb); have n2_ := Aside0.mk (below_step (by repeat (first | (with_reducible first | exact HB.out | apply below_alloc | apply pw_below_drewN | apply below_drew1 | refine below_set ?_ GE524.out) | exact HB.out)) hb); clear HO_9; clear BK524; clear HB; have HO_9 := n0_; have BK524 := n1_; have HB := n2_; clear n0_ n1_ n2_; (try clear hb); (try clear hb2); (try clear hk); (try clear hi)) | (go_at_call 9; (with_reducible refine (fairleadlaw25_heads.calls  t533 _ A28.out).mono ?_); rintro e w34 ⟨rfl, hb⟩; have n0_ := Aside0.mk (Kd.R_below (by (with_reducible repeat (first | apply Kd.R_alloc | apply Kd.R_drewN | apply Kd.R_drew)); exact HO_9.out) hb); have n1_ := Aside0.mk (blk_below (g := gb524) (o := .cells #[.int .i64 a1_0, .int .i64 a1_1, .int .i64 a1_2, .int .i64 a1_3] 24 (0, 0)) (by (with_reducible repeat (first | refine blk_drewN ?_ _ | refine blk_drew ?_ | refine blk_alloc ?_ _)); exact BK524.out) hb); have n2_ := Aside0.mk (below_step (by repeat (first | (with_reducible first | exact HB.out | apply below_alloc | apply pw_below_drewN | apply below_drew1 | refine below_set ?_ GE524.out) | exact HB.out)) hb); clear HO_9; clear BK524; clear HB; have HO_9 := n0_; have BK524 := n1_; have HB := n2_; clear n0_ n1_ n2_; (try clear hb); (try clear hb2); (try clear hk); (try clear hi)))
                go_ret
                exact ⟨by first | rfl | (simp [errW_none, errW_some] <;> rfl) | (simp only [← hji19, ← hji22, ← hji24]; first | rfl | (simp [errW_none, errW_some] <;> rfl)) | (simp [*, errW_none, errW_some] <;> rfl), by repeat (first | (with_reducible first | exact HB.out | apply below_alloc | apply pw_below_drewN | apply below_drew1 | refine below_set ?_ GE524.out) | exact HB.out)⟩
              · rw [if_neg c27] at H
                have c27b0 : (t532 == 3) = false := beq_eq_false_iff_ne.mpr c27
                have c27b1 : (t532 != 3) = true := bne_iff_ne.mpr c27
                obtain rfl := Option.some.inj H
                obtain ⟨Ao35, co35, eo35⟩ := Kd.R_slice HO_9.out
                subst eo35
                have p530 : 0 ≤ ((ji19) : Int) := of_decide_eq_true (by first | (with_reducible assumption) | assumption)
                have q530 : (ji19) < (t525.length : Int) := of_decide_eq_true (by first | (with_reducible assumption) | assumption)
                obtain ⟨ad530, e530, hx530_0⟩ := Kd.at_int (Kd.R_reads' HO_9.out).2.2 (ji19) p530 q530
                cases e530
                replace p530 := eq_true p530
                replace q530 := eq_true q530
                have p25 : 0 ≤ ((ji19) : Int) := of_decide_eq_true (by first | (with_reducible assumption) | assumption)
                have q25 : ((ji19) : Int) < ((t525.length : Int) : Int) := of_decide_eq_true (by first | (with_reducible assumption) | assumption)
                obtain ⟨go25, co25, eo25, gb25, gl25, cl25, HG25⟩ := Kd.R_form HO_9.out (by omega)
                (first | cases eo25 | (injection eo25 with ea_ en_ ec_; (first | subst ea_ | (injection ea_ with ea_; subst ea_)); subst ec_; clear en_))
                have GB25 := Aside0.mk gb25
                have GG25 := Aside0.mk HG25
                clear gb25 gl25 HG25
                (first | simp only [add_plain] at hx530_0 | skip)
                obtain ⟨hx25_0, hf25_0⟩ := Kd.R_celln 0 HO_9.out ((ji19) : Int) p25 q25
                replace p25 := eq_true p25
                replace q25 := eq_true q25
                have HP36 := Kd.R_putg HO_9.out ((ji19) : Int) (Go.bits .xor .u8 (rd t525 (ji19)) (ji24))
                go_wp2_with (first | ((with_reducible refine gate_store (t := 5) (p := 59) rfl ?_); refine store_event (t := 5) (p := 59) (v := ?vo_w37) (w1 := (wc.setCell ⟨go25, ((ji19) : Int).toNat, none⟩ (.int .u8 (Go.bits .xor .u8 (rd t525 (ji19)) (ji24))))) ?hg ?ho ?hn ?hr ?_; (case ho => rfl); (case hg => rfl); (case hn => rfl); (case hr => first | (go_simp; done) | (go_simp; rfl) | (go_simp; simp only [q_w8, q_w16, q_w32, q_max8, q_max16, q_max32, q_max64]; done) | (go_simp; simp only [q_w8, q_w16, q_w32, q_max8, q_max16, q_max32, q_max64]; rfl) | (go_simp; simp [q_w8, q_w16, q_w32, q_max8, q_max16, q_max32, q_max64]; done)); intro w37 hw; have hg : wc.grownBy w37 (some go25) := (by rw [hw]; exact HP36.2); have hp_ : Kd.R (Kd.int .u8) 5 w37 w.heap.size (fun _ => True) (.slice (some ⟨go25, 0, none⟩) t525.length co35) y531 := (by rw [hw, Ny531.out]; exact HP36.1); clear HP36; have n0_ := Aside0.mk (hp_); have n1_ := Aside0.mk (blk_grown (g := gb524) (o := .cells #[.int .i64 a1_0, .int .i64 a1_1, .int .i64 a1_2, .int .i64 a1_3] 24 (0, 0)) (by (with_reducible repeat (first | refine blk_drewN ?_ _ | refine blk_drew ?_ | refine blk_alloc ?_ _)); exact BK524.out) hg (Kd.R_ne HO_9.out BK524.out (by decide))); have n2_ := Aside0.mk ((by rw [hw]; exact below_set (HB.out) GB25.out : Below w.heap.size w w37)); clear HO_9; clear BK524; clear HB; have HO_9 := n0_; have BK524 := n1_; have HB := n2_; clear n0_ n1_ n2_; clear hg hw hp_; have hcz38_0 : w37.cell? ⟨gb524, 0, none⟩ = some (.int .i64 a1_0) := (blk_cell BK524.out 0).trans rfl; have hcz38_1 : w37.cell? ⟨gb524, 1, none⟩ = some (.int .i64 a1_1) := (blk_cell BK524.out 1).trans rfl; have hcz38_2 : w37.cell? ⟨gb524, 2, none⟩ = some (.int .i64 a1_2) := (blk_cell BK524.out 2).trans rfl; have hcz38_3 : w37.cell? ⟨gb524, 3, none⟩ = some (.int .i64 a1_3) := (blk_cell BK524.out 3).trans rfl; have hfz38_0 := blk_frozen BK524.out 0; have hfz38_1 := blk_frozen BK524.out 1; have hfz38_2 := blk_frozen BK524.out 2; have hfz38_3 := blk_frozen BK524.out 3) | ((with_reducible refine gate_callee (f := 10) rfl ?_); refine goesL_ (some 67) rfl rfl Try.func10 (by kernel_rfl) rfl #[.slice A0 l0.length c0, .slice (some ⟨go25, 0, none⟩) y531.length co35, .int .i64 a1_0, .int .i64 a2, .int .i64 0, .int .i64 a1_3] rfl (by (try simp only [List.map_toArray, List.map_cons, List.map_nil]); first | done | (rw [show y531.length = t525.length from (Kd.R_reads' HO_9.out).1.symm] <;> rfl) | rfl | (simp only [List.length_drop, List.length_take]; rfl)) ?_; (with_reducible refine (token_Judge.calls kj5 _ _ l0 _ _ y531 a1_0 a2 0 a1_3 t532 _ ?side1 ?side2 ?side3 ?side4 A26.out).mono ?_); (case side1 => repeat (first | exact (Kd.C_below HR0.out HB.out) | (with_reducible refine Kd.C_alloc ?_ _) | (with_reducible refine Kd.C_drewN ?_ _) | (with_reducible refine Kd.C_drew ?_))); (case side2 => exact HC0.out); (case side3 => repeat (first | exact (Kd.R_reads' HO_9.out).2.2 | (with_reducible refine Kd.C_alloc ?_ _) | (with_reducible refine Kd.C_drewN ?_ _) | (with_reducible refine Kd.C_drew ?_))); (case side4 => rw [show y531.length = t525.length from (Kd.R_reads' HO_9.out).1.symm]; exact (Kd.R_reads' HO_9.out).2.1); rintro e w39 ⟨rfl, hb⟩; refine ⟨_, rfl, ?_⟩; have n0_ := Aside0.mk (Kd.R_below (by (with_reducible repeat (first | apply Kd.R_alloc | apply Kd.R_drewN | apply Kd.R_drew)); exact HO_9.out) hb); have n1_ := Aside0.mk (blk_below (g := gb524) (o := .cells #[.int .i64 a1_0, .int .i64 a1_1, .int .i64 a1_2, .int .i64 a1_3] 24 (0, 0)) (by (with_reducible repeat (first | refine blk_drewN ?_ _ | refine blk_drew ?_ | refine blk_alloc ?_ _)); exact BK524.out) hb); have n2_ := Aside0.mk (below_step (by repeat (first | (with_reducible first | exact HB.out | apply below_alloc | apply pw_below_drewN | apply below_drew1 | refine below_set ?_ GE524.out) | exact HB.out)) hb); clear HO_9; clear BK524; clear HB; have HO_9 := n0_; have BK524 := n1_; have HB := n2_; clear n0_ n1_ n2_; (try clear hb); (try clear hb2); (try clear hk); (try clear hi)))
                go_ret
                exact ⟨by first | rfl | (simp [errW_none, errW_some] <;> rfl) | (simp only [← hji19, ← hji22, ← hji24]; first | rfl | (simp [errW_none, errW_some] <;> rfl)) | (simp [*, errW_none, errW_some] <;> rfl), by repeat (first | (with_reducible first | exact HB.out | apply below_alloc | apply pw_below_drewN | apply below_drew1 | refine below_set ?_ GE524.out) | exact HB.out)⟩
            · rw [if_neg c23] at H
              exact absurd H (by simp)
          · rw [if_neg c21] at H
            exact absurd H (by simp)
        · rw [if_neg c20] at H
          exact absurd H (by simp)
end Go.Proofs.Ytgkaklpgccjmpaa.Q
