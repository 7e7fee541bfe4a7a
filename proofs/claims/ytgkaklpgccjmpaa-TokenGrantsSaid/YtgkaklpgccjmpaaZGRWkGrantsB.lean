/- Lemmas for GR; a slim copy of this session's texts (slim.py). -/
import Derived.Test.YtgkaklpgccjmpaaZGRQ14
import Derived.Test.YtgkaklpgccjmpaaZGRQ5
import Derived.Test.YtgkaklpgccjmpaaZGRQ6
import Derived.Test.YtgkaklpgccjmpaaZGRQ7
import Derived.Test.YtgkaklpgccjmpaaZGRPsum
namespace Go.Proofs.Ytgkaklpgccjmpaa.Wk
open Go.RowKit Go.Proofs.Ytgkaklpgccjmpaa.Q Go.Proofs.YtgkaklpgccjmpaaW.PrintWords Go.Proofs.YtgkaklpgccjmpaaW.PrintLast Go.Proofs.YtgkaklpgccjmpaaW.PrintMore Go.Proofs.Ytgkaklpgccjmpaa.Pn
set_option linter.unusedVariables false
set_option linter.unusedSimpArgs false
set_option maxHeartbeats 4000000 in
set_option maxRecDepth 100000 in
theorem grants_2 (k : Nat) (A0 : Option Addr) (c0 : Nat) (l0 : List Int) (A1 : Option Addr) (c1 : Nat) (l1 : List Int) (a2 a3 a4 a5 : Int) (w : World) (hr0 : Kd.C (Kd.int .u8) w A0 l0.length l0) (hc0 : l0.length ≤ c0) (hr1 : Kd.C (Kd.int .u8) w A1 l1.length l1) (hc1 : l1.length ≤ c1) (hs : decide (200 < (l0.length : Int)) = false) (r : Int) (hJ : token_Judge.f k l0 l1 a2 a3 a4 a5 = some r) (v1 v2 v3 v4 er : Int) (y : List Int) (hD : token_Read.f k l1 = some (v1, v2, v3, v4, y, er)) (he : (er != 0) = false) (m : List Int) (hM : token_Mint.f k l0 v1 v2 v3 v4 = some (m, 0)) (hS : fairleadref01_Same.f l1 m = some true) (hq : a3 = 1 ∨ a3 = 2 ∨ a3 = 4 ∨ a3 = 8 ∨ ((a3 == 1) = false ∧ (a3 == 2) = false ∧ (a3 == 4) = false ∧ (a3 == 8) = false))(h1 : (v1 == a2) = true) (h2 : (v4 == a5) = false)  (hg : (r == 0) = false) :
    Calls Try.prog 6 #[.slice A0 l0.length c0, .slice A1 l1.length c1, .int .i64 a2, .int .i64 a3, .int .i64 a4, .int .i64 a5] w fun e w' => e = .returned (.bool true) ∧ Below w.heap.size w w' := by
  have hu24 := Try.underlying24
  have HK := Aside0.mk hr0
  have HR := Aside0.mk hr1
  have HB := Aside0.mk (Below.refl w.heap.size w)
  have C0 := Aside0.mk hc0
  have C1 := Aside0.mk hc1
  have GJ := Aside0.mk hJ
  have GD := Aside0.mk hD
  clear hr0 hr1 hc0 hc1 hJ hD
  have GM := Aside0.mk hM
  have GS := Aside0.mk hS
  clear hM hS
  rcases hq with rfl | rfl | rfl | rfl | ⟨q1, q2, q4, q8⟩
  all_goals
    go_enter Try.func6, Try.ntmps6
    go_wp2_with fail
    refine (token_Judge.calls k _ _ l0 _ _ l1 a2 _ a4 a5 r _ (Kd.C_below HK.out (by repeat (first | exact Below.refl _ _ | apply below_alloc | apply pw_below_drewN | apply below_drew1 | (refine below_set ?_ (by simp))))) C0.out (Kd.C_below HR.out (by repeat (first | exact Below.refl _ _ | apply below_alloc | apply pw_below_drewN | apply below_drew1 | (refine below_set ?_ (by simp))))) C1.out GJ.out).mono ?_
    rintro e x1 ⟨rfl, hb⟩
    have hbb := Aside0.mk (show Below w.heap.size w x1 from below_step (by repeat (first | exact Below.refl _ _ | apply below_alloc | apply pw_below_drewN | apply below_drew1 | (refine below_set ?_ (by simp)))) hb)
    have n0_ := Aside0.mk (below_step HB.out hbb.out)
    have n1_ := Aside0.mk (Kd.C_below HK.out hbb.out)
    have n2_ := Aside0.mk (Kd.C_below HR.out hbb.out)
    clear HB HK HR hbb hb
    have HB := n0_
    have HK := n1_
    have HR := n2_
    clear n0_ n1_ n2_
    go_wp2_with fail
    refine (token_Read.calls k _ _ l1 v1 v2 v3 v4 y er _ (Kd.C_below HR.out (by repeat (first | exact Below.refl _ _ | apply below_alloc | apply pw_below_drewN | apply below_drew1 | (refine below_set ?_ (by simp))))) C1.out GD.out).mono ?_
    rintro e x2 ⟨v, rfl, hr, hb⟩
    obtain ⟨Ay, cy, rfl, -, -⟩ := Kd.R_reads hr
    have hbb := Aside0.mk (show Below x1.heap.size x1 x2 from below_step (by repeat (first | exact Below.refl _ _ | apply below_alloc | apply pw_below_drewN | apply below_drew1 | (refine below_set ?_ (by simp)))) hb)
    have n0_ := Aside0.mk (below_step HB.out hbb.out)
    have n1_ := Aside0.mk (Kd.C_below HK.out hbb.out)
    have n2_ := Aside0.mk (Kd.C_below HR.out hbb.out)
    clear HB HK HR hbb hr hb
    have HB := n0_
    have HK := n1_
    have HR := n2_
    clear n0_ n1_ n2_
    have hX := heap_alloc_new x2 (.cells #[.int .i64 v1, .int .i64 v2, .int .i64 v3, .int .i64 v4] 24)
    go_wp2_with fail
    refine (token_Mint.calls k _ _ l0 v1 v2 v3 v4 m 0 _ (Kd.C_below HK.out (by repeat (first | exact Below.refl _ _ | apply below_alloc | apply pw_below_drewN | apply below_drew1 | (refine below_set ?_ (by simp))))) C0.out GM.out).mono ?_
    rintro e x3 ⟨v, rfl, hr, hb⟩
    obtain ⟨Am, cm, rfl, hcm, hCm⟩ := Kd.R_reads hr
    have Lm := Aside0.mk hcm
    have hbb := Aside0.mk (show Below x2.heap.size x2 x3 from below_step (by repeat (first | exact Below.refl _ _ | apply below_alloc | apply pw_below_drewN | apply below_drew1 | (refine below_set ?_ (by simp)))) hb)
    have n0_ := Aside0.mk (below_step HB.out hbb.out)
    have n1_ := Aside0.mk (Kd.C_below HK.out hbb.out)
    have n2_ := Aside0.mk (Kd.C_below HR.out hbb.out)
    have m0_ := Aside0.mk (hCm)
    have m1_ := Aside0.mk (blk_below hX hb)
    clear HB HK HR hbb hr hb hCm hcm hX
    have HB := n0_
    have HK := n1_
    have HR := n2_
    have HM := m0_
    have BK := m1_
    clear n0_ n1_ n2_ m0_ m1_
    go_wp2_with fail
    refine (fairleadref01_Same.calls _ _ l1 _ _ m _ _ (Kd.C_below HR.out (by repeat (first | exact Below.refl _ _ | apply below_alloc | apply pw_below_drewN | apply below_drew1 | (refine below_set ?_ (by simp))))) C1.out (Kd.C_below HM.out (by repeat (first | exact Below.refl _ _ | apply below_alloc | apply pw_below_drewN | apply below_drew1 | (refine below_set ?_ (by simp))))) Lm.out GS.out).mono ?_
    rintro e x4 ⟨rfl, hd⟩
    have hbb := Aside0.mk (show Below x3.heap.size x3 x4 from below_step (by repeat (first | exact Below.refl _ _ | apply below_alloc | apply pw_below_drewN | apply below_drew1 | (refine below_set ?_ (by simp)))) hd.below)
    have n0_ := Aside0.mk (below_step HB.out hbb.out)
    have n1_ := Aside0.mk (Kd.C_below HK.out hbb.out)
    have n2_ := Aside0.mk (Kd.C_below HR.out hbb.out)
    have n3_ := Aside0.mk (Kd.C_below HM.out hbb.out)
    have n4_ := Aside0.mk (blk_below BK.out hbb.out)
    clear HB HK HR HM BK hbb hd
    have HB := n0_
    have HK := n1_
    have HR := n2_
    have HM := n3_
    have BK := n4_
    clear n0_ n1_ n2_ n3_ n4_
    have hz_BK_0 := (blk_cell BK.out 0).trans (by rfl)
    have hz_BK_1 := (blk_cell BK.out 1).trans (by rfl)
    have hz_BK_2 := (blk_cell BK.out 2).trans (by rfl)
    have hz_BK_3 := (blk_cell BK.out 3).trans (by rfl)
    go_wp2_with fail
    refine (fairleadlaw25_heads.calls true _ rfl).mono ?_
    rintro e x5 ⟨rfl, hb⟩
    clear hz_BK_0 hz_BK_1 hz_BK_2 hz_BK_3
    have hbb := Aside0.mk (show Below x4.heap.size x4 x5 from below_step (by repeat (first | exact Below.refl _ _ | apply below_alloc | apply pw_below_drewN | apply below_drew1 | (refine below_set ?_ (by simp)))) hb)
    have n0_ := Aside0.mk (below_step HB.out hbb.out)
    have n1_ := Aside0.mk (Kd.C_below HK.out hbb.out)
    have n2_ := Aside0.mk (Kd.C_below HR.out hbb.out)
    have n3_ := Aside0.mk (Kd.C_below HM.out hbb.out)
    have n4_ := Aside0.mk (blk_below BK.out hbb.out)
    clear HB HK HR HM BK hbb hb
    have HB := n0_
    have HK := n1_
    have HR := n2_
    have HM := n3_
    have BK := n4_
    clear n0_ n1_ n2_ n3_ n4_
    go_wp2_with fail
    go_ret
    exact ⟨rfl, HB.out⟩
set_option maxHeartbeats 4000000 in
set_option maxRecDepth 100000 in
theorem grants_3 (k : Nat) (A0 : Option Addr) (c0 : Nat) (l0 : List Int) (A1 : Option Addr) (c1 : Nat) (l1 : List Int) (a2 a3 a4 a5 : Int) (w : World) (hr0 : Kd.C (Kd.int .u8) w A0 l0.length l0) (hc0 : l0.length ≤ c0) (hr1 : Kd.C (Kd.int .u8) w A1 l1.length l1) (hc1 : l1.length ≤ c1) (hs : decide (200 < (l0.length : Int)) = false) (r : Int) (hJ : token_Judge.f k l0 l1 a2 a3 a4 a5 = some r) (v1 v2 v3 v4 er : Int) (y : List Int) (hD : token_Read.f k l1 = some (v1, v2, v3, v4, y, er)) (he : (er != 0) = false) (m : List Int) (hM : token_Mint.f k l0 v1 v2 v3 v4 = some (m, 0)) (hS : fairleadref01_Same.f l1 m = some true) (hq : a3 = 1 ∨ a3 = 2 ∨ a3 = 4 ∨ a3 = 8 ∨ ((a3 == 1) = false ∧ (a3 == 2) = false ∧ (a3 == 4) = false ∧ (a3 == 8) = false))(h1 : (v1 == a2) = true) (h2 : (v4 == a5) = true) (h3 : decide (a4 ≤ v3) = false)  (hg : (r == 0) = false) :
    Calls Try.prog 6 #[.slice A0 l0.length c0, .slice A1 l1.length c1, .int .i64 a2, .int .i64 a3, .int .i64 a4, .int .i64 a5] w fun e w' => e = .returned (.bool true) ∧ Below w.heap.size w w' := by
  have hu24 := Try.underlying24
  have HK := Aside0.mk hr0
  have HR := Aside0.mk hr1
  have HB := Aside0.mk (Below.refl w.heap.size w)
  have C0 := Aside0.mk hc0
  have C1 := Aside0.mk hc1
  have GJ := Aside0.mk hJ
  have GD := Aside0.mk hD
  clear hr0 hr1 hc0 hc1 hJ hD
  have GM := Aside0.mk hM
  have GS := Aside0.mk hS
  clear hM hS
  rcases hq with rfl | rfl | rfl | rfl | ⟨q1, q2, q4, q8⟩
  all_goals
    go_enter Try.func6, Try.ntmps6
    go_wp2_with fail
    refine (token_Judge.calls k _ _ l0 _ _ l1 a2 _ a4 a5 r _ (Kd.C_below HK.out (by repeat (first | exact Below.refl _ _ | apply below_alloc | apply pw_below_drewN | apply below_drew1 | (refine below_set ?_ (by simp))))) C0.out (Kd.C_below HR.out (by repeat (first | exact Below.refl _ _ | apply below_alloc | apply pw_below_drewN | apply below_drew1 | (refine below_set ?_ (by simp))))) C1.out GJ.out).mono ?_
    rintro e x1 ⟨rfl, hb⟩
    have hbb := Aside0.mk (show Below w.heap.size w x1 from below_step (by repeat (first | exact Below.refl _ _ | apply below_alloc | apply pw_below_drewN | apply below_drew1 | (refine below_set ?_ (by simp)))) hb)
    have n0_ := Aside0.mk (below_step HB.out hbb.out)
    have n1_ := Aside0.mk (Kd.C_below HK.out hbb.out)
    have n2_ := Aside0.mk (Kd.C_below HR.out hbb.out)
    clear HB HK HR hbb hb
    have HB := n0_
    have HK := n1_
    have HR := n2_
    clear n0_ n1_ n2_
    go_wp2_with fail
    refine (token_Read.calls k _ _ l1 v1 v2 v3 v4 y er _ (Kd.C_below HR.out (by repeat (first | exact Below.refl _ _ | apply below_alloc | apply pw_below_drewN | apply below_drew1 | (refine below_set ?_ (by simp))))) C1.out GD.out).mono ?_
    rintro e x2 ⟨v, rfl, hr, hb⟩
    obtain ⟨Ay, cy, rfl, -, -⟩ := Kd.R_reads hr
    have hbb := Aside0.mk (show Below x1.heap.size x1 x2 from below_step (by repeat (first | exact Below.refl _ _ | apply below_alloc | apply pw_below_drewN | apply below_drew1 | (refine below_set ?_ (by simp)))) hb)
    have n0_ := Aside0.mk (below_step HB.out hbb.out)
    have n1_ := Aside0.mk (Kd.C_below HK.out hbb.out)
    have n2_ := Aside0.mk (Kd.C_below HR.out hbb.out)
    clear HB HK HR hbb hr hb
    have HB := n0_
    have HK := n1_
    have HR := n2_
    clear n0_ n1_ n2_
    have hX := heap_alloc_new x2 (.cells #[.int .i64 v1, .int .i64 v2, .int .i64 v3, .int .i64 v4] 24)
    go_wp2_with fail
    refine (token_Mint.calls k _ _ l0 v1 v2 v3 v4 m 0 _ (Kd.C_below HK.out (by repeat (first | exact Below.refl _ _ | apply below_alloc | apply pw_below_drewN | apply below_drew1 | (refine below_set ?_ (by simp))))) C0.out GM.out).mono ?_
    rintro e x3 ⟨v, rfl, hr, hb⟩
    obtain ⟨Am, cm, rfl, hcm, hCm⟩ := Kd.R_reads hr
    have Lm := Aside0.mk hcm
    have hbb := Aside0.mk (show Below x2.heap.size x2 x3 from below_step (by repeat (first | exact Below.refl _ _ | apply below_alloc | apply pw_below_drewN | apply below_drew1 | (refine below_set ?_ (by simp)))) hb)
    have n0_ := Aside0.mk (below_step HB.out hbb.out)
    have n1_ := Aside0.mk (Kd.C_below HK.out hbb.out)
    have n2_ := Aside0.mk (Kd.C_below HR.out hbb.out)
    have m0_ := Aside0.mk (hCm)
    have m1_ := Aside0.mk (blk_below hX hb)
    clear HB HK HR hbb hr hb hCm hcm hX
    have HB := n0_
    have HK := n1_
    have HR := n2_
    have HM := m0_
    have BK := m1_
    clear n0_ n1_ n2_ m0_ m1_
    go_wp2_with fail
    refine (fairleadref01_Same.calls _ _ l1 _ _ m _ _ (Kd.C_below HR.out (by repeat (first | exact Below.refl _ _ | apply below_alloc | apply pw_below_drewN | apply below_drew1 | (refine below_set ?_ (by simp))))) C1.out (Kd.C_below HM.out (by repeat (first | exact Below.refl _ _ | apply below_alloc | apply pw_below_drewN | apply below_drew1 | (refine below_set ?_ (by simp))))) Lm.out GS.out).mono ?_
    rintro e x4 ⟨rfl, hd⟩
    have hbb := Aside0.mk (show Below x3.heap.size x3 x4 from below_step (by repeat (first | exact Below.refl _ _ | apply below_alloc | apply pw_below_drewN | apply below_drew1 | (refine below_set ?_ (by simp)))) hd.below)
    have n0_ := Aside0.mk (below_step HB.out hbb.out)
    have n1_ := Aside0.mk (Kd.C_below HK.out hbb.out)
    have n2_ := Aside0.mk (Kd.C_below HR.out hbb.out)
    have n3_ := Aside0.mk (Kd.C_below HM.out hbb.out)
    have n4_ := Aside0.mk (blk_below BK.out hbb.out)
    clear HB HK HR HM BK hbb hd
    have HB := n0_
    have HK := n1_
    have HR := n2_
    have HM := n3_
    have BK := n4_
    clear n0_ n1_ n2_ n3_ n4_
    have hz_BK_0 := (blk_cell BK.out 0).trans (by rfl)
    have hz_BK_1 := (blk_cell BK.out 1).trans (by rfl)
    have hz_BK_2 := (blk_cell BK.out 2).trans (by rfl)
    have hz_BK_3 := (blk_cell BK.out 3).trans (by rfl)
    go_wp2_with fail
    refine (fairleadlaw25_heads.calls true _ rfl).mono ?_
    rintro e x5 ⟨rfl, hb⟩
    clear hz_BK_0 hz_BK_1 hz_BK_2 hz_BK_3
    have hbb := Aside0.mk (show Below x4.heap.size x4 x5 from below_step (by repeat (first | exact Below.refl _ _ | apply below_alloc | apply pw_below_drewN | apply below_drew1 | (refine below_set ?_ (by simp)))) hb)
    have n0_ := Aside0.mk (below_step HB.out hbb.out)
    have n1_ := Aside0.mk (Kd.C_below HK.out hbb.out)
    have n2_ := Aside0.mk (Kd.C_below HR.out hbb.out)
    have n3_ := Aside0.mk (Kd.C_below HM.out hbb.out)
    have n4_ := Aside0.mk (blk_below BK.out hbb.out)
    clear HB HK HR HM BK hbb hb
    have HB := n0_
    have HK := n1_
    have HR := n2_
    have HM := n3_
    have BK := n4_
    clear n0_ n1_ n2_ n3_ n4_
    go_wp2_with fail
    go_ret
    exact ⟨rfl, HB.out⟩
end Go.Proofs.Ytgkaklpgccjmpaa.Wk
