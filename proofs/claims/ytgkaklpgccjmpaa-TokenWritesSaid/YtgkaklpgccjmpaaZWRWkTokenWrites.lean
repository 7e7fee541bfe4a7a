/- Lemmas for WR; a slim copy of this session's texts (slim.py). -/
import Derived.Test.YtgkaklpgccjmpaaZWRQ1
import Derived.Test.YtgkaklpgccjmpaaZWRQ10
import Derived.Test.YtgkaklpgccjmpaaZWRQ14
import Derived.Test.YtgkaklpgccjmpaaZWRQ15
import Derived.Test.YtgkaklpgccjmpaaZWRQ5
import Derived.Test.YtgkaklpgccjmpaaZWRQ6
import Derived.Test.YtgkaklpgccjmpaaZWRQ7
import Derived.Test.YtgkaklpgccjmpaaZWRQ8
import Derived.Test.YtgkaklpgccjmpaaZWRPsum
import Derived.Laws.StructEq
namespace Go.Proofs.Ytgkaklpgccjmpaa.Wk
open Go.RowKit Go.Proofs.Ytgkaklpgccjmpaa.Q Go.Proofs.YtgkaklpgccjmpaaW.PrintWords Go.Proofs.YtgkaklpgccjmpaaW.PrintLast Go.Proofs.YtgkaklpgccjmpaaW.PrintMore Go.Proofs.Ytgkaklpgccjmpaa.Pn
set_option linter.unusedVariables false
set_option linter.unusedSimpArgs false
set_option maxHeartbeats 4000000 in
set_option maxRecDepth 100000 in
theorem writes_long (A0 : Option Addr) (c0 : Nat) (l0 : List Int) (t1 t2 t3 t4 : Int) (A2 : Option Addr) (c2 : Nat) (l2 : List Int) (w : World) (hs : decide (200 < (l0.length : Int)) = true) :
    Calls Try.prog 4 #[.slice A0 l0.length c0, .agg #[.int .i64 t1, .int .i64 t2, .int .i64 t3, .int .i64 t4], .slice A2 l2.length c2] w fun e w' => e = .returned (.bool true) ∧ Below w.heap.size w w' := by
  have hu24 := Try.underlying24
  go_enter Try.func4, Try.ntmps4
  go_wp2_with fail
  refine (fairleadlaw25_heads.calls true _ rfl).mono ?_
  rintro e x ⟨rfl, hb⟩
  go_wp2_with fail
  go_ret
  exact ⟨rfl, below_step (below_alloc (Below.refl _ _) _) hb⟩
set_option maxHeartbeats 4000000 in
set_option maxRecDepth 100000 in
theorem TokenWrites (k : Nat) (A0 : Option Addr) (c0 : Nat) (l0 : List Int) (t1 t2 t3 t4 : Int) (A2 : Option Addr) (c2 : Nat) (l2 : List Int) (w : World) (hr0 : Kd.C (Kd.int .u8) w A0 l0.length l0) (hc0 : l0.length ≤ c0) (hr2 : Kd.C (Kd.int .u8) w A2 l2.length l2) (hc2 : l2.length ≤ c2)
    (hs : decide (200 < (l0.length : Int)) = false) (m b : List Int) (em eb v1 v2 v3 v4 er : Int) (y : List Int) (hM : token_Mint.f k l0 t1 t2 t3 t4 = some (m, em)) (hM' : fairleadref25_Mint.f k l0 t1 t2 t3 t4 = some (m, em)) (hB : token_Body.f k t1 t2 t3 t4 = some (b, eb)) (hB' : fairleadref25_Body.f k t1 t2 t3 t4 = some (b, eb)) (hD : token_Read.f k l2 = some (v1, v2, v3, v4, y, er)) (hD' : fairleadref25_Read.f k l2 = some (v1, v2, v3, v4, y, er)) :
    Calls Try.prog 4 #[.slice A0 l0.length c0, .agg #[.int .i64 t1, .int .i64 t2, .int .i64 t3, .int .i64 t4], .slice A2 l2.length c2] w fun e w' => e = .returned (.bool true) ∧ Below w.heap.size w w' := by
  have hu24 := Try.underlying24
  have HK := Aside0.mk hr0
  have HR := Aside0.mk hr2
  have HB := Aside0.mk (Below.refl w.heap.size w)
  have C0 := Aside0.mk hc0
  have C2 := Aside0.mk hc2
  have SS := Aside0.mk Pn.Same_self
  have GM := Aside0.mk hM
  have GM' := Aside0.mk hM'
  have GB := Aside0.mk hB
  have GB' := Aside0.mk hB'
  have GD := Aside0.mk hD
  have GD' := Aside0.mk hD'
  clear hr0 hr2 hc0 hc2 hM hM' hB hB' hD hD'
  go_enter Try.func4, Try.ntmps4
  have hX := heap_alloc_new w (.cells #[.int .i64 t1, .int .i64 t2, .int .i64 t3, .int .i64 t4] 24)
  go_wp2_with fail
  refine (token_Mint.calls k _ _ l0 t1 t2 t3 t4 m em _ (Kd.C_below HK.out (by repeat (first | exact Below.refl _ _ | apply below_alloc | apply pw_below_drewN | apply below_drew1 | (refine below_set ?_ (by simp))))) C0.out GM.out).mono ?_
  rintro e x1 ⟨v, rfl, hr, hb⟩
  obtain ⟨Aa, ca, rfl, hca, hCa⟩ := Kd.R_reads hr
  have La := Aside0.mk hca
  have hbb := Aside0.mk (show Below w.heap.size w x1 from below_step (by repeat (first | exact Below.refl _ _ | apply below_alloc | apply pw_below_drewN | apply below_drew1 | (refine below_set ?_ (by simp)))) hb)
  have n0_ := Aside0.mk (below_step HB.out hbb.out)
  have n1_ := Aside0.mk (Kd.C_below HK.out hbb.out)
  have n2_ := Aside0.mk (Kd.C_below HR.out hbb.out)
  have m0_ := Aside0.mk (hCa)
  have m1_ := Aside0.mk (blk_below hX hb)
  clear HB HK HR hbb hr hb hCa hca hX
  have HB := n0_
  have HK := n1_
  have HR := n2_
  have HCa := m0_
  have BK := m1_
  clear n0_ n1_ n2_ m0_ m1_
  have hz_BK_0 := (blk_cell BK.out 0).trans (by rfl)
  have hz_BK_1 := (blk_cell BK.out 1).trans (by rfl)
  have hz_BK_2 := (blk_cell BK.out 2).trans (by rfl)
  have hz_BK_3 := (blk_cell BK.out 3).trans (by rfl)
  go_wp2_with fail
  refine (fairleadref25_Mint.calls k _ _ l0 t1 t2 t3 t4 m em _ (Kd.C_below HK.out (by repeat (first | exact Below.refl _ _ | apply below_alloc | apply pw_below_drewN | apply below_drew1 | (refine below_set ?_ (by simp))))) C0.out GM'.out).mono ?_
  rintro e x2 ⟨v, rfl, hr, hb⟩
  clear hz_BK_0 hz_BK_1 hz_BK_2 hz_BK_3
  obtain ⟨Ab, cb, rfl, hcb, hCb⟩ := Kd.R_reads hr
  have Lb := Aside0.mk hcb
  have hbb := Aside0.mk (show Below x1.heap.size x1 x2 from below_step (by repeat (first | exact Below.refl _ _ | apply below_alloc | apply pw_below_drewN | apply below_drew1 | (refine below_set ?_ (by simp)))) hb)
  have n0_ := Aside0.mk (below_step HB.out hbb.out)
  have n1_ := Aside0.mk (Kd.C_below HK.out hbb.out)
  have n2_ := Aside0.mk (Kd.C_below HR.out hbb.out)
  have n3_ := Aside0.mk (Kd.C_below HCa.out hbb.out)
  have n4_ := Aside0.mk (blk_below BK.out hbb.out)
  have m0_ := Aside0.mk (hCb)
  clear HB HK HR HCa BK hbb hr hb hCb hcb
  have HB := n0_
  have HK := n1_
  have HR := n2_
  have HCa := n3_
  have BK := n4_
  have HCb := m0_
  clear n0_ n1_ n2_ n3_ n4_ m0_
  have hz_BK_0 := (blk_cell BK.out 0).trans (by rfl)
  have hz_BK_1 := (blk_cell BK.out 1).trans (by rfl)
  have hz_BK_2 := (blk_cell BK.out 2).trans (by rfl)
  have hz_BK_3 := (blk_cell BK.out 3).trans (by rfl)
  go_wp2_with fail
  refine (token_Body.calls k t1 t2 t3 t4 b eb _ GB.out).mono ?_
  rintro e x3 ⟨v, rfl, hr, hb⟩
  clear hz_BK_0 hz_BK_1 hz_BK_2 hz_BK_3
  obtain ⟨Ac, cc, rfl, hcc, hCc⟩ := Kd.R_reads hr
  have Lc := Aside0.mk hcc
  have hbb := Aside0.mk (show Below x2.heap.size x2 x3 from below_step (by repeat (first | exact Below.refl _ _ | apply below_alloc | apply pw_below_drewN | apply below_drew1 | (refine below_set ?_ (by simp)))) hb)
  have n0_ := Aside0.mk (below_step HB.out hbb.out)
  have n1_ := Aside0.mk (Kd.C_below HK.out hbb.out)
  have n2_ := Aside0.mk (Kd.C_below HR.out hbb.out)
  have n3_ := Aside0.mk (Kd.C_below HCa.out hbb.out)
  have n4_ := Aside0.mk (blk_below BK.out hbb.out)
  have n5_ := Aside0.mk (Kd.C_below HCb.out hbb.out)
  have m0_ := Aside0.mk (hCc)
  clear HB HK HR HCa BK HCb hbb hr hb hCc hcc
  have HB := n0_
  have HK := n1_
  have HR := n2_
  have HCa := n3_
  have BK := n4_
  have HCb := n5_
  have HCc := m0_
  clear n0_ n1_ n2_ n3_ n4_ n5_ m0_
  have hz_BK_0 := (blk_cell BK.out 0).trans (by rfl)
  have hz_BK_1 := (blk_cell BK.out 1).trans (by rfl)
  have hz_BK_2 := (blk_cell BK.out 2).trans (by rfl)
  have hz_BK_3 := (blk_cell BK.out 3).trans (by rfl)
  go_wp2_with fail
  refine (fairleadref25_Body.calls k t1 t2 t3 t4 b eb _ GB'.out).mono ?_
  rintro e x4 ⟨v, rfl, hr, hb⟩
  clear hz_BK_0 hz_BK_1 hz_BK_2 hz_BK_3
  obtain ⟨Ad, cd, rfl, hcd, hCd⟩ := Kd.R_reads hr
  have Ld := Aside0.mk hcd
  have hbb := Aside0.mk (show Below x3.heap.size x3 x4 from below_step (by repeat (first | exact Below.refl _ _ | apply below_alloc | apply pw_below_drewN | apply below_drew1 | (refine below_set ?_ (by simp)))) hb)
  have n0_ := Aside0.mk (below_step HB.out hbb.out)
  have n1_ := Aside0.mk (Kd.C_below HK.out hbb.out)
  have n2_ := Aside0.mk (Kd.C_below HR.out hbb.out)
  have n3_ := Aside0.mk (Kd.C_below HCa.out hbb.out)
  have n4_ := Aside0.mk (blk_below BK.out hbb.out)
  have n5_ := Aside0.mk (Kd.C_below HCb.out hbb.out)
  have n6_ := Aside0.mk (Kd.C_below HCc.out hbb.out)
  have m0_ := Aside0.mk (hCd)
  clear HB HK HR HCa BK HCb HCc hbb hr hb hCd hcd
  have HB := n0_
  have HK := n1_
  have HR := n2_
  have HCa := n3_
  have BK := n4_
  have HCb := n5_
  have HCc := n6_
  have HCd := m0_
  clear n0_ n1_ n2_ n3_ n4_ n5_ n6_ m0_
  have hz_BK_0 := (blk_cell BK.out 0).trans (by rfl)
  have hz_BK_1 := (blk_cell BK.out 1).trans (by rfl)
  have hz_BK_2 := (blk_cell BK.out 2).trans (by rfl)
  have hz_BK_3 := (blk_cell BK.out 3).trans (by rfl)
  go_wp2_with fail
  refine (token_Read.calls k _ _ l2 v1 v2 v3 v4 y er _ (Kd.C_below HR.out (by repeat (first | exact Below.refl _ _ | apply below_alloc | apply pw_below_drewN | apply below_drew1 | (refine below_set ?_ (by simp))))) C2.out GD.out).mono ?_
  rintro e x5 ⟨v, rfl, hr, hb⟩
  clear hz_BK_0 hz_BK_1 hz_BK_2 hz_BK_3
  obtain ⟨Ae, ce, rfl, hce, hCe⟩ := Kd.R_reads hr
  have Le := Aside0.mk hce
  have hbb := Aside0.mk (show Below x4.heap.size x4 x5 from below_step (by repeat (first | exact Below.refl _ _ | apply below_alloc | apply pw_below_drewN | apply below_drew1 | (refine below_set ?_ (by simp)))) hb)
  have n0_ := Aside0.mk (below_step HB.out hbb.out)
  have n1_ := Aside0.mk (Kd.C_below HK.out hbb.out)
  have n2_ := Aside0.mk (Kd.C_below HR.out hbb.out)
  have n3_ := Aside0.mk (Kd.C_below HCa.out hbb.out)
  have n4_ := Aside0.mk (blk_below BK.out hbb.out)
  have n5_ := Aside0.mk (Kd.C_below HCb.out hbb.out)
  have n6_ := Aside0.mk (Kd.C_below HCc.out hbb.out)
  have n7_ := Aside0.mk (Kd.C_below HCd.out hbb.out)
  have m0_ := Aside0.mk (hCe)
  clear HB HK HR HCa BK HCb HCc HCd hbb hr hb hCe hce
  have HB := n0_
  have HK := n1_
  have HR := n2_
  have HCa := n3_
  have BK := n4_
  have HCb := n5_
  have HCc := n6_
  have HCd := n7_
  have HCe := m0_
  clear n0_ n1_ n2_ n3_ n4_ n5_ n6_ n7_ m0_
  go_wp2_with fail
  have hX := heap_alloc_new x5 (.cells #[.int .i64 v1, .int .i64 v2, .int .i64 v3, .int .i64 v4] 24)
  refine (fairleadref25_Read.calls k _ _ l2 v1 v2 v3 v4 y er _ (Kd.C_below HR.out (by repeat (first | exact Below.refl _ _ | apply below_alloc | apply pw_below_drewN | apply below_drew1 | (refine below_set ?_ (by simp))))) C2.out GD'.out).mono ?_
  rintro e x6 ⟨v, rfl, hr, hb⟩
  obtain ⟨Af, cf, rfl, hcf, hCf⟩ := Kd.R_reads hr
  have Lf := Aside0.mk hcf
  have hbb := Aside0.mk (show Below x5.heap.size x5 x6 from below_step (by repeat (first | exact Below.refl _ _ | apply below_alloc | apply pw_below_drewN | apply below_drew1 | (refine below_set ?_ (by simp)))) hb)
  have n0_ := Aside0.mk (below_step HB.out hbb.out)
  have n1_ := Aside0.mk (Kd.C_below HK.out hbb.out)
  have n2_ := Aside0.mk (Kd.C_below HR.out hbb.out)
  have n3_ := Aside0.mk (Kd.C_below HCa.out hbb.out)
  have n4_ := Aside0.mk (blk_below BK.out hbb.out)
  have n5_ := Aside0.mk (Kd.C_below HCb.out hbb.out)
  have n6_ := Aside0.mk (Kd.C_below HCc.out hbb.out)
  have n7_ := Aside0.mk (Kd.C_below HCd.out hbb.out)
  have n8_ := Aside0.mk (Kd.C_below HCe.out hbb.out)
  have m0_ := Aside0.mk (hCf)
  have m1_ := Aside0.mk (blk_below hX hb)
  clear HB HK HR HCa BK HCb HCc HCd HCe hbb hr hb hCf hcf hX
  have HB := n0_
  have HK := n1_
  have HR := n2_
  have HCa := n3_
  have BK := n4_
  have HCb := n5_
  have HCc := n6_
  have HCd := n7_
  have HCe := n8_
  have HCf := m0_
  have B1 := m1_
  clear n0_ n1_ n2_ n3_ n4_ n5_ n6_ n7_ n8_ m0_ m1_
  go_wp2_with fail
  have hX := heap_alloc_new x6 (.cells #[.int .i64 v1, .int .i64 v2, .int .i64 v3, .int .i64 v4] 24)
  refine (fairleadref01_Same.calls _ _ m _ _ m true _ (Kd.C_below HCa.out (by repeat (first | exact Below.refl _ _ | apply below_alloc | apply pw_below_drewN | apply below_drew1 | (refine below_set ?_ (by simp))))) La.out (Kd.C_below HCb.out (by repeat (first | exact Below.refl _ _ | apply below_alloc | apply pw_below_drewN | apply below_drew1 | (refine below_set ?_ (by simp))))) Lb.out (SS.out m)).mono ?_
  rintro e x7 ⟨rfl, hd⟩
  have hbb := Aside0.mk (show Below x6.heap.size x6 x7 from below_step (by repeat (first | exact Below.refl _ _ | apply below_alloc | apply pw_below_drewN | apply below_drew1 | (refine below_set ?_ (by simp)))) hd.below)
  have n0_ := Aside0.mk (below_step HB.out hbb.out)
  have n1_ := Aside0.mk (Kd.C_below HK.out hbb.out)
  have n2_ := Aside0.mk (Kd.C_below HR.out hbb.out)
  have n3_ := Aside0.mk (Kd.C_below HCa.out hbb.out)
  have n4_ := Aside0.mk (blk_below BK.out hbb.out)
  have n5_ := Aside0.mk (Kd.C_below HCb.out hbb.out)
  have n6_ := Aside0.mk (Kd.C_below HCc.out hbb.out)
  have n7_ := Aside0.mk (Kd.C_below HCd.out hbb.out)
  have n8_ := Aside0.mk (Kd.C_below HCe.out hbb.out)
  have n9_ := Aside0.mk (Kd.C_below HCf.out hbb.out)
  have n10_ := Aside0.mk (blk_below B1.out hbb.out)
  have m0_ := Aside0.mk (blk_below hX hd.below)
  clear HB HK HR HCa BK HCb HCc HCd HCe HCf B1 hbb hd hX
  have HB := n0_
  have HK := n1_
  have HR := n2_
  have HCa := n3_
  have BK := n4_
  have HCb := n5_
  have HCc := n6_
  have HCd := n7_
  have HCe := n8_
  have HCf := n9_
  have B1 := n10_
  have B2 := m0_
  clear n0_ n1_ n2_ n3_ n4_ n5_ n6_ n7_ n8_ n9_ n10_ m0_
  go_wp2_with fail
  refine (fairleadref01_Same.calls _ _ b _ _ b true _ (Kd.C_below HCc.out (by repeat (first | exact Below.refl _ _ | apply below_alloc | apply pw_below_drewN | apply below_drew1 | (refine below_set ?_ (by simp))))) Lc.out (Kd.C_below HCd.out (by repeat (first | exact Below.refl _ _ | apply below_alloc | apply pw_below_drewN | apply below_drew1 | (refine below_set ?_ (by simp))))) Ld.out (SS.out b)).mono ?_
  rintro e x8 ⟨rfl, hd⟩
  have hbb := Aside0.mk (show Below x7.heap.size x7 x8 from below_step (by repeat (first | exact Below.refl _ _ | apply below_alloc | apply pw_below_drewN | apply below_drew1 | (refine below_set ?_ (by simp)))) hd.below)
  have n0_ := Aside0.mk (below_step HB.out hbb.out)
  have n1_ := Aside0.mk (Kd.C_below HK.out hbb.out)
  have n2_ := Aside0.mk (Kd.C_below HR.out hbb.out)
  have n3_ := Aside0.mk (Kd.C_below HCa.out hbb.out)
  have n4_ := Aside0.mk (blk_below BK.out hbb.out)
  have n5_ := Aside0.mk (Kd.C_below HCb.out hbb.out)
  have n6_ := Aside0.mk (Kd.C_below HCc.out hbb.out)
  have n7_ := Aside0.mk (Kd.C_below HCd.out hbb.out)
  have n8_ := Aside0.mk (Kd.C_below HCe.out hbb.out)
  have n9_ := Aside0.mk (Kd.C_below HCf.out hbb.out)
  have n10_ := Aside0.mk (blk_below B1.out hbb.out)
  have n11_ := Aside0.mk (blk_below B2.out hbb.out)
  clear HB HK HR HCa BK HCb HCc HCd HCe HCf B1 B2 hbb hd
  have HB := n0_
  have HK := n1_
  have HR := n2_
  have HCa := n3_
  have BK := n4_
  have HCb := n5_
  have HCc := n6_
  have HCd := n7_
  have HCe := n8_
  have HCf := n9_
  have B1 := n10_
  have B2 := n11_
  clear n0_ n1_ n2_ n3_ n4_ n5_ n6_ n7_ n8_ n9_ n10_ n11_
  have hz_B1_0 := (blk_cell B1.out 0).trans (by rfl)
  have hz_B1_1 := (blk_cell B1.out 1).trans (by rfl)
  have hz_B1_2 := (blk_cell B1.out 2).trans (by rfl)
  have hz_B1_3 := (blk_cell B1.out 3).trans (by rfl)
  have hz_B2_0 := (blk_cell B2.out 0).trans (by rfl)
  have hz_B2_1 := (blk_cell B2.out 1).trans (by rfl)
  have hz_B2_2 := (blk_cell B2.out 2).trans (by rfl)
  have hz_B2_3 := (blk_cell B2.out 3).trans (by rfl)
  go_wp2_with fail
  refine (fairleadref01_Same.calls _ _ y _ _ y true _ (Kd.C_below HCe.out (by repeat (first | exact Below.refl _ _ | apply below_alloc | apply pw_below_drewN | apply below_drew1 | (refine below_set ?_ (by simp))))) Le.out (Kd.C_below HCf.out (by repeat (first | exact Below.refl _ _ | apply below_alloc | apply pw_below_drewN | apply below_drew1 | (refine below_set ?_ (by simp))))) Lf.out (SS.out y)).mono ?_
  rintro e x9 ⟨rfl, hd⟩
  clear hz_B1_0 hz_B1_1 hz_B1_2 hz_B1_3 hz_B2_0 hz_B2_1 hz_B2_2 hz_B2_3
  have hbb := Aside0.mk (show Below x8.heap.size x8 x9 from below_step (by repeat (first | exact Below.refl _ _ | apply below_alloc | apply pw_below_drewN | apply below_drew1 | (refine below_set ?_ (by simp)))) hd.below)
  have n0_ := Aside0.mk (below_step HB.out hbb.out)
  have n1_ := Aside0.mk (Kd.C_below HK.out hbb.out)
  have n2_ := Aside0.mk (Kd.C_below HR.out hbb.out)
  have n3_ := Aside0.mk (Kd.C_below HCa.out hbb.out)
  have n4_ := Aside0.mk (blk_below BK.out hbb.out)
  have n5_ := Aside0.mk (Kd.C_below HCb.out hbb.out)
  have n6_ := Aside0.mk (Kd.C_below HCc.out hbb.out)
  have n7_ := Aside0.mk (Kd.C_below HCd.out hbb.out)
  have n8_ := Aside0.mk (Kd.C_below HCe.out hbb.out)
  have n9_ := Aside0.mk (Kd.C_below HCf.out hbb.out)
  have n10_ := Aside0.mk (blk_below B1.out hbb.out)
  have n11_ := Aside0.mk (blk_below B2.out hbb.out)
  clear HB HK HR HCa BK HCb HCc HCd HCe HCf B1 B2 hbb hd
  have HB := n0_
  have HK := n1_
  have HR := n2_
  have HCa := n3_
  have BK := n4_
  have HCb := n5_
  have HCc := n6_
  have HCd := n7_
  have HCe := n8_
  have HCf := n9_
  have B1 := n10_
  have B2 := n11_
  clear n0_ n1_ n2_ n3_ n4_ n5_ n6_ n7_ n8_ n9_ n10_ n11_
  go_wp2_with fail
  refine (fairleadlaw25_heads.calls true _ rfl).mono ?_
  rintro e x10 ⟨rfl, hb⟩
  have hbb := Aside0.mk (show Below x9.heap.size x9 x10 from below_step (by repeat (first | exact Below.refl _ _ | apply below_alloc | apply pw_below_drewN | apply below_drew1 | (refine below_set ?_ (by simp)))) hb)
  have n0_ := Aside0.mk (below_step HB.out hbb.out)
  have n1_ := Aside0.mk (Kd.C_below HK.out hbb.out)
  have n2_ := Aside0.mk (Kd.C_below HR.out hbb.out)
  have n3_ := Aside0.mk (Kd.C_below HCa.out hbb.out)
  have n4_ := Aside0.mk (blk_below BK.out hbb.out)
  have n5_ := Aside0.mk (Kd.C_below HCb.out hbb.out)
  have n6_ := Aside0.mk (Kd.C_below HCc.out hbb.out)
  have n7_ := Aside0.mk (Kd.C_below HCd.out hbb.out)
  have n8_ := Aside0.mk (Kd.C_below HCe.out hbb.out)
  have n9_ := Aside0.mk (Kd.C_below HCf.out hbb.out)
  have n10_ := Aside0.mk (blk_below B1.out hbb.out)
  have n11_ := Aside0.mk (blk_below B2.out hbb.out)
  clear HB HK HR HCa BK HCb HCc HCd HCe HCf B1 B2 hbb hb
  have HB := n0_
  have HK := n1_
  have HR := n2_
  have HCa := n3_
  have BK := n4_
  have HCb := n5_
  have HCc := n6_
  have HCd := n7_
  have HCe := n8_
  have HCf := n9_
  have B1 := n10_
  have B2 := n11_
  clear n0_ n1_ n2_ n3_ n4_ n5_ n6_ n7_ n8_ n9_ n10_ n11_
  go_wp2_with fail
  go_ret
  exact ⟨rfl, HB.out⟩
end Go.Proofs.Ytgkaklpgccjmpaa.Wk
