/- Lemmas for RB; a slim copy of this session's texts (slim.py). -/
import Derived.Test.YtejheopcipgmaaaZRBQ10
import Derived.Test.YtejheopcipgmaaaZRBQ11
import Derived.Test.YtejheopcipgmaaaZRBQ12
import Derived.Test.YtejheopcipgmaaaZRBQ4
import Derived.Test.YtejheopcipgmaaaZRBQ8
namespace Go.Proofs.Ytejheopcipgmaaa.Wk
open Go.RowKit Go.Proofs.Ytejheopcipgmaaa.Q Go.Proofs.YtejheopcipgmaaaW.PrintWords Go.Proofs.YtejheopcipgmaaaW.PrintLast Go.Proofs.YtejheopcipgmaaaW.PrintMore
set_option linter.unusedVariables false
set_option linter.unusedSimpArgs false
theorem q_row1 {α : Type} {d : Kd α} {W : World} {g : Nat} {t : TypeId} {x : α} {cs : List Value} (h : W.heap[g]? = some (.cells cs.toArray t (0, 0))) (hK : d.K W x cs) : d.C W (some ⟨g, 0, none⟩) 1 [x] := by
  refine ⟨rfl, by decide, fun _ => ⟨_, rfl, fun j p hj => ?_⟩⟩
  have hj0 : j = 0 := by
    have := (List.getElem?_eq_some_iff.1 hj).1
    simp at this
    exact this
  subst hj0
  obtain rfl : x = p := by simpa using hj
  refine ⟨cs, d.K_len hK, hK, fun i u hu => ?_⟩
  rw [Nat.zero_mul, Nat.zero_add, q_add, blk_cell h i]
  simpa using hu
set_option maxHeartbeats 4000000 in
set_option maxRecDepth 100000 in
theorem reads_long (k : Nat) (a0 : Int) (A1 : Option Addr) (c1 : Nat) (l1 : List Int) (w : World) (hs : decide (20000 < (l1.length : Int)) = true) (hH : fairleadlaw14_heads.f k = some true) :
    Calls Try.prog 10 #[.int .u64 a0, .slice A1 l1.length c1] w fun e w' => e = .returned (.bool true) ∧ Below w.heap.size w w' := by
  have GH := Aside0.mk hH
  clear hH
  go_enter Try.func10, Try.ntmps10
  go_wp2_with fail
  refine (fairleadlaw14_heads.calls k true _ GH.out).mono ?_
  rintro e x ⟨rfl, hb⟩
  go_wp2_with fail
  go_ret
  exact ⟨rfl, hb⟩
set_option maxHeartbeats 4000000 in
set_option maxRecDepth 100000 in
theorem RecordReads (k : Nat) (a0 : Int) (A1 : Option Addr) (c1 : Nat) (l1 : List Int) (w : World) (hr1 : Kd.C (Kd.int .u8) w A1 l1.length l1) (hc1 : l1.length ≤ c1) (hs : decide (20000 < (l1.length : Int)) = false) (r1 : Int) (r2 : List Int) (r3 r4 : Int) (q : List S25) (qn : Int) (hN : record_Next.f k a0 l1 = some (r1, r2, r3, r4)) (hN' : fairleadref14_Next.f k a0 l1 = some (r1, r2, r3, r4)) (hS : record_Scan.f k a0 l1 = some (q, qn)) (hS' : fairleadref14_Scan.f k a0 l1 = some (q, qn)) (hQ : fairleadref14_Same.f k [⟨r1, r2⟩] [⟨r1, r2⟩] = some true) (hQ' : fairleadref14_Same.f k q q = some true) (hH : fairleadlaw14_heads.f k = some true) :
    Calls Try.prog 10 #[.int .u64 a0, .slice A1 l1.length c1] w fun e w' => e = .returned (.bool true) ∧ Below w.heap.size w w' := by
  have hu25 := Try.underlying25
  have HR := Aside0.mk hr1
  have C1 := Aside0.mk hc1
  have GN := Aside0.mk hN
  have GN' := Aside0.mk hN'
  have GS := Aside0.mk hS
  have GS' := Aside0.mk hS'
  have GQ := Aside0.mk hQ
  have GQ' := Aside0.mk hQ'
  have GH := Aside0.mk hH
  have HB := Aside0.mk (Below.refl w.heap.size w)
  clear hr1 hc1 hN hN' hS hS' hQ hQ' hH
  go_enter Try.func10, Try.ntmps10
  go_wp2_with fail
  refine (record_Next.calls k a0 _ _ l1 r1 r2 r3 r4 _ (Kd.C_below HR.out (by repeat (first | exact Below.refl _ _ | apply below_alloc | apply pw_below_drewN | apply below_drew1 | (refine below_set ?_ (by simp))))) C1.out GN.out).mono ?_
  rintro e x1 ⟨v, rfl, hr, hb⟩
  obtain ⟨Aa, ca, rfl, hca, hCa⟩ := Kd.R_reads hr
  have La := Aside0.mk hca
  have hbb := Aside0.mk (show Below w.heap.size w x1 from below_step (by repeat (first | exact Below.refl _ _ | apply below_alloc | apply pw_below_drewN | apply below_drew1 | (refine below_set ?_ (by simp)))) hb)
  have n0_ := Aside0.mk (below_step HB.out hbb.out)
  have n1_ := Aside0.mk (Kd.C_below HR.out hbb.out)
  have m0_ := Aside0.mk (hCa)
  clear HB HR hbb hr hb hCa hca
  have HB := n0_
  have HR := n1_
  have HCa := m0_
  clear n0_ n1_ m0_
  go_wp2_with fail
  have hX := heap_alloc_new x1 (.cells #[.int .i64 r1, .slice Aa r2.length ca] 25)
  refine (fairleadref14_Next.calls k a0 _ _ l1 r1 r2 r3 r4 _ (Kd.C_below HR.out (by repeat (first | exact Below.refl _ _ | apply below_alloc | apply pw_below_drewN | apply below_drew1 | (refine below_set ?_ (by simp))))) C1.out GN'.out).mono ?_
  rintro e x2 ⟨v, rfl, hr, hb⟩
  obtain ⟨Ab, cb, rfl, hcb, hCb⟩ := Kd.R_reads hr
  have Lb := Aside0.mk hcb
  have hbb := Aside0.mk (show Below x1.heap.size x1 x2 from below_step (by repeat (first | exact Below.refl _ _ | apply below_alloc | apply pw_below_drewN | apply below_drew1 | (refine below_set ?_ (by simp)))) hb)
  have n0_ := Aside0.mk (below_step HB.out hbb.out)
  have n1_ := Aside0.mk (Kd.C_below HR.out hbb.out)
  have n2_ := Aside0.mk (Kd.C_below HCa.out hbb.out)
  have m0_ := Aside0.mk (hCb)
  have m1_ := Aside0.mk (blk_below hX hb)
  clear HB HR HCa hbb hr hb hCb hcb hX
  have HB := n0_
  have HR := n1_
  have HCa := n2_
  have HCb := m0_
  have KA := m1_
  clear n0_ n1_ n2_ m0_ m1_
  go_wp2_with fail
  have hX := heap_alloc_new x2 (.cells #[.int .i64 r1, .slice Ab r2.length cb] 25)
  refine (record_Scan.calls k a0 _ _ l1 q qn _ (Kd.C_below HR.out (by repeat (first | exact Below.refl _ _ | apply below_alloc | apply pw_below_drewN | apply below_drew1 | (refine below_set ?_ (by simp))))) C1.out GS.out).mono ?_
  rintro e x3 ⟨v, rfl, hr, hb⟩
  obtain ⟨Ad, cd, rfl, hcd, hCd⟩ := Kd.S_reads hr
  have Ld := Aside0.mk hcd
  have hbb := Aside0.mk (show Below x2.heap.size x2 x3 from below_step (by repeat (first | exact Below.refl _ _ | apply below_alloc | apply pw_below_drewN | apply below_drew1 | (refine below_set ?_ (by simp)))) hb)
  have n0_ := Aside0.mk (below_step HB.out hbb.out)
  have n1_ := Aside0.mk (Kd.C_below HR.out hbb.out)
  have n2_ := Aside0.mk (Kd.C_below HCa.out hbb.out)
  have n3_ := Aside0.mk (Kd.C_below HCb.out hbb.out)
  have n4_ := Aside0.mk (blk_below KA.out hbb.out)
  have m0_ := Aside0.mk (hCd)
  have m1_ := Aside0.mk (blk_below hX hb)
  clear HB HR HCa HCb KA hbb hr hb hCd hcd hX
  have HB := n0_
  have HR := n1_
  have HCa := n2_
  have HCb := n3_
  have KA := n4_
  have HCd := m0_
  have KB := m1_
  clear n0_ n1_ n2_ n3_ n4_ m0_ m1_
  go_wp2_with fail
  refine (fairleadref14_Scan.calls k a0 _ _ l1 q qn _ (Kd.C_below HR.out (by repeat (first | exact Below.refl _ _ | apply below_alloc | apply pw_below_drewN | apply below_drew1 | (refine below_set ?_ (by simp))))) C1.out GS'.out).mono ?_
  rintro e x4 ⟨v, rfl, hr, hb⟩
  obtain ⟨Ae, ce, rfl, hce, hCe⟩ := Kd.S_reads hr
  have Le := Aside0.mk hce
  have hbb := Aside0.mk (show Below x3.heap.size x3 x4 from below_step (by repeat (first | exact Below.refl _ _ | apply below_alloc | apply pw_below_drewN | apply below_drew1 | (refine below_set ?_ (by simp)))) hb)
  have n0_ := Aside0.mk (below_step HB.out hbb.out)
  have n1_ := Aside0.mk (Kd.C_below HR.out hbb.out)
  have n2_ := Aside0.mk (Kd.C_below HCa.out hbb.out)
  have n3_ := Aside0.mk (Kd.C_below HCb.out hbb.out)
  have n4_ := Aside0.mk (blk_below KA.out hbb.out)
  have n5_ := Aside0.mk (Kd.C_below HCd.out hbb.out)
  have n6_ := Aside0.mk (blk_below KB.out hbb.out)
  have m0_ := Aside0.mk (hCe)
  clear HB HR HCa HCb KA HCd KB hbb hr hb hCe hce
  have HB := n0_
  have HR := n1_
  have HCa := n2_
  have HCb := n3_
  have KA := n4_
  have HCd := n5_
  have KB := n6_
  have HCe := m0_
  clear n0_ n1_ n2_ n3_ n4_ n5_ n6_ m0_
  have hz_KA_0 : x4.cell? ⟨x1.heap.size, 0, none⟩ = some (.int .i64 r1) := (blk_cell KA.out 0).trans rfl
  have hz_KA_1 : x4.cell? ⟨x1.heap.size, 1, none⟩ = some (.slice Aa r2.length ca) := (blk_cell KA.out 1).trans rfl
  have hz_KB_0 : x4.cell? ⟨x2.heap.size, 0, none⟩ = some (.int .i64 r1) := (blk_cell KB.out 0).trans rfl
  have hza_KB_0 : ∀ o_ : Obj, (x4.alloc o_).cell? ⟨x2.heap.size, 0, none⟩ = some (.int .i64 r1) := fun o_ => (blk_cell (blk_alloc KB.out o_) 0).trans rfl
  have hz_KB_1 : x4.cell? ⟨x2.heap.size, 1, none⟩ = some (.slice Ab r2.length cb) := (blk_cell KB.out 1).trans rfl
  have hza_KB_1 : ∀ o_ : Obj, (x4.alloc o_).cell? ⟨x2.heap.size, 1, none⟩ = some (.slice Ab r2.length cb) := fun o_ => (blk_cell (blk_alloc KB.out o_) 1).trans rfl
  go_wp2_with fail
  have HYa := Aside0.mk (blk_alloc (heap_alloc_new x4 (.cells #[.int .i64 r1, .slice Aa r2.length ca] 25)) (.cells #[.int .i64 r1, .slice Ab r2.length cb] 25))
  have HYb := Aside0.mk (show ((x4.alloc (.cells #[.int .i64 r1, .slice Aa r2.length ca] 25)).alloc (.cells #[.int .i64 r1, .slice Ab r2.length cb] 25)).heap[x4.heap.size + 1]? = some (.cells #[.int .i64 r1, .slice Ab r2.length cb] 25) from by simpa using heap_alloc_new (x4.alloc (.cells #[.int .i64 r1, .slice Aa r2.length ca] 25)) (.cells #[.int .i64 r1, .slice Ab r2.length cb] 25))
  refine (fairleadref14_Same.calls k _ 1 [⟨r1, r2⟩] _ 1 [⟨r1, r2⟩] true _ (q_row1 (x := (⟨r1, r2⟩ : S25)) (cs := [.int .i64 r1, .slice Aa r2.length ca]) HYa.out (k25_mk _ (⟨r1, r2⟩ : S25) La.out (Kd.C_below HCa.out (by repeat (first | exact Below.refl _ _ | apply below_alloc | apply pw_below_drewN | apply below_drew1 | (refine below_set ?_ (by simp))))))) (Nat.le_refl _) (q_row1 (x := (⟨r1, r2⟩ : S25)) (cs := [.int .i64 r1, .slice Ab r2.length cb]) HYb.out (k25_mk _ (⟨r1, r2⟩ : S25) Lb.out (Kd.C_below HCb.out (by repeat (first | exact Below.refl _ _ | apply below_alloc | apply pw_below_drewN | apply below_drew1 | (refine below_set ?_ (by simp))))))) (Nat.le_refl _) GQ.out).mono ?_
  rintro e x5 ⟨rfl, hb⟩
  clear hz_KA_0 hz_KA_1 hz_KB_0 hza_KB_0 hz_KB_1 hza_KB_1
  have hbb := Aside0.mk (show Below x4.heap.size x4 x5 from below_step (by repeat (first | exact Below.refl _ _ | apply below_alloc | apply pw_below_drewN | apply below_drew1 | (refine below_set ?_ (by simp)))) hb)
  have n0_ := Aside0.mk (below_step HB.out hbb.out)
  have n1_ := Aside0.mk (Kd.C_below HR.out hbb.out)
  have n2_ := Aside0.mk (Kd.C_below HCa.out hbb.out)
  have n3_ := Aside0.mk (Kd.C_below HCb.out hbb.out)
  have n4_ := Aside0.mk (blk_below KA.out hbb.out)
  have n5_ := Aside0.mk (Kd.C_below HCd.out hbb.out)
  have n6_ := Aside0.mk (blk_below KB.out hbb.out)
  have n7_ := Aside0.mk (Kd.C_below HCe.out hbb.out)
  clear HB HR HCa HCb KA HCd KB HCe hbb hb HYa HYb
  have HB := n0_
  have HR := n1_
  have HCa := n2_
  have HCb := n3_
  have KA := n4_
  have HCd := n5_
  have KB := n6_
  have HCe := n7_
  clear n0_ n1_ n2_ n3_ n4_ n5_ n6_ n7_
  go_wp2_with fail
  refine (fairleadref14_Same.calls k _ _ q _ _ q true _ (Kd.C_below HCd.out (by repeat (first | exact Below.refl _ _ | apply below_alloc | apply pw_below_drewN | apply below_drew1 | (refine below_set ?_ (by simp))))) Ld.out (Kd.C_below HCe.out (by repeat (first | exact Below.refl _ _ | apply below_alloc | apply pw_below_drewN | apply below_drew1 | (refine below_set ?_ (by simp))))) Le.out GQ'.out).mono ?_
  rintro e x6 ⟨rfl, hb⟩
  have hbb := Aside0.mk (show Below x5.heap.size x5 x6 from below_step (by repeat (first | exact Below.refl _ _ | apply below_alloc | apply pw_below_drewN | apply below_drew1 | (refine below_set ?_ (by simp)))) hb)
  have n0_ := Aside0.mk (below_step HB.out hbb.out)
  have n1_ := Aside0.mk (Kd.C_below HR.out hbb.out)
  have n2_ := Aside0.mk (Kd.C_below HCa.out hbb.out)
  have n3_ := Aside0.mk (Kd.C_below HCb.out hbb.out)
  have n4_ := Aside0.mk (blk_below KA.out hbb.out)
  have n5_ := Aside0.mk (Kd.C_below HCd.out hbb.out)
  have n6_ := Aside0.mk (blk_below KB.out hbb.out)
  have n7_ := Aside0.mk (Kd.C_below HCe.out hbb.out)
  clear HB HR HCa HCb KA HCd KB HCe hbb hb
  have HB := n0_
  have HR := n1_
  have HCa := n2_
  have HCb := n3_
  have KA := n4_
  have HCd := n5_
  have KB := n6_
  have HCe := n7_
  clear n0_ n1_ n2_ n3_ n4_ n5_ n6_ n7_
  go_wp2_with fail
  refine (fairleadlaw14_heads.calls k true _ GH.out).mono ?_
  rintro e x7 ⟨rfl, hb⟩
  have hbb := Aside0.mk (show Below x6.heap.size x6 x7 from below_step (by repeat (first | exact Below.refl _ _ | apply below_alloc | apply pw_below_drewN | apply below_drew1 | (refine below_set ?_ (by simp)))) hb)
  have n0_ := Aside0.mk (below_step HB.out hbb.out)
  have n1_ := Aside0.mk (Kd.C_below HR.out hbb.out)
  have n2_ := Aside0.mk (Kd.C_below HCa.out hbb.out)
  have n3_ := Aside0.mk (Kd.C_below HCb.out hbb.out)
  have n4_ := Aside0.mk (blk_below KA.out hbb.out)
  have n5_ := Aside0.mk (Kd.C_below HCd.out hbb.out)
  have n6_ := Aside0.mk (blk_below KB.out hbb.out)
  have n7_ := Aside0.mk (Kd.C_below HCe.out hbb.out)
  clear HB HR HCa HCb KA HCd KB HCe hbb hb
  have HB := n0_
  have HR := n1_
  have HCa := n2_
  have HCb := n3_
  have KA := n4_
  have HCd := n5_
  have KB := n6_
  have HCe := n7_
  clear n0_ n1_ n2_ n3_ n4_ n5_ n6_ n7_
  go_wp2_with fail
  go_ret
  exact ⟨rfl, HB.out⟩
end Go.Proofs.Ytejheopcipgmaaa.Wk
