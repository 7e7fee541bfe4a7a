/- Lemmas for RT; a slim copy of this session's texts (slim.py). -/
import Derived.Test.YtejheopcipgmaaaZRTQ10
import Derived.Test.YtejheopcipgmaaaZRTQ2
import Derived.Test.YtejheopcipgmaaaZRTQ4
import Derived.Test.YtejheopcipgmaaaZRTQ8
import Derived.Test.YtejheopcipgmaaaZRTWkRecordReads
namespace Go.Proofs.Ytejheopcipgmaaa.Wk
open Go.RowKit Go.Proofs.Ytejheopcipgmaaa.Q Go.Proofs.YtejheopcipgmaaaW.PrintWords Go.Proofs.YtejheopcipgmaaaW.PrintLast Go.Proofs.YtejheopcipgmaaaW.PrintMore
set_option linter.unusedVariables false
set_option linter.unusedSimpArgs false
set_option maxHeartbeats 4000000 in
set_option maxRecDepth 100000 in
theorem turned_e (k : Nat) (a0 t : Int) (A1 : Option Addr) (c1 : Nat) (d : List Int) (bit : Int) (w : World) (hr1 : Kd.C (Kd.int .u8) w A1 d.length d) (hc1 : d.length ≤ c1) (b : List Int) (e : Int) (hF : record_Frame.f k a0 t d = some (b, e)) (hH : fairleadlaw14_heads.f k = some true) (h1 : (e != 0) = true) :
    Calls Try.prog 11 #[.int .u64 a0, .agg #[.int .i64 t, .slice A1 d.length c1], .int .i64 bit] w fun e w' => e = .returned (.bool true) ∧ Below w.heap.size w w' := by
  have hu25 := Try.underlying25
  have HR := Aside0.mk hr1
  have C1 := Aside0.mk hc1
  have GF := Aside0.mk hF
  have GH := Aside0.mk hH
  have HB := Aside0.mk (Below.refl w.heap.size w)
  clear hr1 hc1 hF hH
  go_enter Try.func11, Try.ntmps11
  have hX := heap_alloc_new w (.cells #[.int .i64 t, .slice A1 d.length c1] 25)
  go_wp2_with fail
  refine (record_Frame.calls k a0 t _ _ d b e _ (Kd.C_below HR.out (by repeat (first | exact Below.refl _ _ | apply below_alloc | apply pw_below_drewN | apply below_drew1 | (refine below_set ?_ (by simp))))) C1.out GF.out).mono ?_
  rintro e x1 ⟨v, rfl, hr, hb⟩
  obtain ⟨Ab, cb, rfl, hcb, hCb⟩ := Kd.R_reads hr
  have Lb := Aside0.mk hcb
  have hbb := Aside0.mk (show Below w.heap.size w x1 from below_step (by repeat (first | exact Below.refl _ _ | apply below_alloc | apply pw_below_drewN | apply below_drew1 | (refine below_set ?_ (by simp)))) hb)
  have n0_ := Aside0.mk (below_step HB.out hbb.out)
  have n1_ := Aside0.mk (Kd.C_below HR.out hbb.out)
  have m0_ := Aside0.mk (blk_below hX hb)
  clear HB HR hbb hr hb hX hcb hCb
  have HB := n0_
  have HR := n1_
  have KX := m0_
  clear n0_ n1_ m0_
  have hz_KX_0 : x1.cell? ⟨w.heap.size, 0, none⟩ = some (.int .i64 t) := (blk_cell KX.out 0).trans rfl
  have hz_KX_1 : x1.cell? ⟨w.heap.size, 1, none⟩ = some (.slice A1 d.length c1) := (blk_cell KX.out 1).trans rfl
  go_wp2_with fail
  refine (fairleadlaw14_heads.calls k true _ GH.out).mono ?_
  rintro e x2 ⟨rfl, hb⟩
  clear hz_KX_0 hz_KX_1
  have hbb := Aside0.mk (show Below x1.heap.size x1 x2 from below_step (by repeat (first | exact Below.refl _ _ | apply below_alloc | apply pw_below_drewN | apply below_drew1 | (refine below_set ?_ (by simp)))) hb)
  have n0_ := Aside0.mk (below_step HB.out hbb.out)
  have n1_ := Aside0.mk (Kd.C_below HR.out hbb.out)
  have n2_ := Aside0.mk (blk_below KX.out hbb.out)
  clear HB HR KX hbb hb
  have HB := n0_
  have HR := n1_
  have KX := n2_
  clear n0_ n1_ n2_
  go_wp2_with fail
  go_ret
  exact ⟨rfl, HB.out⟩
set_option maxHeartbeats 4000000 in
set_option maxRecDepth 100000 in
theorem turned_d (k : Nat) (a0 t : Int) (A1 : Option Addr) (c1 : Nat) (d : List Int) (bit : Int) (w : World) (hr1 : Kd.C (Kd.int .u8) w A1 d.length d) (hc1 : d.length ≤ c1) (b : List Int) (e : Int) (hF : record_Frame.f k a0 t d = some (b, e)) (hH : fairleadlaw14_heads.f k = some true) (h1 : (e != 0) = false) (h2 : decide (300 < (d.length : Int)) = true) :
    Calls Try.prog 11 #[.int .u64 a0, .agg #[.int .i64 t, .slice A1 d.length c1], .int .i64 bit] w fun e w' => e = .returned (.bool true) ∧ Below w.heap.size w w' := by
  have hu25 := Try.underlying25
  have HR := Aside0.mk hr1
  have C1 := Aside0.mk hc1
  have GF := Aside0.mk hF
  have GH := Aside0.mk hH
  have HB := Aside0.mk (Below.refl w.heap.size w)
  clear hr1 hc1 hF hH
  go_enter Try.func11, Try.ntmps11
  have hX := heap_alloc_new w (.cells #[.int .i64 t, .slice A1 d.length c1] 25)
  go_wp2_with fail
  refine (record_Frame.calls k a0 t _ _ d b e _ (Kd.C_below HR.out (by repeat (first | exact Below.refl _ _ | apply below_alloc | apply pw_below_drewN | apply below_drew1 | (refine below_set ?_ (by simp))))) C1.out GF.out).mono ?_
  rintro e x1 ⟨v, rfl, hr, hb⟩
  obtain ⟨Ab, cb, rfl, hcb, hCb⟩ := Kd.R_reads hr
  have Lb := Aside0.mk hcb
  have hbb := Aside0.mk (show Below w.heap.size w x1 from below_step (by repeat (first | exact Below.refl _ _ | apply below_alloc | apply pw_below_drewN | apply below_drew1 | (refine below_set ?_ (by simp)))) hb)
  have n0_ := Aside0.mk (below_step HB.out hbb.out)
  have n1_ := Aside0.mk (Kd.C_below HR.out hbb.out)
  have m0_ := Aside0.mk (blk_below hX hb)
  clear HB HR hbb hr hb hX hcb hCb
  have HB := n0_
  have HR := n1_
  have KX := m0_
  clear n0_ n1_ m0_
  have hz_KX_0 : x1.cell? ⟨w.heap.size, 0, none⟩ = some (.int .i64 t) := (blk_cell KX.out 0).trans rfl
  have hz_KX_1 : x1.cell? ⟨w.heap.size, 1, none⟩ = some (.slice A1 d.length c1) := (blk_cell KX.out 1).trans rfl
  go_wp2_with fail
  refine (fairleadlaw14_heads.calls k true _ GH.out).mono ?_
  rintro e x2 ⟨rfl, hb⟩
  clear hz_KX_0 hz_KX_1
  have hbb := Aside0.mk (show Below x1.heap.size x1 x2 from below_step (by repeat (first | exact Below.refl _ _ | apply below_alloc | apply pw_below_drewN | apply below_drew1 | (refine below_set ?_ (by simp)))) hb)
  have n0_ := Aside0.mk (below_step HB.out hbb.out)
  have n1_ := Aside0.mk (Kd.C_below HR.out hbb.out)
  have n2_ := Aside0.mk (blk_below KX.out hbb.out)
  clear HB HR KX hbb hb
  have HB := n0_
  have HR := n1_
  have KX := n2_
  clear n0_ n1_ n2_
  go_wp2_with fail
  go_ret
  exact ⟨rfl, HB.out⟩
set_option maxHeartbeats 4000000 in
set_option maxRecDepth 100000 in
theorem turned_n (k : Nat) (a0 t : Int) (A1 : Option Addr) (c1 : Nat) (d : List Int) (bit : Int) (w : World) (hr1 : Kd.C (Kd.int .u8) w A1 d.length d) (hc1 : d.length ≤ c1) (b : List Int) (e : Int) (hF : record_Frame.f k a0 t d = some (b, e)) (hH : fairleadlaw14_heads.f k = some true) (h1 : (e != 0) = false) (h2 : decide (300 < (d.length : Int)) = false) (h3 : decide (bit < 0) = true) :
    Calls Try.prog 11 #[.int .u64 a0, .agg #[.int .i64 t, .slice A1 d.length c1], .int .i64 bit] w fun e w' => e = .returned (.bool true) ∧ Below w.heap.size w w' := by
  have hu25 := Try.underlying25
  have HR := Aside0.mk hr1
  have C1 := Aside0.mk hc1
  have GF := Aside0.mk hF
  have GH := Aside0.mk hH
  have HB := Aside0.mk (Below.refl w.heap.size w)
  clear hr1 hc1 hF hH
  go_enter Try.func11, Try.ntmps11
  have hX := heap_alloc_new w (.cells #[.int .i64 t, .slice A1 d.length c1] 25)
  go_wp2_with fail
  refine (record_Frame.calls k a0 t _ _ d b e _ (Kd.C_below HR.out (by repeat (first | exact Below.refl _ _ | apply below_alloc | apply pw_below_drewN | apply below_drew1 | (refine below_set ?_ (by simp))))) C1.out GF.out).mono ?_
  rintro e x1 ⟨v, rfl, hr, hb⟩
  obtain ⟨Ab, cb, rfl, hcb, hCb⟩ := Kd.R_reads hr
  have Lb := Aside0.mk hcb
  have hbb := Aside0.mk (show Below w.heap.size w x1 from below_step (by repeat (first | exact Below.refl _ _ | apply below_alloc | apply pw_below_drewN | apply below_drew1 | (refine below_set ?_ (by simp)))) hb)
  have n0_ := Aside0.mk (below_step HB.out hbb.out)
  have n1_ := Aside0.mk (Kd.C_below HR.out hbb.out)
  have m0_ := Aside0.mk (blk_below hX hb)
  clear HB HR hbb hr hb hX hcb hCb
  have HB := n0_
  have HR := n1_
  have KX := m0_
  clear n0_ n1_ m0_
  have hz_KX_0 : x1.cell? ⟨w.heap.size, 0, none⟩ = some (.int .i64 t) := (blk_cell KX.out 0).trans rfl
  have hz_KX_1 : x1.cell? ⟨w.heap.size, 1, none⟩ = some (.slice A1 d.length c1) := (blk_cell KX.out 1).trans rfl
  go_wp2_with fail
  refine (fairleadlaw14_heads.calls k true _ GH.out).mono ?_
  rintro e x2 ⟨rfl, hb⟩
  clear hz_KX_0 hz_KX_1
  have hbb := Aside0.mk (show Below x1.heap.size x1 x2 from below_step (by repeat (first | exact Below.refl _ _ | apply below_alloc | apply pw_below_drewN | apply below_drew1 | (refine below_set ?_ (by simp)))) hb)
  have n0_ := Aside0.mk (below_step HB.out hbb.out)
  have n1_ := Aside0.mk (Kd.C_below HR.out hbb.out)
  have n2_ := Aside0.mk (blk_below KX.out hbb.out)
  clear HB HR KX hbb hb
  have HB := n0_
  have HR := n1_
  have KX := n2_
  clear n0_ n1_ n2_
  go_wp2_with fail
  go_ret
  exact ⟨rfl, HB.out⟩
set_option maxHeartbeats 4000000 in
set_option maxRecDepth 100000 in
theorem turned_g (k : Nat) (a0 t : Int) (A1 : Option Addr) (c1 : Nat) (d : List Int) (bit : Int) (w : World) (hr1 : Kd.C (Kd.int .u8) w A1 d.length d) (hc1 : d.length ≤ c1) (b : List Int) (e : Int) (hF : record_Frame.f k a0 t d = some (b, e)) (hH : fairleadlaw14_heads.f k = some true) (h1 : (e != 0) = false) (h2 : decide (300 < (d.length : Int)) = false) (h3 : decide (bit < 0) = false) (h4 : decide (8 * (b.length : Int) ≤ bit) = true) (h5 : b.length ≤ 1000) :
    Calls Try.prog 11 #[.int .u64 a0, .agg #[.int .i64 t, .slice A1 d.length c1], .int .i64 bit] w fun e w' => e = .returned (.bool true) ∧ Below w.heap.size w w' := by
  have hu25 := Try.underlying25
  have HR := Aside0.mk hr1
  have C1 := Aside0.mk hc1
  have GF := Aside0.mk hF
  have GH := Aside0.mk hH
  have HB := Aside0.mk (Below.refl w.heap.size w)
  clear hr1 hc1 hF hH
  go_enter Try.func11, Try.ntmps11
  have hX := heap_alloc_new w (.cells #[.int .i64 t, .slice A1 d.length c1] 25)
  go_wp2_with fail
  refine (record_Frame.calls k a0 t _ _ d b e _ (Kd.C_below HR.out (by repeat (first | exact Below.refl _ _ | apply below_alloc | apply pw_below_drewN | apply below_drew1 | (refine below_set ?_ (by simp))))) C1.out GF.out).mono ?_
  rintro e x1 ⟨v, rfl, hr, hb⟩
  obtain ⟨Ab, cb, rfl, hcb, hCb⟩ := Kd.R_reads hr
  have Lb := Aside0.mk hcb
  have hbb := Aside0.mk (show Below w.heap.size w x1 from below_step (by repeat (first | exact Below.refl _ _ | apply below_alloc | apply pw_below_drewN | apply below_drew1 | (refine below_set ?_ (by simp)))) hb)
  have n0_ := Aside0.mk (below_step HB.out hbb.out)
  have n1_ := Aside0.mk (Kd.C_below HR.out hbb.out)
  have m0_ := Aside0.mk (blk_below hX hb)
  clear HB HR hbb hr hb hX hcb hCb
  have HB := n0_
  have HR := n1_
  have KX := m0_
  clear n0_ n1_ m0_
  have hz_KX_0 : x1.cell? ⟨w.heap.size, 0, none⟩ = some (.int .i64 t) := (blk_cell KX.out 0).trans rfl
  have hz_KX_1 : x1.cell? ⟨w.heap.size, 1, none⟩ = some (.slice A1 d.length c1) := (blk_cell KX.out 1).trans rfl
  go_wp2_with fail
  refine (fairleadlaw14_heads.calls k true _ GH.out).mono ?_
  rintro e x2 ⟨rfl, hb⟩
  clear hz_KX_0 hz_KX_1
  have hbb := Aside0.mk (show Below x1.heap.size x1 x2 from below_step (by repeat (first | exact Below.refl _ _ | apply below_alloc | apply pw_below_drewN | apply below_drew1 | (refine below_set ?_ (by simp)))) hb)
  have n0_ := Aside0.mk (below_step HB.out hbb.out)
  have n1_ := Aside0.mk (Kd.C_below HR.out hbb.out)
  have n2_ := Aside0.mk (blk_below KX.out hbb.out)
  clear HB HR KX hbb hb
  have HB := n0_
  have HR := n1_
  have KX := n2_
  clear n0_ n1_ n2_
  go_wp2_with fail
  go_ret
  exact ⟨rfl, HB.out⟩
set_option maxHeartbeats 4000000 in
set_option maxRecDepth 100000 in
theorem turned_x (k : Nat) (a0 t : Int) (A1 : Option Addr) (c1 : Nat) (d : List Int) (bit : Int) (w : World) (hr1 : Kd.C (Kd.int .u8) w A1 d.length d) (hc1 : d.length ≤ c1) (b : List Int) (e : Int) (hF : record_Frame.f k a0 t d = some (b, e)) (hH : fairleadlaw14_heads.f k = some true) (h1 : (e != 0) = false) (h2 : decide (300 < (d.length : Int)) = false) (h3 : decide (bit < 0) = false) (h4 : decide (8 * (b.length : Int) ≤ bit) = false) (h5 : b.length ≤ 1000) (h0 : 0 ≤ bit) (h6 : bit / 8 < (b.length : Int)) (h7 : 0 < b.length) (s1 n f : Int) (s2 : List Int) (hN : record_Next.f k a0 (b.set (bit / 8).toNat (Go.bits .xor .u8 (rd b (bit / 8)) (2 ^ (bit % 8).toNat % 256))) = some (s1, s2, n, f)) (hQ : fairleadref14_Same.f k [⟨t, d⟩] [⟨s1, s2⟩] = some false) (f0 : (f != 0) = true) (f1 : (n == 0) = true) :
    Calls Try.prog 11 #[.int .u64 a0, .agg #[.int .i64 t, .slice A1 d.length c1], .int .i64 bit] w fun e w' => e = .returned (.bool true) ∧ Below w.heap.size w w' := by
  have HR0 := Aside0.mk hr1
  have hu25 := Try.underlying25
  have HR := Aside0.mk hr1
  have C1 := Aside0.mk hc1
  have GF := Aside0.mk hF
  have GH := Aside0.mk hH
  have GN := Aside0.mk hN
  have GQ := Aside0.mk hQ
  have HB := Aside0.mk (Below.refl w.heap.size w)
  clear hr1 hc1 hF hH hN hQ
  go_enter Try.func11, Try.ntmps11
  have hX := heap_alloc_new w (.cells #[.int .i64 t, .slice A1 d.length c1] 25)
  go_wp2_with fail
  refine (record_Frame.calls k a0 t _ _ d b e _ (Kd.C_below HR.out (by repeat (first | exact Below.refl _ _ | apply below_alloc | apply pw_below_drewN | apply below_drew1 | (refine below_set ?_ (by simp))))) C1.out GF.out).mono ?_
  rintro e x1 ⟨v, rfl, hr, hb⟩
  obtain ⟨_, ho⟩ := Kd.R_own hr
  obtain ⟨gb, cb, rfl, hgb, -⟩ := ho.form (by omega)
  have hbb := Aside0.mk (show Below w.heap.size w x1 from below_step (by repeat (first | exact Below.refl _ _ | apply below_alloc | apply pw_below_drewN | apply below_drew1 | (refine below_set ?_ (by simp)))) hb)
  have n0_ := Aside0.mk (below_step HB.out hbb.out)
  have n1_ := Aside0.mk (Kd.C_below HR.out hbb.out)
  have m0_ := Aside0.mk (blk_below hX hb)
  have m1_ := Aside0.mk (hr)
  clear HB HR hbb hr hb hX ho
  have HB := n0_
  have HR := n1_
  have KX := m0_
  have HO := m1_
  clear n0_ n1_ m0_ m1_
  have hz_KX_0 : x1.cell? ⟨w.heap.size, 0, none⟩ = some (.int .i64 t) := (blk_cell KX.out 0).trans rfl
  have hz_KX_1 : x1.cell? ⟨w.heap.size, 1, none⟩ = some (.slice A1 d.length c1) := (blk_cell KX.out 1).trans rfl
  have HG := Aside0.mk (show w.heap.size + 1 ≤ gb from by simpa using hgb)
  clear hgb
  have hR := Kd.R_celln (0 : Int) HO.out (bit / 8) (by omega) h6
  have hcx := hR.1
  have hfx := hR.2
  clear hR
  go_wp2_with fail
  clear hz_KX_0 hz_KX_1
  clear hcx hfx
  have HP := Kd.R_putn HO.out (bit / 8) (Go.bits .xor .u8 (rd b (bit / 8)) (2 ^ (bit % 8).toNat % 256))
  obtain ⟨W1, hW1⟩ : ∃ W1, W1 = x1.setCell ⟨gb, (bit / 8).toNat, none⟩ (.int .u8 (Go.bits .xor .u8 (rd b (bit / 8)) (2 ^ (bit % 8).toNat % 256))) := ⟨_, rfl⟩
  obtain ⟨b', hb'⟩ : ∃ b', b' = b.set (bit / 8).toNat (Go.bits .xor .u8 (rd b (bit / 8)) (2 ^ (bit % 8).toNat % 256)) := ⟨_, rfl⟩
  have hbl : b.length = b'.length := by rw [hb', List.length_set]
  have HP' : Kd.C (Kd.int .u8) W1 (some ⟨gb, 0, none⟩) b'.length b' ∧ b'.length ≤ cb := by
    rw [hW1, hb']
    exact ⟨(Kd.R_reads' HP).2.2, by rw [List.length_set]; exact (Kd.R_reads' HP).2.1⟩
  have HBn : Below w.heap.size w W1 := by rw [hW1]; exact below_set HB.out (by have := HG.out; omega)
  have KXn : W1.heap[w.heap.size]? = some (.cells #[.int .i64 t, .slice A1 d.length c1] 25 (0, 0)) := by rw [hW1]; exact (Below.heap_setCell x1 ⟨gb, (bit / 8).toNat, none⟩ _ w.heap.size (by have := HG.out; show w.heap.size ≠ gb; omega)).trans KX.out
  rw [show (rdOf 0 b (bit / 8)) = rd b (bit / 8) from rfl, ← hW1, hbl]
  have GN' := Aside0.mk (show record_Next.f k a0 b' = some (s1, s2, n, f) from by rw [hb']; exact GN.out)
  clear HB HR KX HO HP GN hb' hbl h4 h5 h6 h7
  have HB := Aside0.mk HBn
  have HR := Aside0.mk (Kd.C_below HR0.out HBn)
  have KX := Aside0.mk KXn
  have HCB := Aside0.mk HP'.1
  have LB := Aside0.mk HP'.2
  clear HBn KXn HP' HR0 hW1 x1
  refine (record_Next.calls k a0 _ _ b' s1 s2 n f _ (Kd.C_below HCB.out (by repeat (first | exact Below.refl _ _ | apply below_alloc | apply pw_below_drewN | apply below_drew1 | (refine below_set ?_ (by simp))))) LB.out GN'.out).mono ?_
  rintro e x2 ⟨v, rfl, hr, hb⟩
  obtain ⟨As, cs, rfl, hcs, hCs⟩ := Kd.R_reads hr
  have Ls := Aside0.mk hcs
  have hbb := Aside0.mk (show Below W1.heap.size W1 x2 from below_step (by repeat (first | exact Below.refl _ _ | apply below_alloc | apply pw_below_drewN | apply below_drew1 | (refine below_set ?_ (by simp)))) hb)
  have n0_ := Aside0.mk (below_step HB.out hbb.out)
  have n1_ := Aside0.mk (Kd.C_below HR.out hbb.out)
  have n2_ := Aside0.mk (blk_below KX.out hbb.out)
  have n3_ := Aside0.mk (Kd.C_below HCB.out hbb.out)
  have m0_ := Aside0.mk (hCs)
  clear HB HR KX HCB hbb hr hb hcs hCs
  have HB := n0_
  have HR := n1_
  have KX := n2_
  have HCB := n3_
  have HCs := m0_
  clear n0_ n1_ n2_ n3_ m0_
  have hz_KX_0 : x2.cell? ⟨w.heap.size, 0, none⟩ = some (.int .i64 t) := (blk_cell KX.out 0).trans rfl
  have hza_KX_0 : ∀ o_ : Obj, (x2.alloc o_).cell? ⟨w.heap.size, 0, none⟩ = some (.int .i64 t) := fun o_ => (blk_cell (blk_alloc KX.out o_) 0).trans rfl
  have hz_KX_1 : x2.cell? ⟨w.heap.size, 1, none⟩ = some (.slice A1 d.length c1) := (blk_cell KX.out 1).trans rfl
  have hza_KX_1 : ∀ o_ : Obj, (x2.alloc o_).cell? ⟨w.heap.size, 1, none⟩ = some (.slice A1 d.length c1) := fun o_ => (blk_cell (blk_alloc KX.out o_) 1).trans rfl
  have hzs_0 : ∀ o_ : Obj, ((x2.alloc (.cells #[.int .i64 s1, .slice As s2.length cs] 25)).alloc o_).cell? ⟨x2.heap.size, 0, none⟩ = some (.int .i64 s1) := fun o_ => (blk_cell (blk_alloc (heap_alloc_new x2 (.cells #[.int .i64 s1, .slice As s2.length cs] 25)) o_) 0).trans rfl
  have hzs_1 : ∀ o_ : Obj, ((x2.alloc (.cells #[.int .i64 s1, .slice As s2.length cs] 25)).alloc o_).cell? ⟨x2.heap.size, 1, none⟩ = some (.slice As s2.length cs) := fun o_ => (blk_cell (blk_alloc (heap_alloc_new x2 (.cells #[.int .i64 s1, .slice As s2.length cs] 25)) o_) 1).trans rfl
  go_wp2_with fail
  have HYr := Aside0.mk (show (((x2.alloc (.cells #[.int .i64 s1, .slice As s2.length cs] 25)).alloc (.cells #[.int .i64 t, .slice A1 d.length c1] 25)).alloc (.cells #[.int .i64 s1, .slice As s2.length cs] 25)).heap[x2.heap.size + 1]? = some (.cells #[.int .i64 t, .slice A1 d.length c1] 25) from by simpa using blk_alloc (heap_alloc_new (x2.alloc (.cells #[.int .i64 s1, .slice As s2.length cs] 25)) (.cells #[.int .i64 t, .slice A1 d.length c1] 25)) (.cells #[.int .i64 s1, .slice As s2.length cs] 25))
  have HYs := Aside0.mk (show (((x2.alloc (.cells #[.int .i64 s1, .slice As s2.length cs] 25)).alloc (.cells #[.int .i64 t, .slice A1 d.length c1] 25)).alloc (.cells #[.int .i64 s1, .slice As s2.length cs] 25)).heap[x2.heap.size + 1 + 1]? = some (.cells #[.int .i64 s1, .slice As s2.length cs] 25) from by simpa using heap_alloc_new ((x2.alloc (.cells #[.int .i64 s1, .slice As s2.length cs] 25)).alloc (.cells #[.int .i64 t, .slice A1 d.length c1] 25)) (.cells #[.int .i64 s1, .slice As s2.length cs] 25))
  refine (fairleadref14_Same.calls k _ 1 [⟨t, d⟩] _ 1 [⟨s1, s2⟩] false _ (q_row1 (x := (⟨t, d⟩ : S25)) (cs := [.int .i64 t, .slice A1 d.length c1]) HYr.out (k25_mk _ (⟨t, d⟩ : S25) C1.out (Kd.C_below HR.out (by repeat (first | exact Below.refl _ _ | apply below_alloc | apply pw_below_drewN | apply below_drew1 | (refine below_set ?_ (by simp))))))) (Nat.le_refl _) (q_row1 (x := (⟨s1, s2⟩ : S25)) (cs := [.int .i64 s1, .slice As s2.length cs]) HYs.out (k25_mk _ (⟨s1, s2⟩ : S25) Ls.out (Kd.C_below HCs.out (by repeat (first | exact Below.refl _ _ | apply below_alloc | apply pw_below_drewN | apply below_drew1 | (refine below_set ?_ (by simp))))))) (Nat.le_refl _) GQ.out).mono ?_
  rintro e x3 ⟨rfl, hb⟩
  clear hz_KX_0 hza_KX_0 hz_KX_1 hza_KX_1 hzs_0 hzs_1
  have hbb := Aside0.mk (show Below x2.heap.size x2 x3 from below_step (by repeat (first | exact Below.refl _ _ | apply below_alloc | apply pw_below_drewN | apply below_drew1 | (refine below_set ?_ (by simp)))) hb)
  have n0_ := Aside0.mk (below_step HB.out hbb.out)
  have n1_ := Aside0.mk (Kd.C_below HR.out hbb.out)
  have n2_ := Aside0.mk (blk_below KX.out hbb.out)
  have n3_ := Aside0.mk (Kd.C_below HCB.out hbb.out)
  have n4_ := Aside0.mk (Kd.C_below HCs.out hbb.out)
  clear HB HR KX HCB HCs hbb hb HYr HYs
  have HB := n0_
  have HR := n1_
  have KX := n2_
  have HCB := n3_
  have HCs := n4_
  clear n0_ n1_ n2_ n3_ n4_
  go_wp2_with fail
  refine (fairleadlaw14_heads.calls k true _ GH.out).mono ?_
  rintro e x4 ⟨rfl, hb⟩
  have hbb := Aside0.mk (show Below x3.heap.size x3 x4 from below_step (by repeat (first | exact Below.refl _ _ | apply below_alloc | apply pw_below_drewN | apply below_drew1 | (refine below_set ?_ (by simp)))) hb)
  have n0_ := Aside0.mk (below_step HB.out hbb.out)
  have n1_ := Aside0.mk (Kd.C_below HR.out hbb.out)
  have n2_ := Aside0.mk (blk_below KX.out hbb.out)
  have n3_ := Aside0.mk (Kd.C_below HCB.out hbb.out)
  have n4_ := Aside0.mk (Kd.C_below HCs.out hbb.out)
  clear HB HR KX HCB HCs hbb hb
  have HB := n0_
  have HR := n1_
  have KX := n2_
  have HCB := n3_
  have HCs := n4_
  clear n0_ n1_ n2_ n3_ n4_
  go_wp2_with fail
  go_ret
  exact ⟨rfl, HB.out⟩
set_option maxHeartbeats 4000000 in
set_option maxRecDepth 100000 in
theorem turned_y (k : Nat) (a0 t : Int) (A1 : Option Addr) (c1 : Nat) (d : List Int) (bit : Int) (w : World) (hr1 : Kd.C (Kd.int .u8) w A1 d.length d) (hc1 : d.length ≤ c1) (b : List Int) (e : Int) (hF : record_Frame.f k a0 t d = some (b, e)) (hH : fairleadlaw14_heads.f k = some true) (h1 : (e != 0) = false) (h2 : decide (300 < (d.length : Int)) = false) (h3 : decide (bit < 0) = false) (h4 : decide (8 * (b.length : Int) ≤ bit) = false) (h5 : b.length ≤ 1000) (h0 : 0 ≤ bit) (h6 : bit / 8 < (b.length : Int)) (h7 : 0 < b.length) (s1 n f : Int) (s2 : List Int) (hN : record_Next.f k a0 (b.set (bit / 8).toNat (Go.bits .xor .u8 (rd b (bit / 8)) (2 ^ (bit % 8).toNat % 256))) = some (s1, s2, n, f)) (hQ : fairleadref14_Same.f k [⟨t, d⟩] [⟨s1, s2⟩] = some false) (f0 : (f != 0) = false) (f1 : decide (n < ((b.set (bit / 8).toNat (Go.bits .xor .u8 (rd b (bit / 8)) (2 ^ (bit % 8).toNat % 256))).length : Int)) = true) :
    Calls Try.prog 11 #[.int .u64 a0, .agg #[.int .i64 t, .slice A1 d.length c1], .int .i64 bit] w fun e w' => e = .returned (.bool true) ∧ Below w.heap.size w w' := by
  have HR0 := Aside0.mk hr1
  have hu25 := Try.underlying25
  have HR := Aside0.mk hr1
  have C1 := Aside0.mk hc1
  have GF := Aside0.mk hF
  have GH := Aside0.mk hH
  have GN := Aside0.mk hN
  have GQ := Aside0.mk hQ
  have HB := Aside0.mk (Below.refl w.heap.size w)
  clear hr1 hc1 hF hH hN hQ
  go_enter Try.func11, Try.ntmps11
  have hX := heap_alloc_new w (.cells #[.int .i64 t, .slice A1 d.length c1] 25)
  go_wp2_with fail
  refine (record_Frame.calls k a0 t _ _ d b e _ (Kd.C_below HR.out (by repeat (first | exact Below.refl _ _ | apply below_alloc | apply pw_below_drewN | apply below_drew1 | (refine below_set ?_ (by simp))))) C1.out GF.out).mono ?_
  rintro e x1 ⟨v, rfl, hr, hb⟩
  obtain ⟨_, ho⟩ := Kd.R_own hr
  obtain ⟨gb, cb, rfl, hgb, -⟩ := ho.form (by omega)
  have hbb := Aside0.mk (show Below w.heap.size w x1 from below_step (by repeat (first | exact Below.refl _ _ | apply below_alloc | apply pw_below_drewN | apply below_drew1 | (refine below_set ?_ (by simp)))) hb)
  have n0_ := Aside0.mk (below_step HB.out hbb.out)
  have n1_ := Aside0.mk (Kd.C_below HR.out hbb.out)
  have m0_ := Aside0.mk (blk_below hX hb)
  have m1_ := Aside0.mk (hr)
  clear HB HR hbb hr hb hX ho
  have HB := n0_
  have HR := n1_
  have KX := m0_
  have HO := m1_
  clear n0_ n1_ m0_ m1_
  have hz_KX_0 : x1.cell? ⟨w.heap.size, 0, none⟩ = some (.int .i64 t) := (blk_cell KX.out 0).trans rfl
  have hz_KX_1 : x1.cell? ⟨w.heap.size, 1, none⟩ = some (.slice A1 d.length c1) := (blk_cell KX.out 1).trans rfl
  have HG := Aside0.mk (show w.heap.size + 1 ≤ gb from by simpa using hgb)
  clear hgb
  have hR := Kd.R_celln (0 : Int) HO.out (bit / 8) (by omega) h6
  have hcx := hR.1
  have hfx := hR.2
  clear hR
  go_wp2_with fail
  clear hz_KX_0 hz_KX_1
  clear hcx hfx
  have HP := Kd.R_putn HO.out (bit / 8) (Go.bits .xor .u8 (rd b (bit / 8)) (2 ^ (bit % 8).toNat % 256))
  obtain ⟨W1, hW1⟩ : ∃ W1, W1 = x1.setCell ⟨gb, (bit / 8).toNat, none⟩ (.int .u8 (Go.bits .xor .u8 (rd b (bit / 8)) (2 ^ (bit % 8).toNat % 256))) := ⟨_, rfl⟩
  obtain ⟨b', hb'⟩ : ∃ b', b' = b.set (bit / 8).toNat (Go.bits .xor .u8 (rd b (bit / 8)) (2 ^ (bit % 8).toNat % 256)) := ⟨_, rfl⟩
  have hbl : b.length = b'.length := by rw [hb', List.length_set]
  have HP' : Kd.C (Kd.int .u8) W1 (some ⟨gb, 0, none⟩) b'.length b' ∧ b'.length ≤ cb := by
    rw [hW1, hb']
    exact ⟨(Kd.R_reads' HP).2.2, by rw [List.length_set]; exact (Kd.R_reads' HP).2.1⟩
  have HBn : Below w.heap.size w W1 := by rw [hW1]; exact below_set HB.out (by have := HG.out; omega)
  have KXn : W1.heap[w.heap.size]? = some (.cells #[.int .i64 t, .slice A1 d.length c1] 25 (0, 0)) := by rw [hW1]; exact (Below.heap_setCell x1 ⟨gb, (bit / 8).toNat, none⟩ _ w.heap.size (by have := HG.out; show w.heap.size ≠ gb; omega)).trans KX.out
  rw [show (rdOf 0 b (bit / 8)) = rd b (bit / 8) from rfl, ← hW1, hbl]
  have GN' := Aside0.mk (show record_Next.f k a0 b' = some (s1, s2, n, f) from by rw [hb']; exact GN.out)
  rw [← hb'] at f1
  clear HB HR KX HO HP GN hb' hbl h4 h5 h6 h7
  have HB := Aside0.mk HBn
  have HR := Aside0.mk (Kd.C_below HR0.out HBn)
  have KX := Aside0.mk KXn
  have HCB := Aside0.mk HP'.1
  have LB := Aside0.mk HP'.2
  clear HBn KXn HP' HR0 hW1 x1
  refine (record_Next.calls k a0 _ _ b' s1 s2 n f _ (Kd.C_below HCB.out (by repeat (first | exact Below.refl _ _ | apply below_alloc | apply pw_below_drewN | apply below_drew1 | (refine below_set ?_ (by simp))))) LB.out GN'.out).mono ?_
  rintro e x2 ⟨v, rfl, hr, hb⟩
  obtain ⟨As, cs, rfl, hcs, hCs⟩ := Kd.R_reads hr
  have Ls := Aside0.mk hcs
  have hbb := Aside0.mk (show Below W1.heap.size W1 x2 from below_step (by repeat (first | exact Below.refl _ _ | apply below_alloc | apply pw_below_drewN | apply below_drew1 | (refine below_set ?_ (by simp)))) hb)
  have n0_ := Aside0.mk (below_step HB.out hbb.out)
  have n1_ := Aside0.mk (Kd.C_below HR.out hbb.out)
  have n2_ := Aside0.mk (blk_below KX.out hbb.out)
  have n3_ := Aside0.mk (Kd.C_below HCB.out hbb.out)
  have m0_ := Aside0.mk (hCs)
  clear HB HR KX HCB hbb hr hb hcs hCs
  have HB := n0_
  have HR := n1_
  have KX := n2_
  have HCB := n3_
  have HCs := m0_
  clear n0_ n1_ n2_ n3_ m0_
  have hz_KX_0 : x2.cell? ⟨w.heap.size, 0, none⟩ = some (.int .i64 t) := (blk_cell KX.out 0).trans rfl
  have hza_KX_0 : ∀ o_ : Obj, (x2.alloc o_).cell? ⟨w.heap.size, 0, none⟩ = some (.int .i64 t) := fun o_ => (blk_cell (blk_alloc KX.out o_) 0).trans rfl
  have hz_KX_1 : x2.cell? ⟨w.heap.size, 1, none⟩ = some (.slice A1 d.length c1) := (blk_cell KX.out 1).trans rfl
  have hza_KX_1 : ∀ o_ : Obj, (x2.alloc o_).cell? ⟨w.heap.size, 1, none⟩ = some (.slice A1 d.length c1) := fun o_ => (blk_cell (blk_alloc KX.out o_) 1).trans rfl
  have hzs_0 : ∀ o_ : Obj, ((x2.alloc (.cells #[.int .i64 s1, .slice As s2.length cs] 25)).alloc o_).cell? ⟨x2.heap.size, 0, none⟩ = some (.int .i64 s1) := fun o_ => (blk_cell (blk_alloc (heap_alloc_new x2 (.cells #[.int .i64 s1, .slice As s2.length cs] 25)) o_) 0).trans rfl
  have hzs_1 : ∀ o_ : Obj, ((x2.alloc (.cells #[.int .i64 s1, .slice As s2.length cs] 25)).alloc o_).cell? ⟨x2.heap.size, 1, none⟩ = some (.slice As s2.length cs) := fun o_ => (blk_cell (blk_alloc (heap_alloc_new x2 (.cells #[.int .i64 s1, .slice As s2.length cs] 25)) o_) 1).trans rfl
  go_wp2_with fail
  have HYr := Aside0.mk (show (((x2.alloc (.cells #[.int .i64 s1, .slice As s2.length cs] 25)).alloc (.cells #[.int .i64 t, .slice A1 d.length c1] 25)).alloc (.cells #[.int .i64 s1, .slice As s2.length cs] 25)).heap[x2.heap.size + 1]? = some (.cells #[.int .i64 t, .slice A1 d.length c1] 25) from by simpa using blk_alloc (heap_alloc_new (x2.alloc (.cells #[.int .i64 s1, .slice As s2.length cs] 25)) (.cells #[.int .i64 t, .slice A1 d.length c1] 25)) (.cells #[.int .i64 s1, .slice As s2.length cs] 25))
  have HYs := Aside0.mk (show (((x2.alloc (.cells #[.int .i64 s1, .slice As s2.length cs] 25)).alloc (.cells #[.int .i64 t, .slice A1 d.length c1] 25)).alloc (.cells #[.int .i64 s1, .slice As s2.length cs] 25)).heap[x2.heap.size + 1 + 1]? = some (.cells #[.int .i64 s1, .slice As s2.length cs] 25) from by simpa using heap_alloc_new ((x2.alloc (.cells #[.int .i64 s1, .slice As s2.length cs] 25)).alloc (.cells #[.int .i64 t, .slice A1 d.length c1] 25)) (.cells #[.int .i64 s1, .slice As s2.length cs] 25))
  refine (fairleadref14_Same.calls k _ 1 [⟨t, d⟩] _ 1 [⟨s1, s2⟩] false _ (q_row1 (x := (⟨t, d⟩ : S25)) (cs := [.int .i64 t, .slice A1 d.length c1]) HYr.out (k25_mk _ (⟨t, d⟩ : S25) C1.out (Kd.C_below HR.out (by repeat (first | exact Below.refl _ _ | apply below_alloc | apply pw_below_drewN | apply below_drew1 | (refine below_set ?_ (by simp))))))) (Nat.le_refl _) (q_row1 (x := (⟨s1, s2⟩ : S25)) (cs := [.int .i64 s1, .slice As s2.length cs]) HYs.out (k25_mk _ (⟨s1, s2⟩ : S25) Ls.out (Kd.C_below HCs.out (by repeat (first | exact Below.refl _ _ | apply below_alloc | apply pw_below_drewN | apply below_drew1 | (refine below_set ?_ (by simp))))))) (Nat.le_refl _) GQ.out).mono ?_
  rintro e x3 ⟨rfl, hb⟩
  clear hz_KX_0 hza_KX_0 hz_KX_1 hza_KX_1 hzs_0 hzs_1
  have hbb := Aside0.mk (show Below x2.heap.size x2 x3 from below_step (by repeat (first | exact Below.refl _ _ | apply below_alloc | apply pw_below_drewN | apply below_drew1 | (refine below_set ?_ (by simp)))) hb)
  have n0_ := Aside0.mk (below_step HB.out hbb.out)
  have n1_ := Aside0.mk (Kd.C_below HR.out hbb.out)
  have n2_ := Aside0.mk (blk_below KX.out hbb.out)
  have n3_ := Aside0.mk (Kd.C_below HCB.out hbb.out)
  have n4_ := Aside0.mk (Kd.C_below HCs.out hbb.out)
  clear HB HR KX HCB HCs hbb hb HYr HYs
  have HB := n0_
  have HR := n1_
  have KX := n2_
  have HCB := n3_
  have HCs := n4_
  clear n0_ n1_ n2_ n3_ n4_
  go_wp2_with fail
  refine (fairleadlaw14_heads.calls k true _ GH.out).mono ?_
  rintro e x4 ⟨rfl, hb⟩
  have hbb := Aside0.mk (show Below x3.heap.size x3 x4 from below_step (by repeat (first | exact Below.refl _ _ | apply below_alloc | apply pw_below_drewN | apply below_drew1 | (refine below_set ?_ (by simp)))) hb)
  have n0_ := Aside0.mk (below_step HB.out hbb.out)
  have n1_ := Aside0.mk (Kd.C_below HR.out hbb.out)
  have n2_ := Aside0.mk (blk_below KX.out hbb.out)
  have n3_ := Aside0.mk (Kd.C_below HCB.out hbb.out)
  have n4_ := Aside0.mk (Kd.C_below HCs.out hbb.out)
  clear HB HR KX HCB HCs hbb hb
  have HB := n0_
  have HR := n1_
  have KX := n2_
  have HCB := n3_
  have HCs := n4_
  clear n0_ n1_ n2_ n3_ n4_
  go_wp2_with fail
  go_ret
  exact ⟨rfl, HB.out⟩
end Go.Proofs.Ytejheopcipgmaaa.Wk
