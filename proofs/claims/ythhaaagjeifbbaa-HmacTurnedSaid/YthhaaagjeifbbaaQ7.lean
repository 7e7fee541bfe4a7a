-- Written for this claim by a program of this session (qprint.py), over the kit's print.py; by hand: the functions told so.
import Derived.Test.YthhaaagjeifbbaaQ0
import Derived.Test.YthhaaagjeifbbaaQ6
namespace Go.Proofs.Ythhaaagjeifbbaa.Q
open Go.RowKit Go.Proofs.YthhaaagjeifbbaaW.PrintWords Go.Proofs.YthhaaagjeifbbaaW.PrintLast Go.Proofs.YthhaaagjeifbbaaW.PrintMore
attribute [local go_sem] max2_int min2_int max_two min_two max_three min_three max_four min_four   -- for this text's walks alone
set_option linter.unusedVariables false
set_option linter.unusedSimpArgs false

/-! ### hmac_Key: by hand -/
def hmac_fill (l : List Int) : List Int := l.take 64 ++ List.replicate (64 - l.length) 0
def hmac_Key.f (k : Nat) (l0 : List Int) : Option (List Int) := if 64 < l0.length then (sha_Sum.f k [l0]).bind fun t => some (hmac_fill t) else some (hmac_fill l0)
theorem hmac_Key.mono : ∀ a0 k, LeO (hmac_Key.f k a0) (hmac_Key.f (k + 1) a0) := by
  intro a0 k
  unfold hmac_Key.f
  exact LeO.ite (LeO.bind (sha_Sum.mono _ _) (fun _ => LeO.refl _)) (LeO.refl _)
theorem hmac_fill_len (l : List Int) : (hmac_fill l).length = 64 := by
  unfold hmac_fill
  rw [List.length_append, List.length_take, List.length_replicate]
  omega

def hmac_Z64 : List Int := List.replicate 64 0
theorem hmac_Z64_len : hmac_Z64.length = 64 := rfl
theorem q_R8' {w : World} {base g : Nat} {l : List Int} (h : w.heap[g]? = some (.cells (u8s (l.take 64 ++ hmac_Z64.drop l.length)) 5)) (hb : base ≤ g) (hl : (hmac_fill l).length = 64) : Kd.R (Kd.int .u8) 5 w base (fun _ => True) (.slice (some ⟨g, 0, none⟩) 64 64) (hmac_fill l) := by
  have e : l.take 64 ++ hmac_Z64.drop l.length = hmac_fill l := by
    unfold hmac_fill hmac_Z64
    rw [List.drop_replicate]
  rw [e] at h
  have h2 := q_R8 h hb (by rw [hl]; decide)
  rw [hl] at h2
  exact h2
set_option maxHeartbeats 400000 in
set_option maxRecDepth 100000 in
theorem hmac_Key.short (A0 : Option Addr) (c0 : Nat) (l0 : List Int) (w : World) (hr0 : Kd.C (Kd.int .u8) w A0 l0.length l0) (hc0 : l0.length ≤ c0) (h : ¬ 64 < l0.length) :
    Calls Try.prog 30 #[.slice A0 l0.length c0] w fun e w' => ∃ v0_ : Value, e = .returned v0_ ∧ Kd.R (Kd.int .u8) 5 w' w.heap.size (fun _ => True) v0_ (hmac_fill l0) ∧ Below w.heap.size w w' := by
  have HR := Aside0.mk hr0
  have b0 : decide ((l0.length : Int) > 64) = false := by simp; omega
  have b1 : decide (64 < l0.length) = false := by simp; omega
  clear hr0 hc0 h
  go_enter Try.func30, Try.ntmps30
  go_wp2_with (first | (refine Great.wpList_allocTo rfl (some 4) rfl (.slice (some ⟨w.heap.size, 0, none⟩) 64 64) (.cells (u8s hmac_Z64) 5) (by kernel_rfl) ?_) | (refine q_copy_into (B := w.heap.size) (w0 := w) rfl (.tmp 11) (.tmp 12) 22 22 rfl 5 Try.underlying22 (by kernel_rfl) w.heap.size 64 64 A0 l0.length c0 rfl rfl hmac_Z64 l0 5 (heap_alloc_new _ _) hmac_Z64_len (Kd.C_below HR.out (below_alloc (Below.refl _ _) _)) rfl (below_alloc (Below.refl _ _) _) (Nat.le_refl _) ?_; intro W1 hg1 hb1 hz1))
  have HG := Aside0.mk hg1
  have HB := Aside0.mk hb1
  clear hg1 hb1 hz1
  go_wp2
  go_ret
  exact ⟨_, rfl, q_R8' HG.out (Nat.le_refl _) (hmac_fill_len l0), HB.out⟩
set_option maxHeartbeats 400000 in
set_option maxRecDepth 100000 in
theorem hmac_Key.long (k : Nat) (A0 : Option Addr) (c0 : Nat) (l0 t : List Int) (w : World) (hr0 : Kd.C (Kd.int .u8) w A0 l0.length l0) (hc0 : l0.length ≤ c0) (h : 64 < l0.length) (hs : sha_Sum.f k [l0] = some t) :
    Calls Try.prog 30 #[.slice A0 l0.length c0] w fun e w' => ∃ v0_ : Value, e = .returned v0_ ∧ Kd.R (Kd.int .u8) 5 w' w.heap.size (fun _ => True) v0_ (hmac_fill t) ∧ Below w.heap.size w w' := by
  have HR := Aside0.mk hr0
  have HC := Aside0.mk hc0
  have HS := Aside0.mk hs
  have b0 : decide ((l0.length : Int) > 64) = true := by simp; omega
  have b1 : decide (64 < l0.length) = true := by simp; omega
  clear hr0 hc0 h hs
  go_enter Try.func30, Try.ntmps30
  go_wp2_with (first | (refine Great.wpList_allocTo rfl (some 4) rfl (.slice (some ⟨w.heap.size, 0, none⟩) 64 64) (.cells (u8s hmac_Z64) 5) (by kernel_rfl) ?_))
  have hq := q_one (t := 22) (Kd.C_below HR.out (below_alloc (Below.refl _ _) (.cells (u8s hmac_Z64) 5))) HC.out
  have hz : (w.alloc (.cells (u8s hmac_Z64) 5)).heap.size = w.heap.size + 1 := by simp
  rw [hz] at hq
  refine (sha_Sum.calls k _ 1 [l0] t _ hq (by simp) HS.out).mono ?_
  rintro e w1 ⟨v1, rfl, hr1, hb1⟩
  obtain ⟨A1, c1, rfl, hc1, hC1⟩ := Kd.R_reads hr1
  have HG := Aside0.mk (show w1.heap[w.heap.size]? = some (.cells (u8s hmac_Z64) 5) from q_heap_later hb1 (heap_alloc2_old _ _ _))
  have HB := Aside0.mk (show Below w.heap.size w w1 from below_step (below_alloc (below_alloc (Below.refl _ _) _) _) hb1)
  have HC1 := Aside0.mk hC1
  clear hr1 hb1 hc1 hC1 hq hz
  go_wp2_with (refine q_copy_into (B := w.heap.size) (w0 := w) rfl (.tmp 11) (.tmp 12) 22 22 rfl 5 Try.underlying22 (by kernel_rfl) w.heap.size 64 64 A1 t.length c1 rfl rfl hmac_Z64 t 5 HG.out hmac_Z64_len HC1.out rfl HB.out (Nat.le_refl _) ?_; intro W1 hg1 hb1 hz1)
  have HG2 := Aside0.mk hg1
  have HB2 := Aside0.mk hb1
  clear hg1 hb1 hz1
  go_wp2
  go_ret
  exact ⟨_, rfl, q_R8' HG2.out (Nat.le_refl _) (hmac_fill_len t), HB2.out⟩
theorem hmac_Key.calls (k : Nat) (A0 : Option Addr) (c0 : Nat) (l0 : List Int) (r : List Int) (w : World) (hr0 : Kd.C (Kd.int .u8) w A0 l0.length l0) (hc0 : l0.length ≤ c0) (h : hmac_Key.f k l0 = some r) :
    Calls Try.prog 30 #[.slice A0 l0.length c0] w fun e w' => ∃ v0_ : Value, e = .returned v0_ ∧ Kd.R (Kd.int .u8) 5 w' w.heap.size (fun _ => True) v0_ r ∧ Below w.heap.size w w' := by
  unfold hmac_Key.f at h
  by_cases hl : 64 < l0.length
  · rw [if_pos hl] at h
    obtain ⟨t, ht, h⟩ := Option.bind_eq_some_iff.1 h
    obtain rfl := Option.some.inj h
    exact hmac_Key.long k A0 c0 l0 t w hr0 hc0 hl ht
  · rw [if_neg hl] at h
    obtain rfl := Option.some.inj h
    exact hmac_Key.short A0 c0 l0 w hr0 hc0 hl

/-! ### hmac_with: function 43 -/
def hmac_with.l0 : Nat → Int → List Int → Int → Int → Option (List Int)
  | 0, _, _, _, _ => none
  | k + 1, x1, x5, x10, x11 => if x11 < x10 then (if 0 ≤ x11 then (if x11 < (x5.length : Int) then (hmac_with.l0 k x1 (x5.set (x11 : Int).toNat (Go.bits .xor .u8 (rd x5 x11) x1)) x10 (wrap64 (x11 + 1))) else (none)) else (none)) else (some x5)
def hmac_with.f (k : Nat) (l0 : List Int) (a1 : Int) : Option (List Int) := (hmac_Key.f k l0).bind fun t154 => (hmac_with.l0 k a1 t154 (t154.length : Int) 0)
theorem hmac_with.mono_l : ∀ k, (∀ y0 y1 y2 y3, LeO (hmac_with.l0 k y0 y1 y2 y3) (hmac_with.l0 (k + 1) y0 y1 y2 y3))
  | 0 => fun _ _ _ _ r h => by simp [hmac_with.l0] at h
  | k + 1 => by
    have ih0 := hmac_with.mono_l k
    · intro y0 y1 y2 y3
      unfold hmac_with.l0
      repeat' first
      | (with_reducible exact ih0 _ _ _ _)
      | (with_reducible exact hmac_Key.mono _ _)
      | (with_reducible exact LeO.refl _)
      | (with_reducible exact LeO.none _)
      | (with_reducible refine LeO.ite ?_ ?_)
      | (with_reducible refine LeO.bind ?_ (fun _ => ?_))
      | exact ih0 _ _ _ _
      | exact hmac_Key.mono _ _
      | exact LeO.none _
      | refine LeO.ite ?_ ?_
      | refine LeO.bind ?_ (fun _ => ?_)
theorem hmac_with.mono : ∀ a0 a1 k, LeO (hmac_with.f k a0 a1) (hmac_with.f (k + 1) a0 a1) := by
  intro a0 a1 k
  have ih0 := hmac_with.mono_l k
  unfold hmac_with.f
  repeat' first
      | (with_reducible exact ih0 _ _ _ _)
      | (with_reducible exact hmac_Key.mono _ _)
      | (with_reducible exact LeO.refl _)
      | (with_reducible exact LeO.none _)
      | (with_reducible refine LeO.ite ?_ ?_)
      | (with_reducible refine LeO.bind ?_ (fun _ => ?_))
      | exact ih0 _ _ _ _
      | exact hmac_Key.mono _ _
      | exact LeO.none _
      | refine LeO.ite ?_ ?_
      | refine LeO.bind ?_ (fun _ => ?_)
set_option maxHeartbeats 8000000 in
set_option maxRecDepth 100000 in
theorem hmac_with.calls (k : Nat) (A0 : Option Addr) (c0 : Nat) (l0 : List Int) (a1 : Int) (r : List Int) (w : World) (hr0 : Kd.C (Kd.int .u8) w A0 l0.length l0) (hc0 : l0.length ≤ c0) (h : hmac_with.f k l0 a1 = some r) :
    Calls Try.prog 43 #[.slice A0 l0.length c0, .int .u8 a1] w fun e w' => ∃ v0_ : Value, e = .returned (v0_) ∧ Kd.R (Kd.int .u8) 5 w' w.heap.size (fun _ => True) v0_ r ∧ Below w.heap.size w w' := by
  have HR0 := Aside0.mk hr0
  have HC0 := Aside0.mk hc0
  clear hr0 hc0
  have HB := Aside0.mk (Below.refl w.heap.size w)
  have H : ((hmac_Key.f k l0).bind fun t154 => (hmac_with.l0 k a1 t154 (t154.length : Int) 0)) = some r := h
  clear h
  replace H := Option.bind_eq_some_iff.mp H
  obtain ⟨t154, A30, H⟩ := H
  replace H : (hmac_with.l0 k a1 t154 (t154.length : Int) 0) = some r := H
  have A3 := Aside0.mk A30
  clear A30
  have H' := Aside0.mk H
  clear H
  go_enter Try.func43, Try.ntmps43
  go_wp2_with (first | ((with_reducible refine gate_callee (f := 30) rfl ?_); refine goesL_ (some 8) rfl rfl Try.func30 (by kernel_rfl) rfl #[.slice A0 l0.length c0] rfl (by (try simp only [List.map_toArray, List.map_cons, List.map_nil]); first | done | rfl | (simp only [List.length_drop, List.length_take]; rfl)) ?_; (with_reducible refine (hmac_Key.calls k _ _ l0 t154 _ ?side1 ?side2 A3.out).mono ?_); (case side1 => repeat (first | exact HR0.out | (with_reducible refine Kd.C_alloc ?_ _) | (with_reducible refine Kd.C_drewN ?_ _) | (with_reducible refine Kd.C_drew ?_))); (case side2 => exact HC0.out); rintro e w4 ⟨v155, rfl, ho0, hb⟩; refine ⟨_, rfl, ?_⟩; have n0_ := Aside0.mk (Kd.R_lower ho0 (below_size (by repeat (first | (with_reducible first | exact HB.out | apply below_alloc | apply pw_below_drewN | apply below_drew1) | exact HB.out)))); have n1_ := Aside0.mk (below_step (by repeat (first | (with_reducible first | exact HB.out | apply below_alloc | apply pw_below_drewN | apply below_drew1) | exact HB.out)) hb); clear HB; have HO156 := n0_; have HB := n1_; clear n0_ n1_; (try clear hb); (try clear hb2); (try clear hk); (try clear hi); (try clear ho0); obtain ⟨Ao5, co5, eo5⟩ := Kd.R_slice HO156.out; subst eo5))
  go_loopg [11] k (fun kq v11 w' => ∃ (x5_1 : List Int) (x11_1 : Int), v11 = .int .i64 x11_1 ∧ Aside0 (hmac_with.l0 kq a1 x5_1 (t154.length : Int) x11_1 = some r) ∧ Aside0 (kq ≤ k) ∧ Aside0 (Kd.R (Kd.int .u8) 5 w' w.heap.size (fun _ => True) (.slice Ao5 t154.length co5) x5_1) ∧ Aside0 (Below w.heap.size w w'))
  case atStart => exact ⟨(t154), (0), (by first | rfl | (simp; done) | (simp [*]; done)), H', ⟨Nat.le_refl _⟩, ⟨by (with_reducible repeat (first | apply Kd.R_alloc | apply Kd.R_drewN | apply Kd.R_drew)); exact HO156.out⟩, ⟨by repeat (first | (with_reducible first | exact HB.out | apply below_alloc | apply pw_below_drewN | apply below_drew1) | exact HB.out)⟩⟩
  case round =>
    clear H'
    try clear p2
    try clear c3
    try clear c4
    obtain ⟨x5_1, x11_1, rfl, HA, HK1, HO_5, HB⟩ := hrel
    have hl5_1 := (Kd.R_reads' HO_5.out).1
    rw [hl5_1] at HO_5
    (try simp only [hl5_1])
    cases gk with
    | zero => exact absurd HA.out (by simp [hmac_with.l0])
    | succ k1 =>
      have H := HA.out
      clear HA
      simp only [hmac_with.l0] at H
      by_cases c6 : x11_1 < (t154.length : Int)
      · rw [if_pos c6] at H
        have c6b0 : decide (x11_1 < (t154.length : Int)) = true := decide_eq_true c6
        (try (have c6b0hl5_1 := c6b0; rw [hl5_1] at c6b0hl5_1))
        clear c6
        by_cases c7 : 0 ≤ x11_1
        · rw [if_pos c7] at H
          have c7b0 : decide (0 ≤ x11_1) = true := decide_eq_true c7
          (try (have c7b0hl5_1 := c7b0; rw [hl5_1] at c7b0hl5_1))
          clear c7
          by_cases c8 : x11_1 < (x5_1.length : Int)
          · rw [if_pos c8] at H
            have c8b0 : decide (x11_1 < (x5_1.length : Int)) = true := decide_eq_true c8
            (try (have c8b0hl5_1 := c8b0; rw [hl5_1] at c8b0hl5_1))
            clear c8
            obtain ⟨y158, hy158⟩ : ∃ y_ : List Int, y_ = (x5_1.set (x11_1 : Int).toNat (Go.bits .xor .u8 (rd x5_1 x11_1) a1)) := ⟨_, rfl⟩
            replace H : (hmac_with.l0 k1 a1 y158 (t154.length : Int) (wrap64 (x11_1 + 1))) = some r := by first | (rw [hy158]; with_reducible exact H) | (have H2_ := (Option.bind_some _ _).symm.trans H; rw [hy158]; with_reducible exact H2_) | (have H2_ := (Option.bind_some _ _).symm.trans H; with_reducible exact H2_) | with_reducible exact H | (rw [hy158]; exact H) | exact H
            have Ny158 := Aside0.mk hy158
            clear hy158
            have H' := Aside0.mk H
            clear H
            have p157 : 0 ≤ (x11_1 : Int) := of_decide_eq_true (by first | (with_reducible assumption) | assumption)
            have q157 : x11_1 < (x5_1.length : Int) := of_decide_eq_true (by first | (with_reducible assumption) | assumption)
            obtain ⟨ad157, e157, hx157_0⟩ := Kd.at_int (Kd.R_reads' HO_5.out).2.2 x11_1 p157 q157
            cases e157
            replace p157 := eq_true p157
            replace q157 := eq_true q157
            have p9 : 0 ≤ (x11_1 : Int) := of_decide_eq_true (by first | (with_reducible assumption) | assumption)
            have q9 : (x11_1 : Int) < ((x5_1.length : Int) : Int) := of_decide_eq_true (by first | (with_reducible assumption) | assumption)
            obtain ⟨go9, co9, eo9, gb9, gl9, cl9, HG9⟩ := Kd.R_form HO_5.out (by omega)
            (first | cases eo9 | (injection eo9 with ea_ en_ ec_; (first | subst ea_ | (injection ea_ with ea_; subst ea_)); subst ec_; clear en_))
            have GB9 := Aside0.mk gb9
            have GG9 := Aside0.mk HG9
            clear gb9 gl9 HG9
            (first | simp only [add_plain] at hx157_0 | skip)
            obtain ⟨hx9_0, hf9_0⟩ := Kd.R_celln 0 HO_5.out (x11_1 : Int) p9 q9
            replace p9 := eq_true p9
            replace q9 := eq_true q9
            have HP10 := Kd.R_putg HO_5.out (x11_1 : Int) (Go.bits .xor .u8 (rd x5_1 x11_1) a1)
            go_wp2_with (first | ((with_reducible refine gate_store (t := 5) (p := 20) rfl ?_); refine store_event (t := 5) (p := 20) (v := ?vo_w11) (w1 := (wr.setCell ⟨go9, (x11_1 : Int).toNat, none⟩ (.int .u8 (Go.bits .xor .u8 (rd x5_1 x11_1) a1)))) ?hg ?ho ?hn ?hr ?_; (case ho => rfl); (case hg => rfl); (case hn => rfl); (case hr => first | (go_simp; done) | (go_simp; rfl) | (go_simp; simp only [q_w8, q_w16, q_w32, q_max8, q_max16, q_max32, q_max64]; done) | (go_simp; simp only [q_w8, q_w16, q_w32, q_max8, q_max16, q_max32, q_max64]; rfl) | (go_simp; simp [q_w8, q_w16, q_w32, q_max8, q_max16, q_max32, q_max64]; done)); intro w11 hw; have hg : wr.grownBy w11 (some go9) := (by rw [hw]; exact HP10.2); have hp_ : Kd.R (Kd.int .u8) 5 w11 w.heap.size (fun _ => True) (.slice (some ⟨go9, 0, none⟩) x5_1.length co5) y158 := (by rw [hw, Ny158.out]; exact HP10.1); clear HP10; have n0_ := Aside0.mk (hp_); have n1_ := Aside0.mk ((by rw [hw]; exact below_set (HB.out) GB9.out : Below w.heap.size w w11)); clear HO_5; clear HB; have HO_5 := n0_; have HB := n1_; clear n0_ n1_; clear hg hw hp_))
            (try simp only [← hl5_1])
            go_roundg k1
            case measure => have := HK1.out; omega
            case rel => exact ⟨(y158), (wrap64 (x11_1 + 1)), (by first | rfl | (simp; done) | (simp [*]; done)), H', ⟨by have := HK1.out; omega⟩, ⟨by (try simp only [hl5_1]); (with_reducible repeat (first | apply Kd.R_alloc | apply Kd.R_drewN | apply Kd.R_drew)); exact HO_5.out⟩, ⟨by repeat (first | (with_reducible first | exact HB.out | apply below_alloc | apply pw_below_drewN | apply below_drew1) | exact HB.out)⟩⟩
          · rw [if_neg c8] at H
            exact absurd H (by simp)
        · rw [if_neg c7] at H
          exact absurd H (by simp)
      · rw [if_neg c6] at H
        have c6b0 : decide (x11_1 < (t154.length : Int)) = false := decide_eq_false c6
        (try (have c6b0hl5_1 := c6b0; rw [hl5_1] at c6b0hl5_1))
        clear c6
        obtain rfl := Option.some.inj H
        go_wp2
        go_ret
        exact ⟨_, by first | rfl | (simp [errW_none, errW_some] <;> rfl) | (simp [*, errW_none, errW_some] <;> rfl), by (with_reducible repeat (first | apply Kd.R_alloc | apply Kd.R_drewN | apply Kd.R_drew)); exact HO_5.out, by repeat (first | (with_reducible first | exact HB.out | apply below_alloc | apply pw_below_drewN | apply below_drew1) | exact HB.out)⟩

/-! ### hmac_Tag: function 26 -/
def hmac_Tag.f (k : Nat) (l0 : List Int) (l1 : List (List Int)) : Option (List Int) := (hmac_with.f k l0 54).bind fun t159 => ((some (([t159] : List (List Int)) : List (List Int))).bind fun y162 => (if y162.length + l1.length < 5864062014805 then ((sha_Sum.f k (y162 ++ l1)).bind fun t168 => ((hmac_with.f k l0 92).bind fun t171 => ((sha_Sum.f k (([t171, t168] : List (List Int)))).bind fun t177 => (some t177)))) else (none)))
theorem hmac_Tag.mono : ∀ a0 a1 k, LeO (hmac_Tag.f k a0 a1) (hmac_Tag.f (k + 1) a0 a1) := by
  intro a0 a1 k
  unfold hmac_Tag.f
  repeat' first
      | (with_reducible exact hmac_with.mono _ _ _)
      | (with_reducible exact sha_Sum.mono _ _)
      | (with_reducible exact LeO.refl _)
      | (with_reducible exact LeO.none _)
      | (with_reducible refine LeO.ite ?_ ?_)
      | (with_reducible refine LeO.bind ?_ (fun _ => ?_))
      | exact hmac_with.mono _ _ _
      | exact sha_Sum.mono _ _
      | exact LeO.none _
      | refine LeO.ite ?_ ?_
      | refine LeO.bind ?_ (fun _ => ?_)
set_option maxHeartbeats 8000000 in
set_option maxRecDepth 100000 in
theorem hmac_Tag.calls (k : Nat) (A0 : Option Addr) (c0 : Nat) (l0 : List Int) (P1_ : Nat → Prop) (A1 : Option Addr) (c1 : Nat) (l1 : List (List Int)) (r : List Int) (w : World) (hr0 : Kd.C (Kd.int .u8) w A0 l0.length l0) (hc0 : l0.length ≤ c0) (hs1 : Kd.V (Kd.slice 5 (Kd.int .u8)) 22 w w.heap.size (fun k_ => P1_ k_) (.slice A1 l1.length c1) l1) (h : hmac_Tag.f k l0 l1 = some r) :
    Calls Try.prog 26 #[.slice A0 l0.length c0, .slice A1 l1.length c1] w fun e w' => ∃ v0_ : Value, e = .returned (v0_) ∧ Kd.R (Kd.int .u8) 5 w' w.heap.size (fun k_ => (w.heap.size ≤ k_)) v0_ r ∧ Below w.heap.size w w' := by
  have HR0 := Aside0.mk hr0
  have HC0 := Aside0.mk hc0
  clear hr0 hc0
  have HO1 := Aside0.mk (show Kd.V (Kd.slice 5 (Kd.int .u8)) 22 w w.heap.size (fun k_ => (P1_ k_ ∨ w.heap.size ≤ k_)) (.slice A1 l1.length c1) l1 from Kd.V_mono hs1 (fun k_ hk => .inl hk))
  have HB := Aside0.mk (Below.refl w.heap.size w)
  have H : ((hmac_with.f k l0 54).bind fun t159 => ((some (([t159] : List (List Int)) : List (List Int))).bind fun y162 => (if y162.length + l1.length < 5864062014805 then ((sha_Sum.f k (y162 ++ l1)).bind fun t168 => ((hmac_with.f k l0 92).bind fun t171 => ((sha_Sum.f k (([t171, t168] : List (List Int)))).bind fun t177 => (some t177)))) else (none)))) = some r := h
  clear h
  replace H := Option.bind_eq_some_iff.mp H
  obtain ⟨t159, A30, H⟩ := H
  replace H : ((some (([t159] : List (List Int)) : List (List Int))).bind fun y162 => (if y162.length + l1.length < 5864062014805 then ((sha_Sum.f k (y162 ++ l1)).bind fun t168 => ((hmac_with.f k l0 92).bind fun t171 => ((sha_Sum.f k (([t171, t168] : List (List Int)))).bind fun t177 => (some t177)))) else (none))) = some r := H
  have A3 := Aside0.mk A30
  clear A30
  obtain ⟨y162, hy162⟩ : ∃ y_ : List (List Int), y_ = (([t159] : List (List Int))) := ⟨_, rfl⟩
  replace H : (if y162.length + l1.length < 5864062014805 then ((sha_Sum.f k (y162 ++ l1)).bind fun t168 => ((hmac_with.f k l0 92).bind fun t171 => ((sha_Sum.f k (([t171, t168] : List (List Int)))).bind fun t177 => (some t177)))) else (none)) = some r := by first | (rw [hy162]; with_reducible exact H) | (have H2_ := (Option.bind_some _ _).symm.trans H; rw [hy162]; with_reducible exact H2_) | (have H2_ := (Option.bind_some _ _).symm.trans H; with_reducible exact H2_) | with_reducible exact H | (rw [hy162]; exact H) | exact H
  have Ny162 := Aside0.mk hy162
  clear hy162
  by_cases c4 : y162.length + l1.length < 5864062014805
  · rw [if_pos c4] at H
    have LMc4 := Aside0.mk c4
    clear c4
    obtain ⟨y165, hy165⟩ : ∃ y_ : List (List Int), y_ = (y162 ++ l1) := ⟨_, rfl⟩
    replace H : ((sha_Sum.f k y165).bind fun t168 => ((hmac_with.f k l0 92).bind fun t171 => ((sha_Sum.f k (([t171, t168] : List (List Int)))).bind fun t177 => (some t177)))) = some r := by first | (rw [hy165]; with_reducible exact H) | (have H2_ := (Option.bind_some _ _).symm.trans H; rw [hy165]; with_reducible exact H2_) | (have H2_ := (Option.bind_some _ _).symm.trans H; with_reducible exact H2_) | with_reducible exact H | (rw [hy165]; exact H) | exact H
    have Ny165 := Aside0.mk hy165
    clear hy165
    replace H := Option.bind_eq_some_iff.mp H
    obtain ⟨t168, A50, H⟩ := H
    replace H : ((hmac_with.f k l0 92).bind fun t171 => ((sha_Sum.f k (([t171, t168] : List (List Int)))).bind fun t177 => (some t177))) = some r := H
    have A5 := Aside0.mk A50
    clear A50
    replace H := Option.bind_eq_some_iff.mp H
    obtain ⟨t171, A60, H⟩ := H
    replace H : ((sha_Sum.f k (([t171, t168] : List (List Int)))).bind fun t177 => (some t177)) = some r := H
    have A6 := Aside0.mk A60
    clear A60
    obtain ⟨y174, hy174⟩ : ∃ y_ : List (List Int), y_ = (([t171, t168] : List (List Int))) := ⟨_, rfl⟩
    replace H : ((sha_Sum.f k y174).bind fun t177 => (some t177)) = some r := by first | (rw [hy174]; with_reducible exact H) | (have H2_ := (Option.bind_some _ _).symm.trans H; rw [hy174]; with_reducible exact H2_) | (have H2_ := (Option.bind_some _ _).symm.trans H; with_reducible exact H2_) | with_reducible exact H | (rw [hy174]; exact H) | exact H
    have Ny174 := Aside0.mk hy174
    clear hy174
    replace H := Option.bind_eq_some_iff.mp H
    obtain ⟨t177, A70, H⟩ := H
    replace H : (some t177) = some r := H
    have A7 := Aside0.mk A70
    clear A70
    obtain rfl := Option.some.inj H
    go_enter Try.func26, Try.ntmps26
    go_wp2_with (first | ((with_reducible refine gate_callee (f := 43) rfl ?_); refine goesL_ (some 7) rfl rfl Try.func43 (by kernel_rfl) rfl #[.slice A0 l0.length c0, .int .u8 54] rfl (by (try simp only [List.map_toArray, List.map_cons, List.map_nil]); first | done | rfl | (simp only [List.length_drop, List.length_take]; rfl)) ?_; (with_reducible refine (hmac_with.calls k _ _ l0 54 t159 _ ?side1 ?side2 A3.out).mono ?_); (case side1 => repeat (first | exact HR0.out | (with_reducible refine Kd.C_alloc ?_ _) | (with_reducible refine Kd.C_drewN ?_ _) | (with_reducible refine Kd.C_drew ?_))); (case side2 => exact HC0.out); rintro e w8 ⟨v160, rfl, ho0, hb⟩; refine ⟨_, rfl, ?_⟩; have n0_ := Aside0.mk (Kd.V_elder' (by (with_reducible repeat (first | apply Kd.V_alloc | apply Kd.V_drewN | apply Kd.V_drew)); exact HO1.out) (Kd.R_base ho0) hb); have n1_ := Aside0.mk (Kd.R_lower (Kd.R_newM (M := fun k_ => (w.heap.size ≤ k_)) ho0 (below_size (by repeat (first | (with_reducible first | exact HB.out | apply below_alloc | apply pw_below_drewN | apply below_drew1) | exact HB.out))) (fun k_ h_ => h_)) (below_size (by repeat (first | (with_reducible first | exact HB.out | apply below_alloc | apply pw_below_drewN | apply below_drew1) | exact HB.out)))); have n2_ := Aside0.mk (below_step (by repeat (first | (with_reducible first | exact HB.out | apply below_alloc | apply pw_below_drewN | apply below_drew1) | exact HB.out)) hb); clear HO1; clear HB; have HO1 := n0_; have HO161 := n1_; have HB := n2_; clear n0_ n1_ n2_; (try clear hb); (try clear hb2); (try clear hk); (try clear hi); (try clear ho0); obtain ⟨Ao9, co9, eo9⟩ := Kd.R_slice HO161.out; subst eo9) | ((with_reducible refine gate_dst (N := 8) rfl ?_); refine Kd.N_lit (Kd.slice 5 (Kd.int .u8)) _ 22 ?hg (N' := 8) ?hd (xs := ([t159] : List (List Int))) (inner := [.slice Ao9 t159.length co9]) (ok := (fun k_ => (P1_ k_ ∨ w.heap.size ≤ k_))) (okp := (fun k_ => (P1_ k_ ∨ w.heap.size ≤ k_))) ?hr ?hp (fun _ hk => hk) ((show ∀ k_, w8.heap.size ≤ k_ → (fun k_ => (P1_ k_ ∨ w.heap.size ≤ k_)) k_ from fun k_ hk => (.inr (Nat.le_trans (below_size (by repeat (first | (with_reducible first | exact HB.out | apply below_alloc | apply pw_below_drewN | apply below_drew1) | exact HB.out))) hk))) _ (Nat.le_refl _)) (Below.refl _ _) (Nat.le_refl _) (by simp) ?_; (case hd => rfl); (case hg => rfl); (case hr => first | (go_simp; done) | (go_simp; rfl) | (go_simp; simp only [q_w8, q_w16, q_w32, q_max8, q_max16, q_max32, q_max64]; done) | (go_simp; simp only [q_w8, q_w16, q_w32, q_max8, q_max16, q_max32, q_max64]; rfl) | (go_simp; simp [q_w8, q_w16, q_w32, q_max8, q_max16, q_max32, q_max64]; done)); (case hp => exact (Reps.one (show Kd.FK (Kd.slice 5 (Kd.int .u8)) _ _ t159 [.slice Ao9 t159.length co9] from (Kd.FK_slice_mk (Kd.R_reads' (Kd.R_mono (ok' := (fun k_ => (P1_ k_ ∨ w.heap.size ≤ k_))) (HO161.out) (fun k_ hk => (.inr (hk.1))))).2.1 (Kd.R_F (Kd.R_mono (ok' := (fun k_ => (P1_ k_ ∨ w.heap.size ≤ k_))) (HO161.out) (fun k_ hk => (.inr (hk.1))))))) (Reps.none _ _))); intro v163 w10 ho11 hb hg_ hnew_; clear hg_ hnew_; (first | rw [← Ny162.out] at ho11 | (simp only [Int.reduceToNat] at ho11; rw [← Ny162.out] at ho11)); have n0_ := Aside0.mk (Kd.V_elder' (by (with_reducible repeat (first | apply Kd.V_alloc | apply Kd.V_drewN | apply Kd.V_drew)); exact HO1.out) (Kd.N_base ho11) hb); have n1_ := Aside0.mk (Kd.N_lower ho11 (below_size (by repeat (first | (with_reducible first | exact HB.out | apply below_alloc | apply pw_below_drewN | apply below_drew1) | exact HB.out)))); have n2_ := Aside0.mk (below_step (by repeat (first | (with_reducible first | exact HB.out | apply below_alloc | apply pw_below_drewN | apply below_drew1) | exact HB.out)) hb); clear HO1; clear HB; clear HO161; have HO1 := n0_; have HO164 := n1_; have HB := n2_; clear n0_ n1_ n2_; clear hb ho11) | ((with_reducible refine gate_builtin (b := .append) (xs := #[.tmp 8, .tmp 9]) rfl ?_); at_builtin; refine Kd.N_append_rows (Kd.slice 5 (Kd.int .u8)) (w0 := w) w.heap.size rfl (.tmp 8) (.tmp 9) 53 22 (.slice none 0 0) 24 rfl Try.underlying53 info22 rfl (by decide) (by omega) v163 y162 l1 _ _ _ (fun k_ => (P1_ k_ ∨ w.heap.size ≤ k_)) (fun k_ => ((fun k_ => (P1_ k_ ∨ w.heap.size ≤ k_))) k_ ∧ some k_ ≠ (v163 : Value).ownBlock) rfl rfl ?aO ?aR (fun _ hk => hk) ?aF ?aB ?aS ?aL ?_; (case aR => exact (by skip; exact Kd.V_F (Kd.V_mono (ok' := (fun k_ => ((fun k_ => (P1_ k_ ∨ w.heap.size ≤ k_))) k_ ∧ some k_ ≠ (v163 : Value).ownBlock)) (HO1.out) (fun k_ hk => ⟨hk.1.1, hk.2⟩)))); (case aB => exact (by repeat (first | (with_reducible first | exact HB.out | apply below_alloc | apply pw_below_drewN | apply below_drew1) | exact HB.out))); (case aF => exact (fun k_ hk => (.inr (Nat.le_trans (below_size (by repeat (first | (with_reducible first | exact HB.out | apply below_alloc | apply pw_below_drewN | apply below_drew1) | exact HB.out))) hk)))); (case aO => exact (by (with_reducible repeat (first | apply Kd.N_alloc | apply Kd.N_drewN | apply Kd.N_drew)); exact HO164.out)); (case aS => exact (below_size (by repeat (first | (with_reducible first | exact HB.out | apply below_alloc | apply pw_below_drewN | apply below_drew1) | exact HB.out)))); (case aL => have := LMc4.out; omega); intro v166 w12 ho hb hg hat; rw [← Ny165.out] at ho; have n0_ := Aside0.mk (Kd.V_afterv (ok := (fun k_ => (P1_ k_ ∨ w.heap.size ≤ k_))) (by (with_reducible repeat (first | apply Kd.V_alloc | apply Kd.V_drewN | apply Kd.V_drew)); exact Kd.V_mono HO1.out (fun _ hk => ⟨hk.1.1, hk.2⟩)) hg hat); have n1_ := Aside0.mk (hb); have n2_ := Aside0.mk (ho); clear HO1; clear HB; clear HO164; have HO1 := n0_; have HB := n1_; have HO167 := n2_; clear n0_ n1_ n2_; clear ho hb hg hat; obtain ⟨Ao13, co13, eo13⟩ := Kd.N_slice HO167.out; subst eo13) | ((with_reducible refine gate_callee (f := 17) rfl ?_); refine goesL_ (some 11) rfl rfl Try.func17 (by kernel_rfl) rfl #[.slice Ao13 y165.length co13] rfl (by (try simp only [List.map_toArray, List.map_cons, List.map_nil]); first | done | rfl | (simp only [List.length_drop, List.length_take]; rfl)) ?_; (with_reducible refine (sha_Sum.calls k _ _ y165 t168 _ ?side1 ?side2 A5.out).mono ?_); (case side1 => repeat (first | exact (Kd.N_reads' HO167.out).2.2 | (with_reducible refine Kd.C_alloc ?_ _) | (with_reducible refine Kd.C_drewN ?_ _) | (with_reducible refine Kd.C_drew ?_))); (case side2 => exact (Kd.N_reads' HO167.out).2.1); rintro e w14 ⟨v169, rfl, ho0, hb⟩; refine ⟨_, rfl, ?_⟩; have n0_ := Aside0.mk (Kd.V_elder' (by (with_reducible repeat (first | apply Kd.V_alloc | apply Kd.V_drewN | apply Kd.V_drew)); exact HO1.out) (Kd.R_base ho0) hb); have n1_ := Aside0.mk (Kd.N_elder' (by (with_reducible repeat (first | apply Kd.N_alloc | apply Kd.N_drewN | apply Kd.N_drew)); exact HO167.out) (Kd.R_base ho0) hb); have n2_ := Aside0.mk (Kd.R_lower (Kd.R_newM (M := fun k_ => (w.heap.size ≤ k_)) ho0 (below_size (by repeat (first | (with_reducible first | exact HB.out | apply below_alloc | apply pw_below_drewN | apply below_drew1) | exact HB.out))) (fun k_ h_ => h_)) (below_size (by repeat (first | (with_reducible first | exact HB.out | apply below_alloc | apply pw_below_drewN | apply below_drew1) | exact HB.out)))); have n3_ := Aside0.mk (below_step (by repeat (first | (with_reducible first | exact HB.out | apply below_alloc | apply pw_below_drewN | apply below_drew1) | exact HB.out)) hb); clear HO1; clear HO167; clear HB; have HO1 := n0_; have HO167 := n1_; have HO170 := n2_; have HB := n3_; clear n0_ n1_ n2_ n3_; (try clear hb); (try clear hb2); (try clear hk); (try clear hi); (try clear ho0)) | ((with_reducible refine gate_callee (f := 43) rfl ?_); refine goesL_ (some 13) rfl rfl Try.func43 (by kernel_rfl) rfl #[.slice A0 l0.length c0, .int .u8 92] rfl (by (try simp only [List.map_toArray, List.map_cons, List.map_nil]); first | done | rfl | (simp only [List.length_drop, List.length_take]; rfl)) ?_; (with_reducible refine (hmac_with.calls k _ _ l0 92 t171 _ ?side1 ?side2 A6.out).mono ?_); (case side1 => repeat (first | exact (Kd.C_below HR0.out HB.out) | (with_reducible refine Kd.C_alloc ?_ _) | (with_reducible refine Kd.C_drewN ?_ _) | (with_reducible refine Kd.C_drew ?_))); (case side2 => exact HC0.out); rintro e w15 ⟨v172, rfl, ho0, hb⟩; refine ⟨_, rfl, ?_⟩; have n0_ := Aside0.mk (Kd.V_elder' (by (with_reducible repeat (first | apply Kd.V_alloc | apply Kd.V_drewN | apply Kd.V_drew)); exact HO1.out) (Kd.R_base ho0) hb); have n1_ := Aside0.mk (Kd.N_elder' (by (with_reducible repeat (first | apply Kd.N_alloc | apply Kd.N_drewN | apply Kd.N_drew)); exact HO167.out) (Kd.R_base ho0) hb); have n2_ := Aside0.mk (Kd.R_elder' (by (with_reducible repeat (first | apply Kd.R_alloc | apply Kd.R_drewN | apply Kd.R_drew)); exact HO170.out) (Kd.R_base ho0) hb); have n3_ := Aside0.mk (Kd.R_lower (Kd.R_new' (Kd.R_newM (M := fun k_ => (w.heap.size ≤ k_)) ho0 (below_size (by repeat (first | (with_reducible first | exact HB.out | apply below_alloc | apply pw_below_drewN | apply below_drew1) | exact HB.out))) (fun k_ h_ => h_)) (Kd.R_lt (by (with_reducible repeat (first | apply Kd.R_alloc | apply Kd.R_drewN | apply Kd.R_drew)); exact HO170.out))) (below_size (by repeat (first | (with_reducible first | exact HB.out | apply below_alloc | apply pw_below_drewN | apply below_drew1) | exact HB.out)))); have n4_ := Aside0.mk (below_step (by repeat (first | (with_reducible first | exact HB.out | apply below_alloc | apply pw_below_drewN | apply below_drew1) | exact HB.out)) hb); clear HO1; clear HO167; clear HO170; clear HB; have HO1 := n0_; have HO167 := n1_; have HO170 := n2_; have HO173 := n3_; have HB := n4_; clear n0_ n1_ n2_ n3_ n4_; (try clear hb); (try clear hb2); (try clear hk); (try clear hi); (try clear ho0); obtain ⟨Ao16, co16, eo16⟩ := Kd.R_slice HO173.out; subst eo16; obtain ⟨Ao17, co17, eo17⟩ := Kd.R_slice HO170.out; subst eo17) | ((with_reducible refine gate_dst (N := 15) rfl ?_); refine Kd.N_lit (Kd.slice 5 (Kd.int .u8)) _ 22 ?hg (N' := 15) ?hd (xs := ([t171, t168] : List (List Int))) (inner := [.slice Ao16 t171.length co16, .slice Ao17 t168.length co17]) (ok := (fun k_ => (P1_ k_ ∨ w.heap.size ≤ k_) ∧ some k_ ≠ (.slice Ao13 y165.length co13 : Value).ownBlock)) (okp := (fun k_ => (P1_ k_ ∨ w.heap.size ≤ k_) ∧ some k_ ≠ (.slice Ao13 y165.length co13 : Value).ownBlock)) ?hr ?hp (fun _ hk => hk) ((show ∀ k_, w15.heap.size ≤ k_ → (fun k_ => (P1_ k_ ∨ w.heap.size ≤ k_) ∧ some k_ ≠ (.slice Ao13 y165.length co13 : Value).ownBlock) k_ from fun k_ hk => ⟨(.inr (Nat.le_trans (below_size (by repeat (first | (with_reducible first | exact HB.out | apply below_alloc | apply pw_below_drewN | apply below_drew1) | exact HB.out))) hk)), Kd.fresh' (Kd.N_lt (by (with_reducible repeat (first | apply Kd.N_alloc | apply Kd.N_drewN | apply Kd.N_drew)); exact HO167.out)) k_ hk⟩) _ (Nat.le_refl _)) (Below.refl _ _) (Nat.le_refl _) (by simp) ?_; (case hd => rfl); (case hg => rfl); (case hr => first | (go_simp; done) | (go_simp; rfl) | (go_simp; simp only [q_w8, q_w16, q_w32, q_max8, q_max16, q_max32, q_max64]; done) | (go_simp; simp only [q_w8, q_w16, q_w32, q_max8, q_max16, q_max32, q_max64]; rfl) | (go_simp; simp [q_w8, q_w16, q_w32, q_max8, q_max16, q_max32, q_max64]; done)); (case hp => exact (Reps.one (show Kd.FK (Kd.slice 5 (Kd.int .u8)) _ _ t171 [.slice Ao16 t171.length co16] from (Kd.FK_slice_mk (Kd.R_reads' (Kd.R_mono (ok' := (fun k_ => (P1_ k_ ∨ w.heap.size ≤ k_) ∧ some k_ ≠ (.slice Ao13 y165.length co13 : Value).ownBlock)) (Kd.R_apart' (HO173.out) (Kd.N_typed HO167.out) (by decide)) (fun k_ hk => ⟨(.inr (hk.1.1.1)), hk.2⟩))).2.1 (Kd.R_F (Kd.R_mono (ok' := (fun k_ => (P1_ k_ ∨ w.heap.size ≤ k_) ∧ some k_ ≠ (.slice Ao13 y165.length co13 : Value).ownBlock)) (Kd.R_apart' (HO173.out) (Kd.N_typed HO167.out) (by decide)) (fun k_ hk => ⟨(.inr (hk.1.1.1)), hk.2⟩))))) (Reps.one (show Kd.FK (Kd.slice 5 (Kd.int .u8)) _ _ t168 [.slice Ao17 t168.length co17] from (Kd.FK_slice_mk (Kd.R_reads' (Kd.R_mono (ok' := (fun k_ => (P1_ k_ ∨ w.heap.size ≤ k_) ∧ some k_ ≠ (.slice Ao13 y165.length co13 : Value).ownBlock)) (Kd.R_apart' (HO170.out) (Kd.N_typed HO167.out) (by decide)) (fun k_ hk => ⟨(.inr (hk.1.1.1)), hk.2⟩))).2.1 (Kd.R_F (Kd.R_mono (ok' := (fun k_ => (P1_ k_ ∨ w.heap.size ≤ k_) ∧ some k_ ≠ (.slice Ao13 y165.length co13 : Value).ownBlock)) (Kd.R_apart' (HO170.out) (Kd.N_typed HO167.out) (by decide)) (fun k_ hk => ⟨(.inr (hk.1.1.1)), hk.2⟩))))) (Reps.none _ _)))); intro v175 w18 ho19 hb hg_ hnew_; clear hg_ hnew_; (first | rw [← Ny174.out] at ho19 | (simp only [Int.reduceToNat] at ho19; rw [← Ny174.out] at ho19)); have n0_ := Aside0.mk (Kd.V_elder' (by (with_reducible repeat (first | apply Kd.V_alloc | apply Kd.V_drewN | apply Kd.V_drew)); exact HO1.out) (Kd.N_base ho19) hb); have n1_ := Aside0.mk (Kd.N_elder' (by (with_reducible repeat (first | apply Kd.N_alloc | apply Kd.N_drewN | apply Kd.N_drew)); exact HO167.out) (Kd.N_base ho19) hb); have n2_ := Aside0.mk (Kd.N_lower ho19 (below_size (by repeat (first | (with_reducible first | exact HB.out | apply below_alloc | apply pw_below_drewN | apply below_drew1) | exact HB.out)))); have n3_ := Aside0.mk (below_step (by repeat (first | (with_reducible first | exact HB.out | apply below_alloc | apply pw_below_drewN | apply below_drew1) | exact HB.out)) hb); clear HO1; clear HO167; clear HB; clear HO170; clear HO173; have HO1 := n0_; have HO167 := n1_; have HO176 := n2_; have HB := n3_; clear n0_ n1_ n2_ n3_; clear hb ho19; obtain ⟨Ao20, co20, eo20⟩ := Kd.N_slice HO176.out; subst eo20) | ((with_reducible refine gate_callee (f := 17) rfl ?_); refine goesL_ (some 16) rfl rfl Try.func17 (by kernel_rfl) rfl #[.slice Ao20 y174.length co20] rfl (by (try simp only [List.map_toArray, List.map_cons, List.map_nil]); first | done | rfl | (simp only [List.length_drop, List.length_take]; rfl)) ?_; (with_reducible refine (sha_Sum.calls k _ _ y174 t177 _ ?side1 ?side2 A7.out).mono ?_); (case side1 => repeat (first | exact (Kd.N_reads' HO176.out).2.2 | (with_reducible refine Kd.C_alloc ?_ _) | (with_reducible refine Kd.C_drewN ?_ _) | (with_reducible refine Kd.C_drew ?_))); (case side2 => exact (Kd.N_reads' HO176.out).2.1); rintro e w21 ⟨v178, rfl, ho0, hb⟩; refine ⟨_, rfl, ?_⟩; have n0_ := Aside0.mk (Kd.V_elder' (by (with_reducible repeat (first | apply Kd.V_alloc | apply Kd.V_drewN | apply Kd.V_drew)); exact HO1.out) (Kd.R_base ho0) hb); have n1_ := Aside0.mk (Kd.N_elder' (by (with_reducible repeat (first | apply Kd.N_alloc | apply Kd.N_drewN | apply Kd.N_drew)); exact HO167.out) (Kd.R_base ho0) hb); have n2_ := Aside0.mk (Kd.N_elder' (by (with_reducible repeat (first | apply Kd.N_alloc | apply Kd.N_drewN | apply Kd.N_drew)); exact HO176.out) (Kd.R_base ho0) hb); have n3_ := Aside0.mk (Kd.R_lower (Kd.R_newM (M := fun k_ => (w.heap.size ≤ k_)) ho0 (below_size (by repeat (first | (with_reducible first | exact HB.out | apply below_alloc | apply pw_below_drewN | apply below_drew1) | exact HB.out))) (fun k_ h_ => h_)) (below_size (by repeat (first | (with_reducible first | exact HB.out | apply below_alloc | apply pw_below_drewN | apply below_drew1) | exact HB.out)))); have n4_ := Aside0.mk (below_step (by repeat (first | (with_reducible first | exact HB.out | apply below_alloc | apply pw_below_drewN | apply below_drew1) | exact HB.out)) hb); clear HO1; clear HO167; clear HO176; clear HB; have HO1 := n0_; have HO167 := n1_; have HO176 := n2_; have HO179 := n3_; have HB := n4_; clear n0_ n1_ n2_ n3_ n4_; (try clear hb); (try clear hb2); (try clear hk); (try clear hi); (try clear ho0)))
    go_ret
    exact ⟨_, by first | rfl | (simp [errW_none, errW_some] <;> rfl) | (simp [*, errW_none, errW_some] <;> rfl), by (with_reducible repeat (first | apply Kd.R_alloc | apply Kd.R_drewN | apply Kd.R_drew)); exact Kd.R_mono HO179.out (fun _ hk => hk.1), by repeat (first | (with_reducible first | exact HB.out | apply below_alloc | apply pw_below_drewN | apply below_drew1) | exact HB.out)⟩
  · rw [if_neg c4] at H
    exact absurd H (by simp)

/-! ### hmac_Verify: by hand -/
theorem v_part (P : Program) (w : World) (e : TypeId) (hu : P.underlying e = some (.int .u8)) (xs : List Int) (i : Nat) (hi : i < xs.length) : (part e (u8s xs) i).run P w = .ok (.int .u8 (xs.getD i 0)) w := by
  have hc : (u8s xs)[i]? = some (.int .u8 (xs.getD i 0)) := by simp [u8s, List.getElem?_eq_getElem hi]
  have ha : (isAgg e).run P w = .ok false w := by
    unfold isAgg
    rw [Sem.run_bind, run_underlying hu w]
    rfl
  simp [part, Sem.run_bind, ha, hc]
theorem v_items (P : Program) (w : World) (e : TypeId) (d : Nat) (hu : P.underlying e = some (.int .u8)) (xs ys : List Int) : ∀ (is : List Nat), (∀ i ∈ is, i < xs.length ∧ i < ys.length) →
    (Op.eqItems (d + 1) e 1 (u8s xs) (u8s ys) is).run P w = .ok (is.all fun i => xs.getD i 0 == ys.getD i 0) w
  | [], _ => rfl
  | i :: is, h => by
    have hi := h i List.mem_cons_self
    have ih := v_items P w e d hu xs ys is (fun j hj => h j (List.mem_cons_of_mem _ hj))
    simp only [Op.eqItems, Nat.mul_one, Sem.run_bind, v_part P w e hu xs i hi.1, v_part P w e hu ys i hi.2, Result.andThen_ok, run_equalIn_int _ d e .u8 .u8 _ _ hu, List.all_cons]
    cases hab : (xs.getD i 0 == ys.getD i 0)
    · rfl
    · simpa using ih
theorem v_all (xs ys : List Int) (hx : xs.length = 32) (hy : ys.length = 32) : ((List.range 32).all fun i => xs.getD i 0 == ys.getD i 0) = decide (xs = ys) := by
  by_cases h : xs = ys
  · subst h
    simp
  · rw [decide_eq_false h]
    by_cases ha : ((List.range 32).all fun i => xs.getD i 0 == ys.getD i 0) = true
    · exfalso
      apply h
      apply List.ext_getElem (by omega)
      intro i h1 h2
      have := List.all_eq_true.1 ha i (List.mem_range.2 (by omega))
      simpa [List.getD_eq_getElem?_getD, List.getElem?_eq_getElem h1, List.getElem?_eq_getElem h2] using this
    · simpa using ha
theorem v_eql (P : Program) (w : World) (t e : TypeId) (i : TypeInfo) (ht : P.underlying t = some (.array 32 e)) (he : P.underlying e = some (.int .u8)) (hi : P.info? e = some i) (hs : P.cellsOf e = 1) (xs ys : List Int) (hx : xs.length = 32) (hy : ys.length = 32) :
    (binOp .eql t (.agg (u8s xs)) (.agg (u8s ys))).run P w = .ok (.bool (decide (xs = ys))) w := by
  have h := v_items P w e 9998 he xs ys (List.range 32) (fun j hj => by have := List.mem_range.1 hj; omega)
  have h2 : (Op.equalIn 10000 t (.agg (u8s xs)) (.agg (u8s ys))).run P w = .ok (decide (xs = ys)) w := by
    rw [show (10000 : Nat) = 9999 + 1 from rfl, run_equalIn_array w 9999 (u8s xs) (u8s ys) ht hi, hs, h, v_all xs ys hx hy]
  simp only [binOp]
  simp [Op.equal, Op.maxDepth, Sem.run_bind, h2]
theorem v_load (P : Program) (w : World) (t e : TypeId) (i : TypeInfo) (ht : P.underlying t = some (.array 32 e)) (hi : P.info? t = some i) (hs : i.size = 32) (ad : Addr) (xs : List Int) (hx : 32 ≤ xs.length) (hc : ∀ j, j < xs.length → w.cell? (ad.add j) = some (.int .u8 (xs.getD j 0))) :
    (loadVar t ad).run P w = .ok (.agg (u8s (xs.take 32))) w := by
  have hl : (loadCells ad ((xs.take 32).map (Value.int .u8)).length).run P w = .ok ((xs.take 32).map (Value.int .u8)).toArray w :=
    run_loadCells_list (P := P) w ad _ (fun j v hv => by
      obtain ⟨hjl, rfl⟩ := List.getElem?_eq_some_iff.1 hv
      have hj : j < xs.length := by simp at hjl; omega
      rw [hc j hj]
      simp [List.getD_eq_getElem?_getD, List.getElem?_eq_getElem hj])
  have hlen : ((xs.take 32).map (Value.int .u8)).length = 32 := by rw [List.length_map, List.length_take]; omega
  rw [hlen] at hl
  have ha : (isAgg t).run P w = .ok true w := by
    unfold isAgg
    rw [Sem.run_bind, run_underlying ht w]
    rfl
  simp [loadVar, Sem.run_bind, ha, sizeOf, typeInfo, hi, hs, hl, u8s]
theorem x_load {P : Program} {a : Act} {w : World} {o : Oper} {t : TypeId} {x : Operand} {ad : Addr} {v : Value} (ho : o.op = .load t x) (hx : a.eval x = .pointer (some ad)) (h : (loadVar t ad).run P w = .ok v w) : (execOp a.eval o).run P w = .ok (.value v) w := by
  unfold execOp
  simp only [ho, hx, Instr.loadAt, Instr.sureAddr, Sem.run_bind, Sem.run_pure, Result.andThen_ok, h]
theorem x_binOp {P : Program} {a : Act} {w : World} {o : Oper} {t t2 : TypeId} {x y : Operand} {xs ys : Array Value} {v : Value} (ho : o.op = .binOp .eql t x y t2) (hx : a.eval x = .agg xs) (hy : a.eval y = .agg ys) (hm : P.eqGuardType P.depth t = false) (h : (binOp .eql t (.agg xs) (.agg ys)).run P w = .ok v w) : (execOp a.eval o).run P w = .ok (.value v) w := by
  unfold execOp
  simp only [ho, hx, hy, Sem.run_bind, run_eqGuard_agg w .eql t x y xs ys hm, Result.andThen_ok, h, Sem.run_pure]

theorem x_arrayAt {P : Program} {a : Act} {w : World} {o : Oper} {t : TypeId} {x : Operand} {u v : Value} (ho : o.op = .sliceToArrayPointer t x) (hx : a.eval x = u) (h : (Instr.arrayAt t u).run P w = .ok v w) : (execOp a.eval o).run P w = .ok (.value v) w := by
  subst hx
  unfold execOp
  simp only [ho, Sem.run_bind, h, Result.andThen_ok, Sem.run_pure]
def hmac_Verify.f (k : Nat) (l0 l1 : List Int) (l2 : List (List Int)) : Option Bool := if l1.length = 32 then (hmac_Tag.f k l0 l2).bind fun t => (if 32 ≤ t.length then some (decide (l1 = t.take 32)) else none) else some false
theorem hmac_Verify.mono : ∀ a0 a1 a2 k, LeO (hmac_Verify.f k a0 a1 a2) (hmac_Verify.f (k + 1) a0 a1 a2) := by
  intro a0 a1 a2 k
  unfold hmac_Verify.f
  exact LeO.ite (LeO.bind (hmac_Tag.mono _ _ _) (fun _ => LeO.refl _)) (LeO.refl _)
theorem v_info57 : Try.prog.info? 57 = some ((Try.prog.info? 57).getD default) := by kernel_rfl
theorem v_info5 : Try.prog.info? 5 = some ((Try.prog.info? 5).getD default) := by kernel_rfl
set_option maxHeartbeats 400000 in
set_option maxRecDepth 100000 in
theorem hmac_Verify.right (k : Nat) (A0 : Option Addr) (c0 : Nat) (l0 : List Int) (A1 : Option Addr) (c1 : Nat) (l1 : List Int) (P2_ : Nat → Prop) (A2 : Option Addr) (c2 : Nat) (l2 : List (List Int)) (t : List Int) (w : World)
    (hr0 : Kd.C (Kd.int .u8) w A0 l0.length l0) (hc0 : l0.length ≤ c0) (hr1 : Kd.C (Kd.int .u8) w A1 l1.length l1) (hc1 : l1.length ≤ c1) (hs2 : Kd.V (Kd.slice 5 (Kd.int .u8)) 22 w w.heap.size (fun k_ => P2_ k_) (.slice A2 l2.length c2) l2) (h1 : l1.length = 32) (ht : hmac_Tag.f k l0 l2 = some t) (ht3 : 32 ≤ t.length) :
    Calls Try.prog 27 #[.slice A0 l0.length c0, .slice A1 l1.length c1, .slice A2 l2.length c2] w fun e w' => e = .returned (.bool (decide (l1 = t.take 32))) ∧ Below w.heap.size w w' := by
  obtain ⟨ad1, rfl, hrd⟩ := (Kd.reads_of_C (d := (0 : Int)) hr1).2.2 (by omega)
  have HT := Aside0.mk hrd
  have HR0 := Aside0.mk hr0
  have HC0 := Aside0.mk hc0
  have HS2 := Aside0.mk hs2
  have HTAG := Aside0.mk ht
  have HL1 := Aside0.mk (show 32 ≤ l1.length by omega)
  have HL3 := Aside0.mk ht3
  have HT1 := Aside0.mk (show (l1.take 32).length = 32 by rw [List.length_take]; omega)
  have HT3 := Aside0.mk (show (t.take 32).length = 32 by rw [List.length_take]; omega)
  have HE := Aside0.mk (show l1.take 32 = l1 from List.take_of_length_le (by omega))
  have b0 : ((l1.length : Int) != 32) = false := by simp; omega
  have b3 : (32 : Nat) ≤ t.length := ht3
  have b1 : (32 : Nat) ≤ l1.length := by omega
  clear hrd hr0 hc0 hr1 hc1 hs2 ht h1
  go_enter Try.func27, Try.ntmps27
  go_wp2
  refine start_ (n := 10) (S := fun w' => Aside0 (∀ j, j < l1.length → w'.cell? (ad1.add j) = some (.int .u8 (l1.getD j 0))) ∧ Aside0 (Below w.heap.size w w')) (ds := []) #[false, false, false, false, false, false, false, false, false, false] (by kernel_rfl) rfl rfl ⟨⟨fun j hj => HT.out j hj⟩, ⟨below_drew (Below.refl _ _)⟩⟩ (fun hHeld => ?_)
  refine pure_ (i := 0) (N := some 10) (v := ?_) (a' := ?_) #[true, false, false, false, false, false, false, false, false, false] rfl rfl (by kernel_rfl) (fun _ _ _ h => h) (Or.inl ⟨by rfl, ?_⟩) ?_ ?_
  rotate_left
  · intro w'
    go_simp
    with_reducible rfl
  rotate_left
  · simp only [Act.put, List.setIfInBounds_toArray, List.set_cons_zero, List.set_cons_succ, i64_w, i32_w]
    rfl
  refine pure_ (i := 1) (N := some 11) (v := ?_) (a' := ?_) #[true, true, false, false, false, false, false, false, false, false] rfl rfl (by kernel_rfl) (fun _ _ _ h => h) (Or.inl ⟨by rfl, ?_⟩) ?_ ?_
  rotate_left
  · intro w'
    refine (x_arrayAt (u := .slice (some ad1) l1.length c1) rfl rfl (run_arrayAt _ 57 5 32 (some ad1) l1.length c1 Try.underlying57 HL1.out)).trans ?_
    with_reducible rfl
  rotate_left
  · simp only [Act.put, List.setIfInBounds_toArray, List.set_cons_zero, List.set_cons_succ, i64_w, i32_w]
    rfl
  refine pure_ (i := 3) (N := some 13) (v := ?_) (a' := ?_) #[true, true, false, true, false, false, false, false, false, false] rfl rfl (by kernel_rfl) (fun _ _ _ h => h) (Or.inl ⟨by rfl, ?_⟩) ?_ ?_
  rotate_left
  · intro w'
    go_simp
    with_reducible rfl
  rotate_left
  · simp only [Act.put, List.setIfInBounds_toArray, List.set_cons_zero, List.set_cons_succ, i64_w, i32_w]
    rfl
  refine pure_ (i := 4) (N := some 14) (v := ?_) (a' := ?_) #[true, true, false, true, true, false, false, false, false, false] rfl rfl (by kernel_rfl) (fun _ _ _ h => h) (Or.inl ⟨by rfl, ?_⟩) ?_ ?_
  rotate_left
  · intro w'
    go_simp
    with_reducible rfl
  rotate_left
  · simp only [Act.put, List.setIfInBounds_toArray, List.set_cons_zero, List.set_cons_succ, i64_w, i32_w]
    rfl
  refine take_ (i := 2) (N := some 12) (v := ?_) (a' := ?_) #[true, true, true, true, true, false, false, false, false, false] rfl rfl (by kernel_rfl) (fun _ _ _ h => h) (Or.inl ⟨by rfl, ?_⟩) hHeld ?_ ?_
  rotate_left
  · rintro w' ⟨s0, s1⟩
    refine (x_load rfl rfl (v_load Try.prog _ 57 5 _ Try.underlying57 v_info57 rfl ad1 l1 HL1.out s0.out)).trans ?_
    with_reducible rfl
  rotate_left
  · simp only [Act.put, List.setIfInBounds_toArray, List.set_cons_zero, List.set_cons_succ, i64_w, i32_w]
    rfl
  refine one_ (i := 5) (N := some 15) #[true, true, true, true, true, true, false, false, false, false] rfl rfl (by kernel_rfl) (by decide) (fun K hK => ?_)
  refine goes_ Try.func26 (by kernel_rfl) rfl #[.slice A0 l0.length c0, .slice A2 l2.length c2] (by rfl) rfl rfl (by simp only [List.map_toArray, List.map_cons, List.map_nil]; rfl) ?_
  with_reducible refine (hmac_Tag.calls k A0 c0 l0 P2_ A2 c2 l2 t _ (Kd.C_below HR0.out hHeld.2.out) HC0.out (Kd.V_below HS2.out hHeld.2.out) HTAG.out).mono ?_
  rintro e w3 ⟨v3, rfl, hr3, hb3⟩
  obtain ⟨A3, c3, rfl, hc3, hC3⟩ := Kd.R_reads hr3
  obtain ⟨ad3, rfl, hrd3⟩ := (Kd.reads_of_C (d := (0 : Int)) hC3).2.2 (by omega)
  have HRD3 := Aside0.mk hrd3
  clear hrd3 hr3 hc3 hC3
  refine ⟨_, rfl, ?_⟩
  refine hK.out _ _ ⟨⟨fun j hj => q_cell_later hb3 (hHeld.1.out j hj)⟩, ⟨below_step hHeld.2.out hb3⟩⟩ (fun hHeld => ?_)
  clear hK K
  refine norm_ (a' := ?_) ?_ ?_
  rotate_left
  · show Act.put _ (some 15) _ = _
    simp only [Act.put, List.setIfInBounds_toArray, List.set_cons_zero, List.set_cons_succ, i64_w, i32_w]
    rfl
  refine pure_ (i := 6) (N := some 16) (v := ?_) (a' := ?_) #[true, true, true, true, true, true, true, false, false, false] rfl rfl (by kernel_rfl) (fun _ _ _ h => h) (Or.inl ⟨by rfl, ?_⟩) ?_ ?_
  rotate_left
  · intro w'
    refine (x_arrayAt (u := .slice (some ad3) t.length c3) rfl rfl (run_arrayAt _ 57 5 32 (some ad3) t.length c3 Try.underlying57 HL3.out)).trans ?_
    with_reducible rfl
  rotate_left
  · simp only [Act.put, List.setIfInBounds_toArray, List.set_cons_zero, List.set_cons_succ, i64_w, i32_w]
    rfl
  refine one_ (i := 7) (N := some 17) #[true, true, true, true, true, true, true, true, false, false] rfl rfl (by kernel_rfl) (by decide) (fun K hK => ?_)
  refine value_ (w1 := w3) (v := .agg (u8s (t.take 32))) (by rfl) rfl ?_ ?_
  · exact x_load rfl rfl (v_load Try.prog _ 57 5 _ Try.underlying57 v_info57 rfl ad3 t HL3.out HRD3.out)
  refine hK.out _ _ ⟨hHeld.1, hHeld.2⟩ (fun hHeld => ?_)
  clear hK K
  refine norm_ (a' := ?_) ?_ ?_
  rotate_left
  · show Act.put _ (some 17) _ = _
    simp only [Act.put, List.setIfInBounds_toArray, List.set_cons_zero, List.set_cons_succ, i64_w, i32_w]
    rfl
  refine pure_ (i := 8) (N := some 18) (v := ?_) (a' := ?_) #[true, true, true, true, true, true, true, true, true, false] rfl rfl (by kernel_rfl) (fun _ _ _ h => h) (Or.inl ⟨by rfl, ?_⟩) ?_ ?_
  rotate_left
  · intro w'
    refine (x_binOp rfl rfl rfl (by kernel_rfl) (v_eql Try.prog _ 57 5 _ Try.underlying57 Try.underlying5 v_info5 (by kernel_rfl) (l1.take 32) (t.take 32) HT1.out HT3.out)).trans ?_
    with_reducible rfl
  rotate_left
  · simp only [Act.put, List.setIfInBounds_toArray, List.set_cons_zero, List.set_cons_succ, i64_w, i32_w]
    rfl
  refine pure_ (i := 9) (N := some 6) (v := ?_) (a' := ?_) #[true, true, true, true, true, true, true, true, true, true] rfl rfl (by kernel_rfl) (fun _ _ _ h => h) (Or.inl ⟨by rfl, ?_⟩) ?_ ?_
  rotate_left
  · intro w'
    go_simp
    with_reducible rfl
  rotate_left
  · simp only [Act.put, List.setIfInBounds_toArray, List.set_cons_zero, List.set_cons_succ, i64_w, i32_w]
    rfl
  refine done_ (by kernel_rfl) ?_
  go_wp2
  go_ret
  exact ⟨by first | rfl | (rw [HE.out]; rfl), hHeld.2.out⟩
set_option maxHeartbeats 400000 in
theorem hmac_Verify.wrong (A0 : Option Addr) (c0 : Nat) (l0 : List Int) (A1 : Option Addr) (c1 : Nat) (l1 : List Int) (v2 : Value) (w : World) (h1 : ¬ l1.length = 32) :
    Calls Try.prog 27 #[.slice A0 l0.length c0, .slice A1 l1.length c1, v2] w fun e w' => e = .returned (.bool false) ∧ Below w.heap.size w w' := by
  have b0 : ((l1.length : Int) != 32) = true := by simp; omega
  clear h1
  go_enter Try.func27, Try.ntmps27
  go_wp2
  go_ret
  exact ⟨rfl, Below.refl _ _⟩
theorem hmac_Verify.calls (k : Nat) (A0 : Option Addr) (c0 : Nat) (l0 : List Int) (A1 : Option Addr) (c1 : Nat) (l1 : List Int) (P2_ : Nat → Prop) (A2 : Option Addr) (c2 : Nat) (l2 : List (List Int)) (r : Bool) (w : World)
    (hr0 : Kd.C (Kd.int .u8) w A0 l0.length l0) (hc0 : l0.length ≤ c0) (hr1 : Kd.C (Kd.int .u8) w A1 l1.length l1) (hc1 : l1.length ≤ c1) (hs2 : Kd.V (Kd.slice 5 (Kd.int .u8)) 22 w w.heap.size (fun k_ => P2_ k_) (.slice A2 l2.length c2) l2) (h : hmac_Verify.f k l0 l1 l2 = some r) :
    Calls Try.prog 27 #[.slice A0 l0.length c0, .slice A1 l1.length c1, .slice A2 l2.length c2] w fun e w' => e = .returned (.bool r) ∧ Below w.heap.size w w' := by
  unfold hmac_Verify.f at h
  by_cases h1 : l1.length = 32
  · rw [if_pos h1] at h
    obtain ⟨t, ht, h⟩ := Option.bind_eq_some_iff.1 h
    by_cases h3 : 32 ≤ t.length
    · rw [if_pos h3] at h
      obtain rfl := Option.some.inj h
      exact hmac_Verify.right k A0 c0 l0 A1 c1 l1 P2_ A2 c2 l2 t w hr0 hc0 hr1 hc1 hs2 h1 ht h3
    · rw [if_neg h3] at h
      cases h
  · rw [if_neg h1] at h
    obtain rfl := Option.some.inj h
    exact hmac_Verify.wrong A0 c0 l0 A1 c1 l1 _ w h1

end Go.Proofs.Ythhaaagjeifbbaa.Q
