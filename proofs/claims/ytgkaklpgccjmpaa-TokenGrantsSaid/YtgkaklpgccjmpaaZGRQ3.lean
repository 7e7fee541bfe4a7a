/- Lemmas for GR; a slim copy of this session's texts (slim.py). -/
import Derived.Test.YtgkaklpgccjmpaaZGRQ0
import Derived.Test.YtgkaklpgccjmpaaZGRQ2
namespace Go.Proofs.Ytgkaklpgccjmpaa.Q
open Go.RowKit Go.Proofs.YtgkaklpgccjmpaaW.PrintWords Go.Proofs.YtgkaklpgccjmpaaW.PrintLast Go.Proofs.YtgkaklpgccjmpaaW.PrintMore
attribute [local go_sem] max2_int min2_int max_two min_two max_three min_three max_four min_four   
set_option linter.unusedVariables false
set_option linter.unusedSimpArgs false
def sha_K : List Int := [1116352408, 1899447441, 3049323471, 3921009573, 961987163, 1508970993, 2453635748, 2870763221, 3624381080, 310598401, 607225278, 1426881987, 1925078388, 2162078206, 2614888103, 3248222580, 3835390401, 4022224774, 264347078, 604807628, 770255983, 1249150122, 1555081692, 1996064986, 2554220882, 2821834349, 2952996808, 3210313671, 3336571891, 3584528711, 113926993, 338241895, 666307205, 773529912, 1294757372, 1396182291, 1695183700, 1986661051, 2177026350, 2456956037, 2730485921, 2820302411, 3259730800, 3345764771, 3516065817, 3600352804, 4094571909, 275423344, 430227734, 506948616, 659060556, 883997877, 958139571, 1322822218, 1537002063, 1747873779, 1955562222, 2024104815, 2227730452, 2361852424, 2428436474, 2756734187, 3204031479, 3329325298]
def sha_Kv : Array Value := (sha_K.map (Value.int .u32)).toArray
def sha_Z64 : Array Value := (List.replicate 64 (Value.int .u32 0)).toArray
theorem sha_info48 : (Try.prog.info? 88).map (·.size) = some 64 := by kernel_rfl
set_option maxHeartbeats 400000 in
set_option maxRecDepth 100000 in
theorem sha_constants.calls (w : World) : Calls Try.prog 46 #[] w fun e w' => e = .returned (.agg sha_Kv) ∧ Below w.heap.size w w' := by
  go_enter Try.func46, Try.ntmps46
  apply wp_seq_k; intro K0 hK0
  apply wp_region_lit
  refine Great.wpList_allocTo rfl (some 0) rfl (.pointer (some ⟨w.heap.size, 0, none⟩)) (.cells sha_Z64 88) (by kernel_rfl) ?_
  apply wpList_nil; refine hK0 _ _ ?_
  apply wp_seq_k; intro K1 hK1
  apply wp_region_lit
  refine wpList_buildFlatArrTo rfl 88 74 64 _ rfl .u32 sha_K (some 1) rfl Try.underlying88 (by kernel_rfl) (by kernel_rfl) (by kernel_rfl) ?_
  refine wpList_store_rowTo rfl 88 _ _ rfl rfl w.heap.size sha_Kv (by kernel_rfl) (by kernel_rfl) 88 sha_Z64 (heap_alloc_new _ _) (by kernel_rfl) (by kernel_rfl) (by kernel_rfl) ?_
  apply wpList_nil; refine hK1 _ _ ?_
  apply wp_ret
  refine bodyPost_ret (v := .agg sha_Kv) (results_cell_row rfl _ _ w.heap.size 88 sha_Kv (0, 0) _ (by kernel_rfl) (setRow_heap _ _ sha_Z64 _ 88 _ (heap_alloc_new _ _)) Try.underlying88 rfl (by kernel_rfl)) rfl ⟨rfl, ?_⟩
  exact below_setRow (below_alloc (Below.refl _ _) _) (Nat.le_refl _) _
def sha_vals (l : List Int) : Array Value := (l.map (Value.int .u32)).toArray
def sha_w16 (b : List Int) (i : Nat) : Int := ((num_Get.f 5 ((b.take (4 * i + 4)).drop (4 * i))).getD 0) % 4294967296
def sha_sig0 (x : Int) : Int := (sha_turned.f x 7 18 3 true).getD 0
def sha_sig1 (x : Int) : Int := (sha_turned.f x 17 19 10 true).getD 0
def sha_next (w : List Int) (i : Nat) : Int := (((w.getD (i - 16) 0 + sha_sig0 (w.getD (i - 15) 0)) % 4294967296 + w.getD (i - 7) 0) % 4294967296 + sha_sig1 (w.getD (i - 2) 0)) % 4294967296
def sha_schedTo (b : List Int) : Nat → List Int
  | 0 => List.replicate 64 0
  | i + 1 => (sha_schedTo b i).set i (if i < 16 then sha_w16 b i else sha_next (sha_schedTo b i) i)
theorem sha_schedTo_len (b : List Int) (i : Nat) : (sha_schedTo b i).length = 64 := by
  induction i with
  | zero => rfl
  | succ i ih => simp only [sha_schedTo, List.length_set]; exact ih
theorem sha_sig0_eq (x : Int) : sha_turned.f x 7 18 3 true = some (sha_sig0 x) := by kernel_rfl
theorem sha_sig1_eq (x : Int) : sha_turned.f x 17 19 10 true = some (sha_sig1 x) := by kernel_rfl
theorem sha_get4 (l : List Int) (h : l.length = 4) : num_Get.f 5 l = some ((num_Get.f 5 l).getD 0) := by
  obtain ⟨a, b, c, d, rfl⟩ : ∃ a b c d, l = [a, b, c, d] := by
    match l, h with
    | [a, b, c, d], _ => exact ⟨a, b, c, d, rfl⟩
  clear h
  kernel_rfl
theorem sha_vals_one (l : List Int) : (sha_vals l).all (·.oneCell') = true := by simp [sha_vals, Value.oneCell']
theorem sha_vals_size (l : List Int) : (sha_vals l).size = l.length := by simp [sha_vals]
theorem sha_vals_get (l : List Int) (i : Nat) (h : i < l.length) : (sha_vals l)[i]? = some (.int .u32 (l.getD i 0)) := by
  simp [sha_vals, List.getElem?_eq_getElem h]
theorem sha_vals_set (l : List Int) (i : Nat) (x : Int) : (sha_vals l).setIfInBounds i (.int .u32 x) = sha_vals (l.set i x) := by
  simp [sha_vals, List.map_set]
theorem sha_cell {w : World} {B : Nat} {l : List Int} {t : TypeId} (h : w.heap[B]? = some (.cells (sha_vals l) t)) (i : Nat) (hi : i < l.length) : w.cell? ⟨B, i, none⟩ = some (.int .u32 (l.getD i 0)) := by
  rw [cell_of_row w B i _ t _ h, sha_vals_get l i hi]
theorem sha_get4_calls (A0 : Option Addr) (c0 : Nat) (l0 : List Int) (i : Nat) (w : World) (hr0 : Kd.C (Kd.int .u8) w A0 l0.length l0) (hc0 : l0.length ≤ c0) (hl : l0.length = 64) (hi : i < 16) :
    Calls Try.prog 26 #[.slice (Option.map (fun x => x.add (4 * i)) A0) 4 (c0 - 4 * i)] w fun e w' => e = .returned (.int .u64 ((num_Get.f 5 ((l0.take (4 * i + 4)).drop (4 * i))).getD 0)) ∧ Drawn0 w w' := by
  have hlen : ((l0.take (4 * i + 4)).drop (4 * i)).length = 4 := by rw [List.length_drop, List.length_take]; omega
  have hm := Kd.C_mid (lo := 4 * i) (hi := 4 * i + 4) hr0 (by omega) (by omega) hc0
  rw [if_neg (by omega)] at hm
  have hz := num_Get.calls 5 _ (c0 - 4 * i) _ _ w hm (by omega) (sha_get4 _ hlen)
  rw [hlen] at hz
  simpa [Kd.int, Kd.scalar] using hz
theorem sha_put {w : World} {B i : Nat} {l l' : List Int} {t : TypeId} {x : Int} (h : w.heap[B]? = some (.cells (sha_vals l) t)) (hl : l.set i x = l') : (w.setCell ⟨B, i, none⟩ (.int .u32 x)).heap[B]? = some (.cells (sha_vals l') t) := by
  rw [← hl, ← sha_vals_set]; exact heap_setCell_same w B i _ t _ h
theorem sha_far {w : World} {B i k : Nat} {v : Value} {o : Obj} (h : w.heap[k]? = some o) (hk : k ≠ B) : (w.setCell ⟨B, i, none⟩ v).heap[k]? = some o := by
  rw [heap_setCell_other w ⟨B, i, none⟩ k v hk]; exact h
set_option maxHeartbeats 400000 in
set_option maxRecDepth 100000 in
theorem sha_schedule.calls (A0 : Option Addr) (c0 : Nat) (l0 : List Int) (w : World) (hr0 : Kd.C (Kd.int .u8) w A0 l0.length l0) (hc0 : l0.length ≤ c0) (hl : l0.length = 64) :
    Calls Try.prog 47 #[.slice A0 l0.length c0] w fun e w' => e = .returned (.agg (sha_vals (sha_schedTo l0 64))) ∧ Below w.heap.size w w' := by
  have HL := Aside0.mk hl
  have HR0 := Aside0.mk hr0
  have HC0 := Aside0.mk hc0
  clear hl hr0 hc0
  go_enter Try.func47, Try.ntmps47
  apply wp_seq_k; intro K0 hK0
  apply wp_region_lit
  refine Great.wpList_allocTo rfl (some 2) rfl (.pointer (some ⟨w.heap.size, 0, none⟩)) (.cells sha_Z64 88) (by kernel_rfl) ?_
  apply wpList_nil; refine hK0 _ _ ?_; clear hK0 K0
  apply wp_seq_k; intro K0 hK0
  apply wp_region_lit
  refine Great.wpList_allocTo rfl (some 3) rfl (.pointer (some ⟨(w.alloc (.cells sha_Z64 88)).heap.size, 0, none⟩)) (.cells sha_Z64 88) (by kernel_rfl) ?_
  apply wpList_nil; refine hK0 _ _ ?_; clear hK0 K0
  obtain ⟨W, hW⟩ : ∃ W, W = (w.alloc (.cells sha_Z64 88)).alloc (.cells sha_Z64 88) := ⟨_, rfl⟩
  obtain ⟨B, hB⟩ : ∃ B, B = (w.alloc (.cells sha_Z64 88)).heap.size := ⟨_, rfl⟩
  rw [← hW, ← hB]
  have hb1 : B = w.heap.size + 1 := by rw [hB]; simp
  have H2 := Aside0.mk (show W.heap[w.heap.size]? = some (.cells sha_Z64 88) by rw [hW]; exact heap_alloc2_old _ _ _)
  have H3 := Aside0.mk (show W.heap[B]? = some (.cells sha_Z64 88) by rw [hW, hb1]; exact heap_alloc2_new _ _ _)
  have HBel := Aside0.mk (show Below w.heap.size w W by rw [hW]; exact below_alloc (below_alloc (Below.refl _ _) _) _)
  have HB1 := Aside0.mk hb1
  clear hW hB hb1
  go_wp2
  go_loopw [4, 5] (fun v4 v5 wr => ∃ i : Nat, v5 = .int .i64 i ∧ Aside0 (i ≤ 64) ∧ Aside0 (wr.heap[B]? = some (.cells (sha_vals (sha_schedTo l0 i)) 88)) ∧ Aside0 (wr.heap[w.heap.size]? = some (.cells sha_Z64 88)) ∧ Aside0 (Below w.heap.size w wr)) (fun _ v5 _ => (64 - (intOf v5).toNat))
  case atStart => exact ⟨0, rfl, ⟨by omega⟩, H3, H2, HBel⟩
  case round =>
    clear H2 H3 HBel
    obtain ⟨i, rfl, Hi, H3, H2, HBel⟩ := hrel
    have hl0 := HL.out
    have hc0 := HC0.out
    have hi := Hi.out
    by_cases hlt : i < 64
    · by_cases h16 : i < 16
      · have HQ := Aside0.mk (sha_get4_calls A0 c0 l0 i wr (Kd.C_below HR0.out HBel.out) HC0.out HL.out h16)
        have hg1 : 4 * i + 4 ≤ c0 := by omega
        have HSz := Aside0.mk hl0
        have hcell := sha_cell (l := sha_schedTo l0 i) H3.out i (by rw [sha_schedTo_len]; omega)
        have hfro := frozen_of_row wr B i _ 88 H3.out
        clear hl0
        go_wp2_with (go_at_call 26; refine (HQ.out).mono ?_; rintro e w' ⟨rfl, ⟨nd, rfl⟩⟩)
        go_roundw
        case rel => exact ⟨i + 1, by go_num, ⟨by omega⟩, ⟨sha_put (w := wr.drewN nd) H3.out (by simp [sha_schedTo, h16, sha_w16])⟩, ⟨sha_far (w := wr.drewN nd) H2.out (by have := HB1.out; omega)⟩, ⟨(pw_below_drewN HBel.out nd).setCell (by show w.heap.size ≤ B; have := HB1.out; omega) _⟩⟩
        case measure => simp [intOf]; omega
      · have hge : 16 ≤ i := by omega
        obtain ⟨j16, hj16⟩ : ∃ j : Nat, i - 16 = j := ⟨_, rfl⟩
        have e16 : wrap64 (↑i - 16) = (j16 : Int) := by unfold wrap64; omega
        have g16 : (j16 : Int) < 64 := by omega
        have p16 : (0 : Int) ≤ (j16 : Int) := by omega
        have hk16 := sha_cell (l := sha_schedTo l0 i) H3.out j16 (by rw [sha_schedTo_len]; omega)
        have HJ16 := Aside0.mk hj16
        clear hj16
        obtain ⟨j15, hj15⟩ : ∃ j : Nat, i - 15 = j := ⟨_, rfl⟩
        have e15 : wrap64 (↑i - 15) = (j15 : Int) := by unfold wrap64; omega
        have g15 : (j15 : Int) < 64 := by omega
        have p15 : (0 : Int) ≤ (j15 : Int) := by omega
        have hk15 := sha_cell (l := sha_schedTo l0 i) H3.out j15 (by rw [sha_schedTo_len]; omega)
        have HJ15 := Aside0.mk hj15
        clear hj15
        obtain ⟨j7, hj7⟩ : ∃ j : Nat, i - 7 = j := ⟨_, rfl⟩
        have e7 : wrap64 (↑i - 7) = (j7 : Int) := by unfold wrap64; omega
        have g7 : (j7 : Int) < 64 := by omega
        have p7 : (0 : Int) ≤ (j7 : Int) := by omega
        have hk7 := sha_cell (l := sha_schedTo l0 i) H3.out j7 (by rw [sha_schedTo_len]; omega)
        have HJ7 := Aside0.mk hj7
        clear hj7
        obtain ⟨j2, hj2⟩ : ∃ j : Nat, i - 2 = j := ⟨_, rfl⟩
        have e2 : wrap64 (↑i - 2) = (j2 : Int) := by unfold wrap64; omega
        have g2 : (j2 : Int) < 64 := by omega
        have p2 : (0 : Int) ≤ (j2 : Int) := by omega
        have hk2 := sha_cell (l := sha_schedTo l0 i) H3.out j2 (by rw [sha_schedTo_len]; omega)
        have HJ2 := Aside0.mk hj2
        clear hj2
        have hki := sha_cell (l := sha_schedTo l0 i) H3.out i (by rw [sha_schedTo_len]; omega)
        have hfr := frozen_of_row wr B i _ 88 H3.out
        have gi : (i : Int) < 64 := by omega
        have pi : (0 : Int) ≤ (i : Int) := by omega
        clear hl0 hc0
        go_wp2
        refine start_ (n := 24) (S := fun w' => w'.cell? ⟨B, j16, none⟩ = some (.int .u32 ((sha_schedTo l0 i).getD (j16) 0)) ∧ w'.cell? ⟨B, j15, none⟩ = some (.int .u32 ((sha_schedTo l0 i).getD (j15) 0)) ∧ w'.cell? ⟨B, j7, none⟩ = some (.int .u32 ((sha_schedTo l0 i).getD (j7) 0)) ∧ w'.cell? ⟨B, j2, none⟩ = some (.int .u32 ((sha_schedTo l0 i).getD (j2) 0)) ∧ w'.cell? ⟨B, i, none⟩ = some (.int .u32 ((sha_schedTo l0 i).getD (i) 0)) ∧ w'.frozen? ⟨B, i, none⟩ = false ∧ Aside0 (w'.heap[B]? = some (.cells (sha_vals (sha_schedTo l0 i)) 88)) ∧ Aside0 (w'.heap[w.heap.size]? = some (.cells sha_Z64 88)) ∧ Aside0 (Below w.heap.size w w')) (ds := [23]) #[false, false, false, false, false, false, false, false, false, false, false, false, false, false, false, false, false, false, false, false, false, false, false, false] (by kernel_rfl) rfl rfl ⟨hk16, hk15, hk7, hk2, hki, hfr, H3, H2, ⟨below_drew HBel.out⟩⟩ (fun hHeld => ?_)
        refine pure_ (i := 0) (N := some 21) (v := ?_) (a' := ?_) #[true, false, false, false, false, false, false, false, false, false, false, false, false, false, false, false, false, false, false, false, false, false, false, false] rfl rfl (by kernel_rfl) (fun _ _ _ h => h) (Or.inl ⟨by rfl, ?_⟩) ?_ ?_
        rotate_left
        · intro w'
          go_simp
          with_reducible rfl
        rotate_left
        · simp only [Act.put, List.setIfInBounds_toArray, List.set_cons_zero, List.set_cons_succ, i64_w, i32_w]
          rfl
        refine pure_ (i := 1) (N := some 22) (v := ?_) (a' := ?_) #[true, true, false, false, false, false, false, false, false, false, false, false, false, false, false, false, false, false, false, false, false, false, false, false] rfl rfl (by kernel_rfl) (fun _ _ _ h => h) (Or.inl ⟨by rfl, ?_⟩) ?_ ?_
        rotate_left
        · intro w'
          go_simp
          with_reducible rfl
        rotate_left
        · simp only [Act.put, List.setIfInBounds_toArray, List.set_cons_zero, List.set_cons_succ, i64_w, i32_w]
          rfl
        refine pure_ (i := 2) (N := some 23) (v := ?_) (a' := ?_) #[true, true, true, false, false, false, false, false, false, false, false, false, false, false, false, false, false, false, false, false, false, false, false, false] rfl rfl (by kernel_rfl) (fun _ _ _ h => h) (Or.inl ⟨by rfl, ?_⟩) ?_ ?_
        rotate_left
        · intro w'
          go_simp
          with_reducible rfl
        rotate_left
        · simp only [Act.put, List.setIfInBounds_toArray, List.set_cons_zero, List.set_cons_succ, i64_w, i32_w]
          rfl
        refine pure_ (i := 3) (N := some 24) (v := ?_) (a' := ?_) #[true, true, true, true, false, false, false, false, false, false, false, false, false, false, false, false, false, false, false, false, false, false, false, false] rfl rfl (by kernel_rfl) (fun _ _ _ h => h) (Or.inl ⟨by rfl, ?_⟩) ?_ ?_
        rotate_left
        · intro w'
          go_simp
          with_reducible rfl
        rotate_left
        · simp only [Act.put, List.setIfInBounds_toArray, List.set_cons_zero, List.set_cons_succ, i64_w, i32_w]
          rfl
        refine pure_ (i := 5) (N := some 26) (v := ?_) (a' := ?_) #[true, true, true, true, false, true, false, false, false, false, false, false, false, false, false, false, false, false, false, false, false, false, false, false] rfl rfl (by kernel_rfl) (fun _ _ _ h => h) (Or.inl ⟨by rfl, ?_⟩) ?_ ?_
        rotate_left
        · intro w'
          go_simp
          with_reducible rfl
        rotate_left
        · simp only [Act.put, List.setIfInBounds_toArray, List.set_cons_zero, List.set_cons_succ, i64_w, i32_w]
          rfl
        refine pure_ (i := 6) (N := some 27) (v := ?_) (a' := ?_) #[true, true, true, true, false, true, true, false, false, false, false, false, false, false, false, false, false, false, false, false, false, false, false, false] rfl rfl (by kernel_rfl) (fun _ _ _ h => h) (Or.inl ⟨by rfl, ?_⟩) ?_ ?_
        rotate_left
        · intro w'
          go_simp
          with_reducible rfl
        rotate_left
        · simp only [Act.put, List.setIfInBounds_toArray, List.set_cons_zero, List.set_cons_succ, i64_w, i32_w]
          rfl
        refine pure_ (i := 7) (N := some 28) (v := ?_) (a' := ?_) #[true, true, true, true, false, true, true, true, false, false, false, false, false, false, false, false, false, false, false, false, false, false, false, false] rfl rfl (by kernel_rfl) (fun _ _ _ h => h) (Or.inl ⟨by rfl, ?_⟩) ?_ ?_
        rotate_left
        · intro w'
          go_simp
          with_reducible rfl
        rotate_left
        · simp only [Act.put, List.setIfInBounds_toArray, List.set_cons_zero, List.set_cons_succ, i64_w, i32_w]
          rfl
        refine pure_ (i := 11) (N := some 32) (v := ?_) (a' := ?_) #[true, true, true, true, false, true, true, true, false, false, false, true, false, false, false, false, false, false, false, false, false, false, false, false] rfl rfl (by kernel_rfl) (fun _ _ _ h => h) (Or.inl ⟨by rfl, ?_⟩) ?_ ?_
        rotate_left
        · intro w'
          go_simp
          with_reducible rfl
        rotate_left
        · simp only [Act.put, List.setIfInBounds_toArray, List.set_cons_zero, List.set_cons_succ, i64_w, i32_w]
          rfl
        refine pure_ (i := 12) (N := some 33) (v := ?_) (a' := ?_) #[true, true, true, true, false, true, true, true, false, false, false, true, true, false, false, false, false, false, false, false, false, false, false, false] rfl rfl (by kernel_rfl) (fun _ _ _ h => h) (Or.inl ⟨by rfl, ?_⟩) ?_ ?_
        rotate_left
        · intro w'
          go_simp
          with_reducible rfl
        rotate_left
        · simp only [Act.put, List.setIfInBounds_toArray, List.set_cons_zero, List.set_cons_succ, i64_w, i32_w]
          rfl
        refine pure_ (i := 13) (N := some 34) (v := ?_) (a' := ?_) #[true, true, true, true, false, true, true, true, false, false, false, true, true, true, false, false, false, false, false, false, false, false, false, false] rfl rfl (by kernel_rfl) (fun _ _ _ h => h) (Or.inl ⟨by rfl, ?_⟩) ?_ ?_
        rotate_left
        · intro w'
          go_simp
          with_reducible rfl
        rotate_left
        · simp only [Act.put, List.setIfInBounds_toArray, List.set_cons_zero, List.set_cons_succ, i64_w, i32_w]
          rfl
        refine pure_ (i := 16) (N := some 37) (v := ?_) (a' := ?_) #[true, true, true, true, false, true, true, true, false, false, false, true, true, true, false, false, true, false, false, false, false, false, false, false] rfl rfl (by kernel_rfl) (fun _ _ _ h => h) (Or.inl ⟨by rfl, ?_⟩) ?_ ?_
        rotate_left
        · intro w'
          go_simp
          with_reducible rfl
        rotate_left
        · simp only [Act.put, List.setIfInBounds_toArray, List.set_cons_zero, List.set_cons_succ, i64_w, i32_w]
          rfl
        refine pure_ (i := 17) (N := some 38) (v := ?_) (a' := ?_) #[true, true, true, true, false, true, true, true, false, false, false, true, true, true, false, false, true, true, false, false, false, false, false, false] rfl rfl (by kernel_rfl) (fun _ _ _ h => h) (Or.inl ⟨by rfl, ?_⟩) ?_ ?_
        rotate_left
        · intro w'
          go_simp
          with_reducible rfl
        rotate_left
        · simp only [Act.put, List.setIfInBounds_toArray, List.set_cons_zero, List.set_cons_succ, i64_w, i32_w]
          rfl
        refine pure_ (i := 18) (N := some 39) (v := ?_) (a' := ?_) #[true, true, true, true, false, true, true, true, false, false, false, true, true, true, false, false, true, true, true, false, false, false, false, false] rfl rfl (by kernel_rfl) (fun _ _ _ h => h) (Or.inl ⟨by rfl, ?_⟩) ?_ ?_
        rotate_left
        · intro w'
          go_simp
          with_reducible rfl
        rotate_left
        · simp only [Act.put, List.setIfInBounds_toArray, List.set_cons_zero, List.set_cons_succ, i64_w, i32_w]
          rfl
        refine take_ (i := 4) (N := some 25) (v := ?_) (a' := ?_) #[true, true, true, true, true, true, true, true, false, false, false, true, true, true, false, false, true, true, true, false, false, false, false, false] rfl rfl (by kernel_rfl) (fun _ _ _ h => h) (Or.inl ⟨by rfl, ?_⟩) hHeld ?_ ?_
        rotate_left
        · rintro w' ⟨s0, s1, s2, s3, s4, s5, s6, s7, s8⟩
          go_simp
          with_reducible rfl
        rotate_left
        · simp only [Act.put, List.setIfInBounds_toArray, List.set_cons_zero, List.set_cons_succ, i64_w, i32_w]
          rfl
        refine take_ (i := 8) (N := some 29) (v := ?_) (a' := ?_) #[true, true, true, true, true, true, true, true, true, false, false, true, true, true, false, false, true, true, true, false, false, false, false, false] rfl rfl (by kernel_rfl) (fun _ _ _ h => h) (Or.inl ⟨by rfl, ?_⟩) hHeld ?_ ?_
        rotate_left
        · rintro w' ⟨s0, s1, s2, s3, s4, s5, s6, s7, s8⟩
          go_simp
          with_reducible rfl
        rotate_left
        · simp only [Act.put, List.setIfInBounds_toArray, List.set_cons_zero, List.set_cons_succ, i64_w, i32_w]
          rfl
        refine take_ (i := 14) (N := some 35) (v := ?_) (a' := ?_) #[true, true, true, true, true, true, true, true, true, false, false, true, true, true, true, false, true, true, true, false, false, false, false, false] rfl rfl (by kernel_rfl) (fun _ _ _ h => h) (Or.inl ⟨by rfl, ?_⟩) hHeld ?_ ?_
        rotate_left
        · rintro w' ⟨s0, s1, s2, s3, s4, s5, s6, s7, s8⟩
          go_simp
          with_reducible rfl
        rotate_left
        · simp only [Act.put, List.setIfInBounds_toArray, List.set_cons_zero, List.set_cons_succ, i64_w, i32_w]
          rfl
        refine take_ (i := 19) (N := some 40) (v := ?_) (a' := ?_) #[true, true, true, true, true, true, true, true, true, false, false, true, true, true, true, false, true, true, true, true, false, false, false, false] rfl rfl (by kernel_rfl) (fun _ _ _ h => h) (Or.inl ⟨by rfl, ?_⟩) hHeld ?_ ?_
        rotate_left
        · rintro w' ⟨s0, s1, s2, s3, s4, s5, s6, s7, s8⟩
          go_simp
          with_reducible rfl
        rotate_left
        · simp only [Act.put, List.setIfInBounds_toArray, List.set_cons_zero, List.set_cons_succ, i64_w, i32_w]
          rfl
        refine one_ (i := 9) (N := some 30) #[true, true, true, true, true, true, true, true, true, true, false, true, true, true, true, false, true, true, true, true, false, false, false, false] rfl rfl (by kernel_rfl) (by decide) (fun K hK => ?_)
        refine goes_ Try.func48 (by kernel_rfl) rfl #[.int .u32 ((sha_schedTo l0 i).getD (j15) 0), .int .i64 7, .int .i64 18, .int .i64 3, .bool true] (by rfl) rfl rfl (by simp only [List.map_toArray, List.map_cons, List.map_nil]; rfl) ?_
        with_reducible refine (sha_turned.calls _ _ _ _ _ _ _ (sha_sig0_eq ((sha_schedTo l0 i).getD (j15) 0))).mono ?_
        rintro e w3 ⟨rfl, ⟨nd, rfl⟩⟩
        refine ⟨_, rfl, ?_⟩
        refine hK.out _ _ ⟨hHeld.1, hHeld.2.1, hHeld.2.2.1, hHeld.2.2.2.1, hHeld.2.2.2.2.1, hHeld.2.2.2.2.2.1, hHeld.2.2.2.2.2.2.1, hHeld.2.2.2.2.2.2.2.1, ⟨pw_below_drewN (hHeld.2.2.2.2.2.2.2.2).out nd⟩⟩ (fun hHeld => ?_)
        clear hK K
        refine norm_ (a' := ?_) ?_ ?_
        rotate_left
        · show Act.put _ (some 30) _ = _
          simp only [Act.put, List.setIfInBounds_toArray, List.set_cons_zero, List.set_cons_succ, i64_w, i32_w]
          rfl
        refine pure_ (i := 10) (N := some 31) (v := ?_) (a' := ?_) #[true, true, true, true, true, true, true, true, true, true, true, true, true, true, true, false, true, true, true, true, false, false, false, false] rfl rfl (by kernel_rfl) (fun _ _ _ h => h) (Or.inl ⟨by rfl, ?_⟩) ?_ ?_
        rotate_left
        · intro w'
          go_simp
          with_reducible rfl
        rotate_left
        · simp only [Act.put, List.setIfInBounds_toArray, List.set_cons_zero, List.set_cons_succ, i64_w, i32_w]
          rfl
        refine pure_ (i := 15) (N := some 36) (v := ?_) (a' := ?_) #[true, true, true, true, true, true, true, true, true, true, true, true, true, true, true, true, true, true, true, true, false, false, false, false] rfl rfl (by kernel_rfl) (fun _ _ _ h => h) (Or.inl ⟨by rfl, ?_⟩) ?_ ?_
        rotate_left
        · intro w'
          go_simp
          with_reducible rfl
        rotate_left
        · simp only [Act.put, List.setIfInBounds_toArray, List.set_cons_zero, List.set_cons_succ, i64_w, i32_w]
          rfl
        refine one_ (i := 20) (N := some 41) #[true, true, true, true, true, true, true, true, true, true, true, true, true, true, true, true, true, true, true, true, true, false, false, false] rfl rfl (by kernel_rfl) (by decide) (fun K hK => ?_)
        refine goes_ Try.func48 (by kernel_rfl) rfl #[.int .u32 ((sha_schedTo l0 i).getD (j2) 0), .int .i64 17, .int .i64 19, .int .i64 10, .bool true] (by rfl) rfl rfl (by simp only [List.map_toArray, List.map_cons, List.map_nil]; rfl) ?_
        with_reducible refine (sha_turned.calls _ _ _ _ _ _ _ (sha_sig1_eq ((sha_schedTo l0 i).getD (j2) 0))).mono ?_
        rintro e w3 ⟨rfl, ⟨nd, rfl⟩⟩
        refine ⟨_, rfl, ?_⟩
        refine hK.out _ _ ⟨hHeld.1, hHeld.2.1, hHeld.2.2.1, hHeld.2.2.2.1, hHeld.2.2.2.2.1, hHeld.2.2.2.2.2.1, hHeld.2.2.2.2.2.2.1, hHeld.2.2.2.2.2.2.2.1, ⟨pw_below_drewN (hHeld.2.2.2.2.2.2.2.2).out nd⟩⟩ (fun hHeld => ?_)
        clear hK K
        refine norm_ (a' := ?_) ?_ ?_
        rotate_left
        · show Act.put _ (some 41) _ = _
          simp only [Act.put, List.setIfInBounds_toArray, List.set_cons_zero, List.set_cons_succ, i64_w, i32_w]
          rfl
        refine pure_ (i := 21) (N := some 42) (v := ?_) (a' := ?_) #[true, true, true, true, true, true, true, true, true, true, true, true, true, true, true, true, true, true, true, true, true, true, false, false] rfl rfl (by kernel_rfl) (fun _ _ _ h => h) (Or.inl ⟨by rfl, ?_⟩) ?_ ?_
        rotate_left
        · intro w'
          go_simp
          with_reducible rfl
        rotate_left
        · simp only [Act.put, List.setIfInBounds_toArray, List.set_cons_zero, List.set_cons_succ, i64_w, i32_w]
          rfl
        refine pure_ (i := 22) (N := some 43) (v := ?_) (a' := ?_) #[true, true, true, true, true, true, true, true, true, true, true, true, true, true, true, true, true, true, true, true, true, true, true, false] rfl rfl (by kernel_rfl) (fun _ _ _ h => h) (Or.inl ⟨by rfl, ?_⟩) ?_ ?_
        rotate_left
        · intro w'
          go_simp
          with_reducible rfl
        rotate_left
        · simp only [Act.put, List.setIfInBounds_toArray, List.set_cons_zero, List.set_cons_succ, i64_w, i32_w]
          rfl
        refine last_ (i := 23) (N := none) #[true, true, true, true, true, true, true, true, true, true, true, true, true, true, true, true, true, true, true, true, true, true, true, true] rfl rfl (by kernel_rfl) (by decide) (fun K hK => ?_)
        refine skip_ (w1 := ?_) (by rfl) rfl ?_ ?_
        rotate_left
        · go_simp
          rfl
        refine hK.out _ _ ?_
        clear hK K
        refine done_ (by kernel_rfl) ?_
        have hB := HB1.out
        have hBl : w.heap.size ≤ B := by omega
        have hBn : w.heap.size ≠ B := by omega
        clear hB
        go_wp2
        go_roundw
        case rel => exact ⟨i + 1, by go_num, ⟨by omega⟩, ⟨sha_put (w := wr.drewN _) H3.out (by simp only [sha_schedTo, if_neg h16, sha_next, HJ16.out, HJ15.out, HJ7.out, HJ2.out, List.getD_eq_getElem?_getD])⟩, ⟨sha_far (w := wr.drewN _) H2.out hBn⟩, ⟨(pw_below_drewN HBel.out _).setCell hBl _⟩⟩
        case measure => simp [intOf]; omega
    · obtain rfl : i = 64 := by omega
      clear hl0 hc0 hi hlt
      have hsz : (Try.prog.info? 88).map (·.size) = some (sha_vals (sha_schedTo l0 64)).size := by rw [sha_vals_size, sha_schedTo_len]; exact sha_info48
      have hs2 : sha_Z64.size = (sha_vals (sha_schedTo l0 64)).size := by rw [sha_vals_size, sha_schedTo_len]; kernel_rfl
      have hone : (sha_vals (sha_schedTo l0 64)).all (·.oneCell') = true := sha_vals_one _
      have HSZ := Aside0.mk hsz
      have HS2 := Aside0.mk hs2
      have HONE := Aside0.mk hone
      clear hsz hs2 hone
      go_wp2_with (first | (refine wpList_load_row rfl 88 _ rfl B rfl 88 _ (0, 0) _ H3.out Try.underlying88 rfl HSZ.out ?_) | (refine wpList_store_row rfl 88 _ _ rfl w.heap.size (sha_vals (sha_schedTo l0 64)) rfl rfl 88 sha_Z64 H2.out HSZ.out HS2.out HONE.out ?_))
      refine bodyPost_ret (v := .agg (sha_vals (sha_schedTo l0 64))) (results_cell_row rfl _ _ w.heap.size 88 (sha_vals (sha_schedTo l0 64)) (0, 0) _ rfl (setRow_heap _ _ sha_Z64 _ 88 _ H2.out) Try.underlying88 rfl HSZ.out) rfl ⟨rfl, ?_⟩
      exact below_setRow HBel.out (Nat.le_refl _) _
def sha_sig2 (x : Int) : Int := (sha_turned.f x 6 11 25 false).getD 0
def sha_sig3 (x : Int) : Int := (sha_turned.f x 2 13 22 false).getD 0
theorem sha_sig2_eq (x : Int) : sha_turned.f x 6 11 25 false = some (sha_sig2 x) := by kernel_rfl
theorem sha_sig3_eq (x : Int) : sha_turned.f x 2 13 22 false = some (sha_sig3 x) := by kernel_rfl
def sha_choice (s4 s5 s6 : Int) : Int := Go.bits .xor .u32 (Go.bits .and .u32 s4 s5) (Go.bits .andNot .u32 s6 s4)
def sha_most (s0 s1 s2 : Int) : Int := Go.bits .xor .u32 (Go.bits .xor .u32 (Go.bits .and .u32 s0 s1) (Go.bits .and .u32 s0 s2)) (Go.bits .and .u32 s1 s2)
def sha_step (k w : Int) : List Int → List Int
  | [s0, s1, s2, s3, s4, s5, s6, s7] =>
    [(s7 + sha_sig2 s4 + sha_choice s4 s5 s6 + k + w + (sha_sig3 s0 + sha_most s0 s1 s2)) % 4294967296, s0, s1, s2,
     (s3 + (s7 + sha_sig2 s4 + sha_choice s4 s5 s6 + k + w)) % 4294967296, s4, s5, s6]
  | _ => []
def sha_rounds (ws s : List Int) : Nat → List Int
  | 0 => s
  | i + 1 => sha_step (sha_K.getD i 0) (ws.getD i 0) (sha_rounds ws s i)
theorem sha_step_eight (k w : Int) (s : List Int) (h : s.length = 8) : (sha_step k w s).length = 8 := by
  match s, h with
  | [s0, s1, s2, s3, s4, s5, s6, s7], _ => rfl
theorem sha_rounds_eight (ws s : List Int) (h : s.length = 8) (i : Nat) : (sha_rounds ws s i).length = 8 := by
  induction i with
  | zero => exact h
  | succ i ih => exact sha_step_eight _ _ _ ih
theorem sha_R {w : World} {base g : Nat} {l : List Int} (h : w.heap[g]? = some (.cells (sha_vals l) 74)) (hb : base ≤ g) (hl : l.length ≤ maxLen) : Kd.R (Kd.int .u32) 74 w base (fun _ => True) (.slice (some ⟨g, 0, none⟩) l.length l.length) l := by
  refine ⟨fun _ _ => trivial, l.map (Value.int .u32), ⟨by simp [Kd.int, Kd.scalar], .inr ⟨g, l.length, sha_vals l, rfl, hb, h, Nat.le_refl _, hl, by simp [sha_vals, Kd.int, Kd.scalar], (by simp [sha_vals, Kd.int, Kd.scalar]; exact List.take_of_length_le (by simp))⟩⟩, ?_⟩
  refine ⟨by simp [Kd.int, Kd.scalar], fun j p hj => ?_⟩
  show ((l.map (Value.int .u32)).drop (j * 1)).take 1 = [Value.int .u32 p]
  rw [Nat.mul_one]
  obtain ⟨hjl, rfl⟩ := List.getElem?_eq_some_iff.1 hj
  rw [List.drop_eq_getElem_cons (by simpa using hjl)]
  simp
def sha_Z8 : List Int := List.replicate 8 0
def sha_outTo (state s : List Int) : Nat → List Int
  | 0 => sha_Z8
  | j + 1 => (sha_outTo state s j).set j ((state.getD j 0 + s.getD j 0) % 4294967296)
theorem sha_outTo_len (state s : List Int) (j : Nat) : (sha_outTo state s j).length = 8 := by
  induction j with
  | zero => rfl
  | succ j ih => simp only [sha_outTo, List.length_set]; exact ih
def sha_block (state b : List Int) : List Int := sha_outTo state (sha_rounds (sha_schedTo b 64) state 64) 8
def sha_Block.f (l0 l1 : List Int) : Option (List Int) := if l0.length = 8 ∧ l1.length = 64 then some (sha_block l0 l1) else some []
theorem sha_eight (s : List Int) (h : s.length = 8) : ∃ s0 s1 s2 s3 s4 s5 s6 s7, s = [s0, s1, s2, s3, s4, s5, s6, s7] := by
  match s, h with
  | [s0, s1, s2, s3, s4, s5, s6, s7], _ => exact ⟨_, _, _, _, _, _, _, _, rfl⟩
theorem sha_row_cell {w : World} {g : Nat} {cs : Array Value} {t : TypeId} {v : Value} (h : w.heap[g]? = some (.cells cs t)) (j : Nat) (hj : cs[j]? = some v) : w.cell? ⟨g, j, none⟩ = some v := by
  rw [cell_of_row w g j cs t _ h, hj]
theorem sha_schedule.calls64 (A0 : Option Addr) (c0 : Nat) (l0 : List Int) (w : World) (hr0 : Kd.C (Kd.int .u8) w A0 l0.length l0) (hc0 : l0.length ≤ c0) (hl : l0.length = 64) :
    Calls Try.prog 47 #[.slice A0 64 c0] w fun e w' => e = .returned (.agg (sha_vals (sha_schedTo l0 64))) ∧ Below w.heap.size w w' := by
  have h := sha_schedule.calls A0 c0 l0 w hr0 hc0 hl
  rw [hl] at h
  exact h
theorem sha_Kv_info : (Try.prog.info? 88).map (·.size) = some sha_Kv.size := by kernel_rfl
theorem sha_Kv_z : sha_Z64.size = sha_Kv.size := by kernel_rfl
theorem sha_Kv_one : sha_Kv.all (·.oneCell') = true := by kernel_rfl
theorem sha_after {w W1 W2 W3 W4 W5 : World} {KB WB : Nat} {s0 : List Int} (HB1 : Below w.heap.size w W1) (HS1 : W1.heap[w.heap.size]? = some (.cells (sha_vals s0) 87)) (HZ1 : W1.heap.size = w.heap.size + 1)
    (HB2 : Below W1.heap.size W1 W2) (HB3 : Below W2.heap.size W2 W3) (HKB : KB = W3.heap.size) (HWB : WB = (W3.alloc (.cells sha_Z64 88)).heap.size)
    (HO4 : ∀ k o, k ≠ KB → ((W3.alloc (.cells sha_Z64 88)).alloc (.cells sha_Z64 88)).heap[k]? = some o → W4.heap[k]? = some o) (HK4 : W4.heap[KB]? = some (.cells sha_Kv 88))
    (HB4 : ∀ B w0, B ≤ KB → Below B w0 ((W3.alloc (.cells sha_Z64 88)).alloc (.cells sha_Z64 88)) → Below B w0 W4) (HO5 : ∀ k o, k ≠ WB → W4.heap[k]? = some o → W5.heap[k]? = some o)
    (HB5 : ∀ B w0, B ≤ WB → Below B w0 W4 → Below B w0 W5) :
    w.heap.size < KB ∧ KB < WB ∧ W5.heap[w.heap.size]? = some (.cells (sha_vals s0) 87) ∧ W5.heap[KB]? = some (.cells sha_Kv 88) ∧ Below w.heap.size w W5 := by
  have z2 := HB2.size
  have z3 := HB3.size
  have hw : WB = W3.heap.size + 1 := by rw [HWB]; simp
  have h3 : W3.heap[w.heap.size]? = some (.cells (sha_vals s0) 87) := q_heap_later HB3 (q_heap_later HB2 HS1)
  have h4 : ((W3.alloc (.cells sha_Z64 88)).alloc (.cells sha_Z64 88)).heap[w.heap.size]? = some (.cells (sha_vals s0) 87) := by
    rw [heap_alloc_old _ _ (by simp; omega), heap_alloc_old _ _ (by omega)]; exact h3
  refine ⟨by omega, by omega, HO5 _ _ (by omega) (HO4 _ _ (by omega) h4), HO5 _ _ (by omega) HK4, HB5 _ _ (by omega) (HB4 _ _ (by omega) (below_alloc (below_alloc (below_step (below_step HB1 HB2) HB3) _) _))⟩
set_option maxHeartbeats 1000000 in
set_option maxRecDepth 100000 in
theorem sha_Block.yes (A0 : Option Addr) (c0 : Nat) (l0 : List Int) (A1 : Option Addr) (c1 : Nat) (l1 : List Int) (w : World)
    (hr0 : Kd.C (Kd.int .u32) w A0 l0.length l0) (hc0 : l0.length ≤ c0) (hr1 : Kd.C (Kd.int .u8) w A1 l1.length l1) (hc1 : l1.length ≤ c1) (hl0 : l0.length = 8) (hl1 : l1.length = 64) :
    Calls Try.prog 41 #[.slice A0 l0.length c0, .slice A1 l1.length c1] w fun e w' => ∃ v0_ : Value, e = .returned v0_ ∧ Kd.R (Kd.int .u32) 74 w' w.heap.size (fun _ => True) v0_ (sha_block l0 l1) ∧ Below w.heap.size w w' := by
  have HR0 := Aside0.mk hr0
  have HC1 := Aside0.mk hc1
  have HR1 := Aside0.mk hr1
  obtain ⟨ad0, rfl, hrd⟩ := (Kd.reads_of_C (d := (0 : Int)) hr0).2.2 (by omega)
  have HRD := Aside0.mk hrd
  have HL0 := Aside0.mk hl0
  have HL1 := Aside0.mk hl1
  clear hr0 hr1 hrd hc0 hc1
  have HSRC := Aside0.mk (show ∀ (o : Obj) (j : Nat) (v : Value), (l0.map (Value.int .u32))[j]? = some v → (w.alloc o).cell? (ad0.add j) = some v by
    intro o j v hj
    obtain ⟨hjl, rfl⟩ := List.getElem?_eq_some_iff.1 hj
    have hjl' : j < l0.length := by simpa using hjl
    rw [q_cell_later (below_alloc (Below.refl _ _) _) (HRD.out j hjl')]
    simp [List.getD_eq_getElem?_getD, List.getElem?_eq_getElem hjl'])
  have HONE := Aside0.mk (show ∀ v ∈ l0.map (Value.int .u32), v.oneCell' = true by
    intro v hv; obtain ⟨z, _, rfl⟩ := List.mem_map.1 hv; rfl)
  have HMIN := Aside0.mk (show (l0.map (Value.int .u32)).length = Nat.min l0.length 8 by simp [hl0])
  have HEI := Aside0.mk (show (l0.map (Value.int .u32)).length = 8 by simp [hl0])
  have HSZ := Aside0.mk (show (Try.prog.info? 88).map (·.size) = some (sha_vals (sha_schedTo l1 64)).size by rw [sha_vals_size, sha_schedTo_len]; exact sha_info48)
  have HS2 := Aside0.mk (show sha_Z64.size = (sha_vals (sha_schedTo l1 64)).size by rw [sha_vals_size, sha_schedTo_len]; kernel_rfl)
  have HONE2 := Aside0.mk (sha_vals_one (sha_schedTo l1 64))
  go_enter Try.func41, Try.ntmps41
  go_wp2_with (refine q_copy_whole (B := w.heap.size) (w0 := w) rfl (.tmp 23) (.tmp 24) 71 71 rfl 74 Try.underlying71 (by kernel_rfl) w.heap.size 8 8 ad0 l0.length c0 rfl rfl _ 87 (heap_alloc_new _ _) (l0.map (Value.int .u32)) HMIN.out (HSRC.out _) HEI.out HONE.out (below_alloc (Below.refl _ _) _) (Nat.le_refl _) ?_; intro W1 hS1 hb1 hz1)
  have HS1 := Aside0.mk (show W1.heap[w.heap.size]? = some (.cells (sha_vals l0) 87) from hS1)
  have HB1 := Aside0.mk hb1
  have hz : W1.heap.size = w.heap.size + 1 := by rw [hz1]; simp
  have HZ1 := Aside0.mk hz
  clear hS1 hb1 hz1 hz
  go_wp2_with (go_at_call 46; refine (sha_constants.calls _).mono ?_; rintro e W2 ⟨rfl, hb2⟩)
  have HB2 := Aside0.mk hb2
  clear hb2
  go_wp2_with (first | (go_at_call 47; refine (sha_schedule.calls64 A1 c1 l1 W2 (Kd.C_below HR1.out (below_step HB1.out HB2.out)) HC1.out HL1.out).mono ?_; rintro e W3 ⟨rfl, hb3⟩; have HB3 := Aside0.mk hb3; clear hb3; obtain ⟨KB, hKB⟩ : ∃ n, n = W3.heap.size := ⟨_, rfl⟩; obtain ⟨WB, hWB⟩ : ∃ n, n = (W3.alloc (.cells sha_Z64 88)).heap.size := ⟨_, rfl⟩; have HKB := Aside0.mk hKB; have HWB := Aside0.mk hWB; clear hKB hWB) | (refine q_alloc rfl (some 6) rfl KB HKB.out (.cells sha_Z64 88) (by kernel_rfl) ?_) | (refine q_alloc rfl (some 7) rfl WB HWB.out (.cells sha_Z64 88) (by kernel_rfl) ?_) | ((with_reducible refine gate_store (t := 88) (p := 6) rfl ?_); refine q_store_whole rfl 88 (.tmp 6) (.tmp 26) rfl KB sha_Kv rfl rfl 88 sha_Z64 (by rw [HKB.out]; exact heap_alloc2_old _ _ _) sha_Kv_info sha_Kv_z sha_Kv_one ?_; intro W4 hK4 hO4 hZ4 hB4; have HK4 := Aside0.mk hK4; have HO4 := Aside0.mk hO4; have HZ4 := Aside0.mk hZ4; have HB4 := Aside0.mk hB4; clear hK4 hO4 hZ4 hB4) | ((with_reducible refine gate_store (t := 88) (p := 7) rfl ?_); refine q_store_whole rfl 88 (.tmp 7) (.tmp 28) rfl WB (sha_vals (sha_schedTo l1 64)) rfl rfl 88 sha_Z64 (HO4.out _ _ (by rw [HKB.out, HWB.out]; simp) (by rw [HWB.out]; exact heap_alloc_new _ _)) HSZ.out HS2.out HONE2.out ?_; intro W5 hK5 hO5 hZ5 hB5; have HK5 := Aside0.mk hK5; have HO5 := Aside0.mk hO5; have HZ5 := Aside0.mk hZ5; have HB5 := Aside0.mk hB5; clear hK5 hO5 hZ5 hB5))
  obtain ⟨hwk, hkw, hs5, hk5, hbel5⟩ := sha_after HB1.out HS1.out HZ1.out HB2.out HB3.out HKB.out HWB.out HO4.out HK4.out HB4.out HO5.out HB5.out
  have HS := Aside0.mk hs5
  have HK := Aside0.mk hk5
  have HW := HK5
  have HBel := Aside0.mk hbel5
  clear hs5 hk5 hbel5 HK5 HB5 HO5 HZ5 HB4 HO4 HK4 HZ4 HWB HKB HB3 HB2 HB1 HS1 HZ1 HSZ HS2 HONE2 HMIN HEI HONE HSRC
  go_loopw [29] (fun v29 wr => ∃ i : Nat, v29 = .int .i64 i ∧ Aside0 (i ≤ 64) ∧ Aside0 (wr.heap[w.heap.size]? = some (.cells (sha_vals (sha_rounds (sha_schedTo l1 64) l0 i)) 87)) ∧ Aside0 (wr.heap[KB]? = some (.cells sha_Kv 88)) ∧ Aside0 (wr.heap[WB]? = some (.cells (sha_vals (sha_schedTo l1 64)) 88)) ∧ Aside0 (Below w.heap.size w wr)) (fun v29 _ => (64 - (intOf v29).toNat))
  case atStart => exact ⟨0, rfl, ⟨by omega⟩, HS, HK, HW, HBel⟩
  case round =>
    clear HS HK HW HBel
    obtain ⟨i, rfl, Hi, HS, HK, HW, HBel⟩ := hrel
    have hi := Hi.out
    by_cases hlt : i < 64
    · obtain ⟨s0, s1, s2, s3, s4, s5, s6, s7, hs⟩ := sha_eight _ (sha_rounds_eight (sha_schedTo l1 64) l0 hl0 i)
      rw [hs] at HS
      have hc0 : wr.cell? ⟨w.heap.size, 0, none⟩ = some (.int .u32 s0) := sha_row_cell HS.out 0 rfl
      have hc1 : wr.cell? ⟨w.heap.size, 1, none⟩ = some (.int .u32 s1) := sha_row_cell HS.out 1 rfl
      have hc2 : wr.cell? ⟨w.heap.size, 2, none⟩ = some (.int .u32 s2) := sha_row_cell HS.out 2 rfl
      have hc3 : wr.cell? ⟨w.heap.size, 3, none⟩ = some (.int .u32 s3) := sha_row_cell HS.out 3 rfl
      have hc4 : wr.cell? ⟨w.heap.size, 4, none⟩ = some (.int .u32 s4) := sha_row_cell HS.out 4 rfl
      have hc5 : wr.cell? ⟨w.heap.size, 5, none⟩ = some (.int .u32 s5) := sha_row_cell HS.out 5 rfl
      have hc6 : wr.cell? ⟨w.heap.size, 6, none⟩ = some (.int .u32 s6) := sha_row_cell HS.out 6 rfl
      have hc7 : wr.cell? ⟨w.heap.size, 7, none⟩ = some (.int .u32 s7) := sha_row_cell HS.out 7 rfl
      obtain ⟨ki, hki⟩ : ∃ x, x = sha_K.getD i 0 := ⟨_, rfl⟩
      obtain ⟨wi, hwi⟩ : ∃ x, x = (sha_schedTo l1 64).getD i 0 := ⟨_, rfl⟩
      have hck : wr.cell? ⟨KB, i, none⟩ = some (.int .u32 ki) := by rw [hki]; exact sha_cell (l := sha_K) HK.out i (by show i < 64; exact hlt)
      have hcw : wr.cell? ⟨WB, i, none⟩ = some (.int .u32 wi) := by rw [hwi]; exact sha_cell (l := sha_schedTo l1 64) HW.out i (by rw [sha_schedTo_len]; exact hlt)
      have HKI := Aside0.mk hki
      have HWI := Aside0.mk hwi
      have HSS := Aside0.mk hs
      have gi : (i : Int) < 64 := by omega
      have pi : (0 : Int) ≤ (i : Int) := by omega
      clear hki hwi hs hl0 hl1
      go_wp2
      refine start_ (n := 17) (S := fun w' => w'.cell? ⟨w.heap.size, 7, none⟩ = some (.int .u32 s7) ∧ w'.cell? ⟨w.heap.size, 4, none⟩ = some (.int .u32 s4) ∧ w'.cell? ⟨KB, i, none⟩ = some (.int .u32 ki) ∧ w'.cell? ⟨WB, i, none⟩ = some (.int .u32 wi) ∧ Aside0 (SameHeap wr w') ∧ Aside0 (Below w.heap.size w w')) (ds := []) #[false, false, false, false, false, false, false, false, false, false, false, false, false, false, false, false, false] (by kernel_rfl) rfl rfl ⟨hc7, hc4, hck, hcw, ⟨SameHeap.drew _⟩, ⟨below_drew HBel.out⟩⟩ (fun hHeld => ?_)
      refine pure_ (i := 0) (N := some 60) (v := ?_) (a' := ?_) #[true, false, false, false, false, false, false, false, false, false, false, false, false, false, false, false, false] rfl rfl (by kernel_rfl) (fun _ _ _ h => h) (Or.inl ⟨by rfl, ?_⟩) ?_ ?_
      rotate_left
      · intro w'
        go_simp
        with_reducible rfl
      rotate_left
      · simp only [Act.put, List.setIfInBounds_toArray, List.set_cons_zero, List.set_cons_succ, i64_w, i32_w]
        rfl
      refine pure_ (i := 2) (N := some 62) (v := ?_) (a' := ?_) #[true, false, true, false, false, false, false, false, false, false, false, false, false, false, false, false, false] rfl rfl (by kernel_rfl) (fun _ _ _ h => h) (Or.inl ⟨by rfl, ?_⟩) ?_ ?_
      rotate_left
      · intro w'
        go_simp
        with_reducible rfl
      rotate_left
      · simp only [Act.put, List.setIfInBounds_toArray, List.set_cons_zero, List.set_cons_succ, i64_w, i32_w]
        rfl
      refine pure_ (i := 6) (N := some 66) (v := ?_) (a' := ?_) #[true, false, true, false, false, false, true, false, false, false, false, false, false, false, false, false, false] rfl rfl (by kernel_rfl) (fun _ _ _ h => h) (Or.inl ⟨by rfl, ?_⟩) ?_ ?_
      rotate_left
      · intro w'
        go_simp
        with_reducible rfl
      rotate_left
      · simp only [Act.put, List.setIfInBounds_toArray, List.set_cons_zero, List.set_cons_succ, i64_w, i32_w]
        rfl
      refine pure_ (i := 8) (N := some 68) (v := ?_) (a' := ?_) #[true, false, true, false, false, false, true, false, true, false, false, false, false, false, false, false, false] rfl rfl (by kernel_rfl) (fun _ _ _ h => h) (Or.inl ⟨by rfl, ?_⟩) ?_ ?_
      rotate_left
      · intro w'
        go_simp
        with_reducible rfl
      rotate_left
      · simp only [Act.put, List.setIfInBounds_toArray, List.set_cons_zero, List.set_cons_succ, i64_w, i32_w]
        rfl
      refine pure_ (i := 9) (N := some 69) (v := ?_) (a' := ?_) #[true, false, true, false, false, false, true, false, true, true, false, false, false, false, false, false, false] rfl rfl (by kernel_rfl) (fun _ _ _ h => h) (Or.inl ⟨by rfl, ?_⟩) ?_ ?_
      rotate_left
      · intro w'
        go_simp
        with_reducible rfl
      rotate_left
      · simp only [Act.put, List.setIfInBounds_toArray, List.set_cons_zero, List.set_cons_succ, i64_w, i32_w]
        rfl
      refine pure_ (i := 12) (N := some 72) (v := ?_) (a' := ?_) #[true, false, true, false, false, false, true, false, true, true, false, false, true, false, false, false, false] rfl rfl (by kernel_rfl) (fun _ _ _ h => h) (Or.inl ⟨by rfl, ?_⟩) ?_ ?_
      rotate_left
      · intro w'
        go_simp
        with_reducible rfl
      rotate_left
      · simp only [Act.put, List.setIfInBounds_toArray, List.set_cons_zero, List.set_cons_succ, i64_w, i32_w]
        rfl
      refine pure_ (i := 13) (N := some 73) (v := ?_) (a' := ?_) #[true, false, true, false, false, false, true, false, true, true, false, false, true, true, false, false, false] rfl rfl (by kernel_rfl) (fun _ _ _ h => h) (Or.inl ⟨by rfl, ?_⟩) ?_ ?_
      rotate_left
      · intro w'
        go_simp
        with_reducible rfl
      rotate_left
      · simp only [Act.put, List.setIfInBounds_toArray, List.set_cons_zero, List.set_cons_succ, i64_w, i32_w]
        rfl
      refine take_ (i := 1) (N := some 61) (v := ?_) (a' := ?_) #[true, true, true, false, false, false, true, false, true, true, false, false, true, true, false, false, false] rfl rfl (by kernel_rfl) (fun _ _ _ h => h) (Or.inl ⟨by rfl, ?_⟩) hHeld ?_ ?_
      rotate_left
      · rintro w' ⟨s0, s1, s2, s3, s4, s5⟩
        go_simp
        with_reducible rfl
      rotate_left
      · simp only [Act.put, List.setIfInBounds_toArray, List.set_cons_zero, List.set_cons_succ, i64_w, i32_w]
        rfl
      refine take_ (i := 3) (N := some 63) (v := ?_) (a' := ?_) #[true, true, true, true, false, false, true, false, true, true, false, false, true, true, false, false, false] rfl rfl (by kernel_rfl) (fun _ _ _ h => h) (Or.inl ⟨by rfl, ?_⟩) hHeld ?_ ?_
      rotate_left
      · rintro w' ⟨s0, s1, s2, s3, s4, s5⟩
        go_simp
        with_reducible rfl
      rotate_left
      · simp only [Act.put, List.setIfInBounds_toArray, List.set_cons_zero, List.set_cons_succ, i64_w, i32_w]
        rfl
      refine take_ (i := 10) (N := some 70) (v := ?_) (a' := ?_) #[true, true, true, true, false, false, true, false, true, true, true, false, true, true, false, false, false] rfl rfl (by kernel_rfl) (fun _ _ _ h => h) (Or.inl ⟨by rfl, ?_⟩) hHeld ?_ ?_
      rotate_left
      · rintro w' ⟨s0, s1, s2, s3, s4, s5⟩
        go_simp
        with_reducible rfl
      rotate_left
      · simp only [Act.put, List.setIfInBounds_toArray, List.set_cons_zero, List.set_cons_succ, i64_w, i32_w]
        rfl
      refine take_ (i := 14) (N := some 74) (v := ?_) (a' := ?_) #[true, true, true, true, false, false, true, false, true, true, true, false, true, true, true, false, false] rfl rfl (by kernel_rfl) (fun _ _ _ h => h) (Or.inl ⟨by rfl, ?_⟩) hHeld ?_ ?_
      rotate_left
      · rintro w' ⟨s0, s1, s2, s3, s4, s5⟩
        go_simp
        with_reducible rfl
      rotate_left
      · simp only [Act.put, List.setIfInBounds_toArray, List.set_cons_zero, List.set_cons_succ, i64_w, i32_w]
        rfl
      refine one_ (i := 4) (N := some 64) #[true, true, true, true, true, false, true, false, true, true, true, false, true, true, true, false, false] rfl rfl (by kernel_rfl) (by decide) (fun K hK => ?_)
      refine goes_ Try.func48 (by kernel_rfl) rfl #[.int .u32 s4, .int .i64 6, .int .i64 11, .int .i64 25, .bool false] (by rfl) rfl rfl (by simp only [List.map_toArray, List.map_cons, List.map_nil]; rfl) ?_
      with_reducible refine (sha_turned.calls _ _ _ _ _ _ _ (sha_sig2_eq s4)).mono ?_
      rintro e w3 ⟨rfl, ⟨nd, rfl⟩⟩
      refine ⟨_, rfl, ?_⟩
      refine hK.out _ _ ⟨hHeld.1, hHeld.2.1, hHeld.2.2.1, hHeld.2.2.2.1, ⟨(hHeld.2.2.2.2.1).out.drewN nd⟩, ⟨pw_below_drewN (hHeld.2.2.2.2.2).out nd⟩⟩ (fun hHeld => ?_)
      clear hK K
      refine norm_ (a' := ?_) ?_ ?_
      rotate_left
      · show Act.put _ (some 64) _ = _
        simp only [Act.put, List.setIfInBounds_toArray, List.set_cons_zero, List.set_cons_succ, i64_w, i32_w]
        rfl
      refine pure_ (i := 5) (N := some 65) (v := ?_) (a' := ?_) #[true, true, true, true, true, true, true, false, true, true, true, false, true, true, true, false, false] rfl rfl (by kernel_rfl) (fun _ _ _ h => h) (Or.inl ⟨by rfl, ?_⟩) ?_ ?_
      rotate_left
      · intro w'
        go_simp
        with_reducible rfl
      rotate_left
      · simp only [Act.put, List.setIfInBounds_toArray, List.set_cons_zero, List.set_cons_succ, i64_w, i32_w]
        rfl
      refine pure_ (i := 7) (N := some 67) (v := ?_) (a' := ?_) #[true, true, true, true, true, true, true, true, true, true, true, false, true, true, true, false, false] rfl rfl (by kernel_rfl) (fun _ _ _ h => h) (Or.inl ⟨by rfl, ?_⟩) ?_ ?_
      rotate_left
      · intro w'
        go_simp
        with_reducible rfl
      rotate_left
      · simp only [Act.put, List.setIfInBounds_toArray, List.set_cons_zero, List.set_cons_succ, i64_w, i32_w]
        rfl
      refine pure_ (i := 11) (N := some 71) (v := ?_) (a' := ?_) #[true, true, true, true, true, true, true, true, true, true, true, true, true, true, true, false, false] rfl rfl (by kernel_rfl) (fun _ _ _ h => h) (Or.inl ⟨by rfl, ?_⟩) ?_ ?_
      rotate_left
      · intro w'
        go_simp
        with_reducible rfl
      rotate_left
      · simp only [Act.put, List.setIfInBounds_toArray, List.set_cons_zero, List.set_cons_succ, i64_w, i32_w]
        rfl
      refine pure_ (i := 15) (N := some 75) (v := ?_) (a' := ?_) #[true, true, true, true, true, true, true, true, true, true, true, true, true, true, true, true, false] rfl rfl (by kernel_rfl) (fun _ _ _ h => h) (Or.inl ⟨by rfl, ?_⟩) ?_ ?_
      rotate_left
      · intro w'
        go_simp
        with_reducible rfl
      rotate_left
      · simp only [Act.put, List.setIfInBounds_toArray, List.set_cons_zero, List.set_cons_succ, i64_w, i32_w]
        rfl
      refine pure_ (i := 16) (N := some 11) (v := ?_) (a' := ?_) #[true, true, true, true, true, true, true, true, true, true, true, true, true, true, true, true, true] rfl rfl (by kernel_rfl) (fun _ _ _ h => h) (Or.inl ⟨by rfl, ?_⟩) ?_ ?_
      rotate_left
      · intro w'
        go_simp
        with_reducible rfl
      rotate_left
      · simp only [Act.put, List.setIfInBounds_toArray, List.set_cons_zero, List.set_cons_succ, i64_w, i32_w]
        rfl
      refine done_ (by kernel_rfl) ?_
      go_wp2_with (first | (go_at_call 48; refine (sha_turned.calls _ _ _ _ _ _ _ (sha_sig3_eq s0)).mono ?_; rintro e w9 ⟨rfl, ⟨nd2, rfl⟩⟩) | ((with_reducible refine gate_store (t := 87) (p := 5) rfl ?_); refine q_store_whole rfl 87 (.tmp 5) (.tmp 100) rfl w.heap.size _ rfl rfl 87 _ HS.out (by kernel_rfl) (by kernel_rfl) (by kernel_rfl) ?_; intro W6 hS6 hO6 hZ6 hB6; have HS6 := Aside0.mk hS6; have HO6 := Aside0.mk hO6; have HB6 := Aside0.mk hB6; clear hS6 hO6 hZ6 hB6))
      have e6 : W6.heap[w.heap.size]? = some (.cells (sha_vals (sha_rounds (sha_schedTo l1 64) l0 (i + 1))) 87) := by
        rw [show sha_rounds (sha_schedTo l1 64) l0 (i + 1) = sha_step ki wi [s0, s1, s2, s3, s4, s5, s6, s7] from by rw [HKI.out, HWI.out, ← HSS.out]; rfl]
        exact HS6.out
      have n1 : KB ≠ w.heap.size := by omega
      have n2 : WB ≠ w.heap.size := by omega
      go_roundw
      case rel => exact ⟨i + 1, by go_num, ⟨by omega⟩, ⟨e6⟩, ⟨HO6.out _ _ n1 HK.out⟩, ⟨HO6.out _ _ n2 HW.out⟩, ⟨HB6.out _ _ (Nat.le_refl _) (pw_below_drewN HBel.out _)⟩⟩
      case measure => simp [intOf]; omega
    · obtain rfl : i = 64 := by omega
      clear hi hlt HK HW
      obtain ⟨sf, hsf⟩ : ∃ x, x = sha_rounds (sha_schedTo l1 64) l0 64 := ⟨_, rfl⟩
      have hsl : sf.length = 8 := by rw [hsf]; exact sha_rounds_eight _ _ hl0 64
      have HSF := Aside0.mk hsf
      rw [← hsf] at HS
      have HSL := Aside0.mk hsl
      obtain ⟨OB, hOB⟩ : ∃ n, n = wr.heap.size := ⟨_, rfl⟩
      have HOB := Aside0.mk hOB
      have hbig : w.heap.size < OB := by rw [hOB]; exact (Array.getElem?_eq_some_iff.1 HS.out).1
      clear hsf hOB hsl
      go_wp2_with (refine q_make rfl (some 102) rfl OB 8 HOB.out (.cells (sha_vals sha_Z8) 74) (by kernel_rfl) ?_)
      obtain ⟨W7, hW7⟩ : ∃ W, W = wr.alloc (.cells (sha_vals sha_Z8) 74) := ⟨_, rfl⟩
      rw [← hW7]
      have HS7 := Aside0.mk (show W7.heap[w.heap.size]? = some (.cells (sha_vals sf) 87) by rw [hW7, heap_alloc_old _ _ (by rw [← HOB.out]; exact hbig)]; exact HS.out)
      have HO7 := Aside0.mk (show W7.heap[OB]? = some (.cells (sha_vals (sha_outTo l0 sf 0)) 74) by rw [hW7, HOB.out]; exact heap_alloc_new _ _)
      have HB7 := Aside0.mk (show Below w.heap.size w W7 by rw [hW7]; exact below_alloc HBel.out _)
      clear hW7 HS HBel HOB
      go_loopw [105] (fun v105 wr => ∃ j : Nat, v105 = .int .i64 j ∧ Aside0 (j ≤ 8) ∧ Aside0 (wr.heap[w.heap.size]? = some (.cells (sha_vals sf) 87)) ∧ Aside0 (wr.heap[OB]? = some (.cells (sha_vals (sha_outTo l0 sf j)) 74)) ∧ Aside0 (Below w.heap.size w wr)) (fun v105 _ => (8 - (intOf v105).toNat))
      case atStart => exact ⟨0, rfl, ⟨by omega⟩, HS7, HO7, HB7⟩
      case round =>
        clear HS7 HO7 HB7
        obtain ⟨j, rfl, Hj, HS, HO, HBel⟩ := hrel
        have hj := Hj.out
        by_cases hlt : j < 8
        · obtain ⟨xj, hxj⟩ : ∃ x, x = l0.getD j 0 := ⟨_, rfl⟩
          obtain ⟨sj, hsj⟩ : ∃ x, x = sf.getD j 0 := ⟨_, rfl⟩
          obtain ⟨zj, hzj⟩ : ∃ x, x = (sha_outTo l0 sf j).getD j 0 := ⟨_, rfl⟩
          have hcx : wr.cell? (ad0.add j) = some (.int .u32 xj) := by rw [hxj]; exact q_cell_later HBel.out (HRD.out j (by rw [HL0.out]; exact hlt))
          have hcs : wr.cell? ⟨w.heap.size, j, none⟩ = some (.int .u32 sj) := by rw [hsj]; exact sha_cell (l := sf) HS.out j (by rw [HSL.out]; exact hlt)
          have hcz : wr.cell? ⟨OB, j, none⟩ = some (.int .u32 zj) := by rw [hzj]; exact sha_cell (l := sha_outTo l0 sf j) HO.out j (by rw [sha_outTo_len]; exact hlt)
          have hfz := frozen_of_row wr OB j _ 74 HO.out
          have HX := Aside0.mk (show sha_outTo l0 sf (j + 1) = (sha_outTo l0 sf j).set j ((xj + sj) % 4294967296) by rw [hxj, hsj]; rfl)
          clear hxj hsj hzj
          have gj : (j : Int) < 8 := by omega
          have pj : (0 : Int) ≤ (j : Int) := by omega
          clear hl0 hl1
          go_wp2
          refine start_ (n := 12) (S := fun w' => w'.cell? (ad0.add j) = some (.int .u32 xj) ∧ w'.cell? ⟨w.heap.size, j, none⟩ = some (.int .u32 sj) ∧ w'.cell? ⟨OB, j, none⟩ = some (.int .u32 zj) ∧ w'.frozen? ⟨OB, j, none⟩ = false) (ds := [11]) #[false, false, false, false, false, false, false, false, false, false, false, false] (by kernel_rfl) rfl rfl ⟨hcx, hcs, hcz, hfz⟩ (fun hHeld => ?_)
          refine pure_ (i := 0) (N := some 108) (v := ?_) (a' := ?_) #[true, false, false, false, false, false, false, false, false, false, false, false] rfl rfl (by kernel_rfl) (fun _ _ _ h => h) (Or.inl ⟨by rfl, ?_⟩) ?_ ?_
          rotate_left
          · intro w'
            go_simp
            with_reducible rfl
          rotate_left
          · simp only [Act.put, List.setIfInBounds_toArray, List.set_cons_zero, List.set_cons_succ, i64_w, i32_w]
            rfl
          refine pure_ (i := 1) (N := some 109) (v := ?_) (a' := ?_) #[true, true, false, false, false, false, false, false, false, false, false, false] rfl rfl (by kernel_rfl) (fun _ _ _ h => h) (Or.inl ⟨by rfl, ?_⟩) ?_ ?_
          rotate_left
          · intro w'
            go_simp
            with_reducible rfl
          rotate_left
          · simp only [Act.put, List.setIfInBounds_toArray, List.set_cons_zero, List.set_cons_succ, i64_w, i32_w]
            rfl
          refine pure_ (i := 2) (N := some 110) (v := ?_) (a' := ?_) #[true, true, true, false, false, false, false, false, false, false, false, false] rfl rfl (by kernel_rfl) (fun _ _ _ h => h) (Or.inl ⟨by rfl, ?_⟩) ?_ ?_
          rotate_left
          · intro w'
            go_simp
            with_reducible rfl
          rotate_left
          · simp only [Act.put, List.setIfInBounds_toArray, List.set_cons_zero, List.set_cons_succ, i64_w, i32_w]
            rfl
          refine pure_ (i := 3) (N := some 111) (v := ?_) (a' := ?_) #[true, true, true, true, false, false, false, false, false, false, false, false] rfl rfl (by kernel_rfl) (fun _ _ _ h => h) (Or.inl ⟨by rfl, ?_⟩) ?_ ?_
          rotate_left
          · intro w'
            go_simp
            with_reducible rfl
          rotate_left
          · simp only [Act.put, List.setIfInBounds_toArray, List.set_cons_zero, List.set_cons_succ, i64_w, i32_w]
            rfl
          refine pure_ (i := 4) (N := some 112) (v := ?_) (a' := ?_) #[true, true, true, true, true, false, false, false, false, false, false, false] rfl rfl (by kernel_rfl) (fun _ _ _ h => h) (Or.inl ⟨by rfl, ?_⟩) ?_ ?_
          rotate_left
          · intro w'
            go_simp
            with_reducible rfl
          rotate_left
          · simp only [Act.put, List.setIfInBounds_toArray, List.set_cons_zero, List.set_cons_succ, i64_w, i32_w]
            rfl
          refine pure_ (i := 6) (N := some 114) (v := ?_) (a' := ?_) #[true, true, true, true, true, false, true, false, false, false, false, false] rfl rfl (by kernel_rfl) (fun _ _ _ h => h) (Or.inl ⟨by rfl, ?_⟩) ?_ ?_
          rotate_left
          · intro w'
            go_simp
            with_reducible rfl
          rotate_left
          · simp only [Act.put, List.setIfInBounds_toArray, List.set_cons_zero, List.set_cons_succ, i64_w, i32_w]
            rfl
          refine pure_ (i := 7) (N := some 115) (v := ?_) (a' := ?_) #[true, true, true, true, true, false, true, true, false, false, false, false] rfl rfl (by kernel_rfl) (fun _ _ _ h => h) (Or.inl ⟨by rfl, ?_⟩) ?_ ?_
          rotate_left
          · intro w'
            go_simp
            with_reducible rfl
          rotate_left
          · simp only [Act.put, List.setIfInBounds_toArray, List.set_cons_zero, List.set_cons_succ, i64_w, i32_w]
            rfl
          refine take_ (i := 5) (N := some 113) (v := ?_) (a' := ?_) #[true, true, true, true, true, true, true, true, false, false, false, false] rfl rfl (by kernel_rfl) (fun _ _ _ h => h) (Or.inl ⟨by rfl, ?_⟩) hHeld ?_ ?_
          rotate_left
          · rintro w' ⟨s0, s1, s2, s3⟩
            go_simp
            with_reducible rfl
          rotate_left
          · simp only [Act.put, List.setIfInBounds_toArray, List.set_cons_zero, List.set_cons_succ, i64_w, i32_w]
            rfl
          refine take_ (i := 8) (N := some 116) (v := ?_) (a' := ?_) #[true, true, true, true, true, true, true, true, true, false, false, false] rfl rfl (by kernel_rfl) (fun _ _ _ h => h) (Or.inl ⟨by rfl, ?_⟩) hHeld ?_ ?_
          rotate_left
          · rintro w' ⟨s0, s1, s2, s3⟩
            go_simp
            with_reducible rfl
          rotate_left
          · simp only [Act.put, List.setIfInBounds_toArray, List.set_cons_zero, List.set_cons_succ, i64_w, i32_w]
            rfl
          refine pure_ (i := 9) (N := some 117) (v := ?_) (a' := ?_) #[true, true, true, true, true, true, true, true, true, true, false, false] rfl rfl (by kernel_rfl) (fun _ _ _ h => h) (Or.inl ⟨by rfl, ?_⟩) ?_ ?_
          rotate_left
          · intro w'
            go_simp
            with_reducible rfl
          rotate_left
          · simp only [Act.put, List.setIfInBounds_toArray, List.set_cons_zero, List.set_cons_succ, i64_w, i32_w]
            rfl
          refine pure_ (i := 10) (N := some 118) (v := ?_) (a' := ?_) #[true, true, true, true, true, true, true, true, true, true, true, false] rfl rfl (by kernel_rfl) (fun _ _ _ h => h) (Or.inl ⟨by rfl, ?_⟩) ?_ ?_
          rotate_left
          · intro w'
            go_simp
            with_reducible rfl
          rotate_left
          · simp only [Act.put, List.setIfInBounds_toArray, List.set_cons_zero, List.set_cons_succ, i64_w, i32_w]
            rfl
          refine last_ (i := 11) (N := none) #[true, true, true, true, true, true, true, true, true, true, true, true] rfl rfl (by kernel_rfl) (by decide) (fun K hK => ?_)
          refine skip_ (w1 := ?_) (by rfl) rfl ?_ ?_
          rotate_left
          · go_simp
            rfl
          refine hK.out _ _ ?_
          clear hK K
          refine done_ (by kernel_rfl) ?_
          have n1 : w.heap.size ≠ OB := by omega
          have n2 : w.heap.size ≤ OB := by omega
          go_wp2
          go_roundw
          case rel => exact ⟨j + 1, by go_num, ⟨by omega⟩, ⟨sha_far (w := wr) HS.out n1⟩, ⟨by rw [HX.out]; exact sha_put (w := wr) HO.out rfl⟩, ⟨(HBel.out.setCell n2 _).drew⟩⟩
          case measure => simp [intOf]; omega
        · obtain rfl : j = 8 := by omega
          clear hj hlt
          have n2 : w.heap.size ≤ OB := by omega
          go_wp2
          go_ret
          exact ⟨_, rfl, by have h := sha_R (l := sha_outTo l0 sf 8) HO.out n2 (by rw [sha_outTo_len]; decide); rw [sha_outTo_len] at h; rw [show sha_block l0 l1 = sha_outTo l0 sf 8 from by rw [HSF.out]; rfl]; exact h, HBel.out⟩
set_option maxHeartbeats 1000000 in
set_option maxRecDepth 100000 in
theorem sha_Block.no (A0 : Option Addr) (c0 : Nat) (l0 : List Int) (A1 : Option Addr) (c1 : Nat) (l1 : List Int) (w : World) (h : ¬ (l0.length = 8 ∧ l1.length = 64)) :
    Calls Try.prog 41 #[.slice A0 l0.length c0, .slice A1 l1.length c1] w fun e w' => ∃ v0_ : Value, e = .returned v0_ ∧ Kd.R (Kd.int .u32) 74 w' w.heap.size (fun _ => True) v0_ [] ∧ Below w.heap.size w w' := by
  by_cases h0 : l0.length = 8
  · have h1 : ¬ l1.length = 64 := fun h1 => h ⟨h0, h1⟩
    have b0 : ((l0.length : Int) != 8) = false := by simp; omega
    have b1 : ((l1.length : Int) != 64) = true := by simp; omega
    clear h
    go_enter Try.func41, Try.ntmps41
    go_wp2
    go_ret
    exact ⟨_, rfl, Kd.R_nil _ _ _ _ _, Below.refl _ _⟩
  · have b0 : ((l0.length : Int) != 8) = true := by simp; omega
    clear h
    go_enter Try.func41, Try.ntmps41
    go_wp2
    go_ret
    exact ⟨_, rfl, Kd.R_nil _ _ _ _ _, Below.refl _ _⟩
theorem sha_Block.calls (A0 : Option Addr) (c0 : Nat) (l0 : List Int) (A1 : Option Addr) (c1 : Nat) (l1 : List Int) (r : List Int) (w : World)
    (hr0 : Kd.C (Kd.int .u32) w A0 l0.length l0) (hc0 : l0.length ≤ c0) (hr1 : Kd.C (Kd.int .u8) w A1 l1.length l1) (hc1 : l1.length ≤ c1) (h : sha_Block.f l0 l1 = some r) :
    Calls Try.prog 41 #[.slice A0 l0.length c0, .slice A1 l1.length c1] w fun e w' => ∃ v0_ : Value, e = .returned v0_ ∧ Kd.R (Kd.int .u32) 74 w' w.heap.size (fun _ => True) v0_ r ∧ Below w.heap.size w w' := by
  unfold sha_Block.f at h
  by_cases hp : l0.length = 8 ∧ l1.length = 64
  · rw [if_pos hp] at h
    obtain rfl := Option.some.inj h
    exact sha_Block.yes A0 c0 l0 A1 c1 l1 w hr0 hc0 hr1 hc1 hp.1 hp.2
  · rw [if_neg hp] at h
    obtain rfl := Option.some.inj h
    exact sha_Block.no A0 c0 l0 A1 c1 l1 w hp
end Go.Proofs.Ytgkaklpgccjmpaa.Q
